/- ReadsFound. Text 7 of 17. -/
import Derived.Test.YtdgoeblpcnjlbaaGreatDoorM6
set_option linter.all false
set_option maxRecDepth 100000
set_option maxHeartbeats 64000000
namespace Go.Proofs.YtdgoeblpcnjlbaaGreatDoor.Av
open Go.RowKit List
theorem Zb (k:Int) (hk:k<1\/5<k) (r t v l:ByteArray) (ek en:Int) (es:ByteArray) (aR:List Ex) (a b:List St) (p:ByteArray) (ps:List ByteArray) (d:Int):
 af Tryz.prog 181 [encS (.mk k r t v l (.mk ek en es aR) a b p ps),.int .i64 d] (·=.int .i64 (rA k r t v l (.mk ek en es aR) (isNone ek en es aR) a.length b.length p ps d)):=by
 have uP:af Tryz.prog 158 [.int .i64 k,.int .i64 1,.int .i64 5] (·=.bool false):=by
  have:=t31 k 1 5;rwa[show(decide (1<=k) && decide (k<=5))=false by simp;omega]at this
 refine af.intro Qv 700 (by simp) 20 ?_;simp -implicitDefEqProofs only[Nt,ay,go_sem];repeat' (first | ((first | ((with_reducible refine bj uP ?_ ?_);(·simp[ae,al,cm])) | ((with_reducible apply cj);(·simp -implicitDefEqProofs only[List.map_cons,List.map_nil,push_cast,go_sem_proc]<;>rfl);(with_reducible exact uP);(·rfl)) | (with_reducible refine aD ?_));simp -implicitDefEqProofs only[go_sem]) | (with_reducible refine aA.mk ?_ ?_) | (with_reducible refine And.intro ?_ ?_) | ((with_reducible refine bz ?_);simp -implicitDefEqProofs only[Nu,push_cast,go_sem_proc]) | intro _)
 ·rename_i h;simp[rA,of_decide_eq_true h]
 ·rename_i h;simp[rA,of_decide_eq_false h,hk]
theorem t70 (k:Int) (r t v l:ByteArray) (ek en:Int) (es:ByteArray) (aR:List Ex) (a b:List St) (p:ByteArray) (ps:List ByteArray) (d:Int):
 af Tryz.prog 181 [encS (.mk k r t v l (.mk ek en es aR) a b p ps),.int .i64 d] (·=.int .i64 (rA k r t v l (.mk ek en es aR) (isNone ek en es aR) a.length b.length p ps d)):=by
 by_cases hk:k<1\/5<k
 ·exact Zb k hk r t v l ek en es aR a b p ps d
 ·have:k=1\/k=2\/k=3\/k=4\/k=5:=by omega
  rcases this with rfl | rfl | rfl | rfl | rfl
  ·exact Sw r t v l ek en es aR a b p ps d
  ·exact Sx r t v l ek en es aR a b p ps d
  ·exact Sy r t v l ek en es aR a b p ps d
  ·exact Sz r t v l ek en es aR a b p ps d
  ·exact SA r t v l ek en es aR a b p ps d
theorem t71 (x:Int):af Tryz.prog 182 [.fs [.int .i64 x,.int .i64 0]] (·=.int .i64 x):=by
 refine af.intro c71 300 (by simp) 20 ?_;simp -implicitDefEqProofs only[s71,go_sem];intro _;refine aL (fun m e H=>(m=2/\e 5=.fs [.int .i64 x,.int .i64 0]/\e 6=.int .i64 2/\e 7=.int .i64 0)\/(x=0/\m=1/\e 5=.fs [.int .i64 x,.int .i64 0]/\e 6=.int .i64 2/\e 7=.int .i64 1)\/(x=0/\m=0/\e 5=.fs [.int .i64 x,.int .i64 0]/\e 6=.int .i64 2/\e 7=.int .i64 2)) 2 (by simp[az,aC]) ?_;rintro m e H (⟨rfl,h5,h6,h7⟩ | ⟨hx,rfl,h5,h6,h7⟩ | ⟨hx,rfl,h5,h6,h7⟩)
 ·simp -implicitDefEqProofs only[h5,h6,h7,Int.reduceLT,Int.reduceAdd,go_sem];repeat' (first | ((with_reducible refine aD ?_);simp -implicitDefEqProofs only[go_sem]) | (with_reducible refine aA.mk ?_ ?_) | (with_reducible refine And.intro ?_ ?_) | ((with_reducible refine bz ?_);simp -implicitDefEqProofs only[WY,push_cast,go_sem_proc]) | intro _)
  ·rename_i h;refine⟨1,by omega,.inr (.inl ⟨by simpa using h,rfl,?_⟩)⟩;simp[az,h5,h6];decide
 ·simp -implicitDefEqProofs only[h5,h6,h7,Int.reduceLT,Int.reduceAdd,go_sem];refine⟨by simp[iD],?_⟩;repeat' (first | ((with_reducible refine aD ?_);simp -implicitDefEqProofs only[go_sem]) | (with_reducible refine aA.mk ?_ ?_) | (with_reducible refine And.intro ?_ ?_) | ((with_reducible refine bz ?_);simp -implicitDefEqProofs only[WY,push_cast,go_sem_proc]) | intro _)
  ·rename_i h;refine⟨0,by omega,.inr (.inr ⟨hx,rfl,?_⟩)⟩;simp[az,h5,h6];decide
 ·simp -implicitDefEqProofs only[h5,h6,h7,Int.reduceLT,go_sem];simp -implicitDefEqProofs only[WY,push_cast,go_sem_proc];exact hx.symm
theorem FV {α:Type} {l:List α} {i:Nat} {a:α} (h:l[i]? =some a):l.set i a=l:=by
 apply List.ext_getElem?
 intro j;rw[List.getElem?_set];split
 ·rename_i e;subst e;rw[if_pos (List.getElem?_eq_some_iff.1 h).1,h]
 ·rfl
theorem rD {H J:List ak} {m:Nat} {x:ak} (h:m<H.length):(H.set m x++J)[m]? =some x:=by
 rw[List.getElem?_append_left (by simpa using h),List.getElem?_set_self h]
theorem pH {H:List ak} {m:Nat} {es:List V} (h:ae es=true):∀(i:Nat) b',(H.set m (.row es))[i]? =some b'->H[i]? =some b'\/b'.nr=true:=by
 intro i wz hi;rw[List.getElem?_set]at hi;split at hi
 ·split at hi
  ·cases hi;exact .inr h
  ·cases hi
 ·exact .inl hi
theorem Zc (xs:List St) (d:Int) (uO:0<=d) (hd:d<=21) {H:List ak} {m:Nat} {c:Int} (hm:H[m]? =some (.row [.int .i64 c])) (zJ:0<=c) (hc:c+ai xs<=1000000)
 (h:∀k r t v l e a b p ps,St.mk k r t v l e a b p ps∈xs->∀d',0<=d'->d'<=21->∀(H:List ak) (m:Nat) (c:Int),H[m]? =some (.row [.int .i64 c])->0<=c->
   (c+ai a<=1000000->av Tryz.prog 126 [.fs (a.map encS),.int .i64 d',.ptr m 0 0] H (fun r H'=>r=.int .i64 (gA a d')/\∃c',H'=H.set m (.row [.int .i64 c'])/\(gA a d'=0->c'=c+ai a)))/\
   (c+ai b<=1000000->av Tryz.prog 126 [.fs (b.map encS),.int .i64 d',.ptr m 0 0] H (fun r H'=>r=.int .i64 (gA b d')/\∃c',H'=H.set m (.row [.int .i64 c'])/\(gA b d'=0->c'=c+ai b)))):
 av Tryz.prog 126 [.fs (xs.map encS),.int .i64 d,.ptr m 0 0] H (fun r H'=>r=.int .i64 (gA xs d)/\∃c',H'=H.set m (.row [.int .i64 c'])/\(gA xs d=0->c'=c+ai xs)):=by
 have kE:m<H.length:=(List.getElem?_eq_some_iff.1 hm).1;refine av.trim ?_;refine av.intro c55 400 (by simp) ?_;simp -implicitDefEqProofs only[kE,s55,ne_eq,not_false_eq_true,fv,fK,Nat.reduceMul,go_sem];intro hlen;refine aL (fun m' e H1=>∃pre post,xs=pre++post/\m'=post.length/\(∀y∈pre,sF y d=0)/\e 1=.int .i64 d/\e 2=.ptr m 0 0/\e 12=.fs (xs.map encS)/\e 13=.int .i64 xs.length/\e 14=.int .i64 pre.length/\
  ∃J,H1=H.set m (.row [.int .i64 (c+ai pre)])++J) xs.length ⟨[],xs,by simp[az,aC],rfl,by simp,by simp[az,aC],by simp[az,aC],by simp[az,aC],by simp[az,aC],by simp[az,aC],[],by
   simp[ai];exact(FV hm).symm⟩ ?_
 rintro m' e H1 ⟨pre,post,ao,rfl,hp,h1,h2,dU,eV,dG,J,rfl⟩;cases post with
 | nil=>
  simp -implicitDefEqProofs only[kE,h1,h2,dU,eV,dG,aI ao,ne_eq,not_false_eq_true,fv,fK,Nat.reduceMul,go_sem];simp -implicitDefEqProofs only[R8,kE,ne_eq,not_false_eq_true,fv,fK,Nat.reduceMul,push_cast,go_sem_proc];refine⟨_,J,rfl,by simp,pH (by simp[ae,al]),?_,c+ai pre,rfl,fun _=> ?_⟩
  ·rw[ao,jk pre [] _ hp];rfl
  ·rw[ao];simp
 | cons y post=>
  have hg:=aO encS ao;have hE:gA (pre++y::post) d=if sF y d≠0 then sF y d else gA post d:=by rw[jk pre _ _ hp,gA]
  have zP:ai xs=ai pre+(dA y+ai post):=by rw[ao,aX,ai]
  generalize Jv:sF y d=yr at*;generalize EI:kq y d=ys;have rX:20<d->ys=2:=fun hh=>by rw[<-EI];exact BT hh
  rcases y with⟨k,r,t,v,l,⟨ek,en,es,aR⟩,a,b,p,ps⟩
  simp only[dA]at zP;have W5:=t70 k r t v l ek en es aR a b p ps d;rw[show rA k r t v l (.mk ek en es aR) (isNone ek en es aR) a.length b.length p ps d=ys from EI]at W5;rw[ay]at hg W5;have EJ:yr=if ys≠0 then ys else if gA a (d+1)≠0 then gA a (d+1)else gA b (d+1):=by rw[<-Jv,sF,EI]
  have zL:=bP (x:=c+ai pre+1) (by omega) (by omega);simp -implicitDefEqProofs only[kE,h1,h2,dU,eV,dG,hg,an ao,aa ao hlen,zL,ne_eq,not_false_eq_true,fv,fK,Nat.reduceMul,go_sem];repeat' (first | ((first | ((with_reducible refine bj W5 ?_ ?_);(·simp[ae,al,cm])) | ((with_reducible apply cj);(·simp -implicitDefEqProofs only[List.map_cons,List.map_nil,ne_eq,not_false_eq_true,fv,fK,Nat.reduceMul,push_cast,go_sem_proc]<;>rfl);(with_reducible exact W5);(·rfl)) | (with_reducible refine aD ?_));simp -implicitDefEqProofs only[kE,h1,h2,dU,eV,dG,hg,an ao,aa ao hlen,zL,ne_eq,not_false_eq_true,fv,fK,Nat.reduceMul,go_sem]) | (with_reducible refine aA.mk ?_ ?_) | (with_reducible refine And.intro ?_ ?_) | ((with_reducible refine bz ?_);simp -implicitDefEqProofs only[R8,ne_eq,not_false_eq_true,fv,fK,Nat.reduceMul,push_cast,go_sem_proc]) | intro _)
  ·rename_i rB;have rB:ys≠0:=by simpa using rB
   refine⟨_,_,rfl,by simp,pH (by simp[ae,al]),?_,_,rfl,fun h0=> ?_⟩
   ·rw[ao,hE,EJ,if_pos rB,if_pos rB]
   ·rw[ao,hE,EJ,if_pos rB,if_pos rB]at h0;exact absurd h0 rB
  ·rename_i rB;have rB:ys=0:=by simpa using rB
   have NC:d<=20:=by
    refine Classical.byContradiction fun hh=> ?_
    have:=rX (by omega);omega
   have hw:=wrap_small (d:=d) (by omega) (by omega);have hh:=h k r t v l (.mk ek en es aR) a b p ps (by rw[ao];simp) (d+1) (by omega) (by omega);generalize gA a (d+1)=fa at*;generalize gA b (d+1)=fb at*;rw[hw];refine av.mono ((hh _ m _ (rD kE) (by omega)).1 (by omega)) ?_;rintro _ _ ⟨rfl,c',rfl,zI⟩;simp -implicitDefEqProofs only[kE,h1,h2,dU,eV,dG,hg,an ao,aa ao hlen,zL,hw,ne_eq,not_false_eq_true,fv,fK,Nat.reduceMul,go_sem];repeat' (first | ((first | ((with_reducible refine bj (t71 fa) ?_ ?_);(·simp[ae,al,cm])) | ((with_reducible apply cj);(·simp -implicitDefEqProofs only[List.map_cons,List.map_nil,ne_eq,not_false_eq_true,fv,fK,Nat.reduceMul,push_cast,go_sem_proc]<;>rfl);(with_reducible exact(t71 fa));(·rfl)) | (with_reducible refine aD ?_));simp -implicitDefEqProofs only[kE,h1,h2,dU,eV,dG,hg,an ao,aa ao hlen,zL,hw,ne_eq,not_false_eq_true,fv,fK,Nat.reduceMul,go_sem]) | (with_reducible refine aA.mk ?_ ?_) | (with_reducible refine And.intro ?_ ?_) | ((with_reducible refine bz ?_);simp -implicitDefEqProofs only[R8,ne_eq,not_false_eq_true,fv,fK,Nat.reduceMul,push_cast,go_sem_proc]) | intro _)
   ·rename_i hf;have hf:fa≠0:=by simpa using hf
    refine⟨_,_,rfl,by simp,pH (by simp[ae,al]),?_,_,rfl,fun h0=> ?_⟩
    ·rw[ao,hE,EJ,rB];simp[hf]
    ·rw[ao,hE,EJ,rB]at h0;simp[hf]at h0
   ·rename_i hf;have hf:fa=0:=by simpa using hf
    have zI:=zI hf;refine av.mono ((hh _ m _ (rD kE) (by omega)).2 (by omega)) ?_;rintro _ _ ⟨rfl,c2,rfl,j8⟩;simp -implicitDefEqProofs only[kE,h1,h2,dU,eV,dG,hg,an ao,aa ao hlen,zL,hw,ne_eq,not_false_eq_true,fv,fK,Nat.reduceMul,go_sem];repeat' (first | ((with_reducible refine aD ?_);simp -implicitDefEqProofs only[kE,h1,h2,dU,eV,dG,hg,an ao,aa ao hlen,zL,hw,ne_eq,not_false_eq_true,fv,fK,Nat.reduceMul,go_sem]) | (with_reducible refine aA.mk ?_ ?_) | (with_reducible refine And.intro ?_ ?_) | ((with_reducible refine bz ?_);simp -implicitDefEqProofs only[R8,ne_eq,not_false_eq_true,fv,fK,Nat.reduceMul,push_cast,go_sem_proc]) | intro _)
    ·rename_i jO;have jO:fb≠0:=by simpa using jO
     refine⟨_,_,rfl,by simp,pH (by simp[ae,al]),?_,_,rfl,fun h0=> ?_⟩
     ·rw[ao,hE,EJ,rB,hf];simp[jO]
     ·rw[ao,hE,EJ,rB,hf]at h0;simp[jO]at h0
    ·rename_i jO;have jO:fb=0:=by simpa using jO
     have j8:=j8 jO;refine⟨_,Nat.lt_succ_self _,pre++ [_],post,by simp[ao];rfl,rfl,fun z hz=> ?_,by simp,?_⟩
     ·rcases List.mem_append.1 hz with hz | hz
      ·exact hp z hz
      ·simp at hz;subst hz;rw[Jv,EJ,rB,hf,jO];simp
     ·have hq:c2=c+((ai (pre++ [.mk k r t v l (.mk ek en es aR) a b p ps]):Nat):Int):=by
       rw[j8,zI,aX];simp only[ai,dA];omega
      rw[<-hq];exact⟨_,rfl⟩
theorem t55:∀(n:Nat) (xs:List St),SizeOf.sizeOf xs<n->∀d:Int,0<=d->d<=21->∀(H:List ak) (m:Nat) (c:Int),H[m]? =some (.row [.int .i64 c])->0<=c->c+ai xs<=1000000->
 av Tryz.prog 126 [.fs (xs.map encS),.int .i64 d,.ptr m 0 0] H (fun r H'=>r=.int .i64 (gA xs d)/\∃c',H'=H.set m (.row [.int .i64 c'])/\(gA xs d=0->c'=c+ai xs))
 | 0,xs,h,_,_,_,_,_,_,_,_,_=>absurd h (Nat.not_lt_zero _)
 | n+1,xs,hn,d,h1,h2,H,m,c,hm,zJ,hc=>Zc xs d h1 h2 hm zJ hc (fun k r t v l e a b p ps da d' h3 h4 H m c hm zJ=>by
  have hs:=List.sizeOf_lt_of_mem da;simp only[St.mk.sizeOf_spec]at hs;exact⟨fun hc=>t55 n a (by omega) d' h3 h4 H m c hm zJ hc,fun hc=>t55 n b (by omega) d' h3 h4 H m c hm zJ hc⟩)
theorem FW {H:List ak} {id:Nat} {l:List ByteArray} {n:Nat} (h:H[id]? =some (.row (l.map V.str))):fz H (n+2) (.ms id 0 l.length)=some (.fs (l.map V.str)):=by
 rw[iu,h,ef,if_pos (by simp),List.drop_zero,List.take_of_length_le (by simp),dg _ _ (fun x=>dN _ _ x)];rfl
theorem SC {H:List ak} {K:V->List ak->Prop} {id:Nat} {l:List ByteArray} {x:ByteArray} (h:H[id]? =some (.row (l.map V.str))) (hk:K (.bool (l.any fun y=>decide (x=y))) H):
 av Tryz.prog 51 [.ms id 0 l.length,.str x] H K:=
 pz 20 (by rw[b7,b7,cN,FW h,dN,dR,dR]) (t29 l x) rfl hk
theorem SD {H:List ak} {K:V->List ak->Prop} {x:ByteArray} (hk:K (.bool false) H):
 av Tryz.prog 51 [.ag,.str x] H K:=
 pz 20 (by rw[b7,b7,cN,fQ,dN,dR,dR];rfl) (t29 [] x) rfl hk
def KV (pre:List Pr) (kv:V) (J:List ak):Prop:=(pre=[]/\kv=.ag)\/(pre≠ []/\∃id,kv=.ms (id+2) 0 (pre.map (·.name)).length/\J[id]? =some (.row ((pre.map (·.name)).map .str)))
theorem KV.cont {pre:List Pr} {kv:V} {J J2:List ak} {A B:ak} {x:ByteArray} {K:V->List ak->Prop} (h:KV pre kv J) (hk:K (.bool (pre.any fun z=>decide (z.name=x))) (A::B::(J++J2))):
 av Tryz.prog 51 [kv,.str x] (A::B::(J++J2)) K:=by
 rcases h with⟨rfl,rfl⟩ | ⟨hn,id,rfl,hJ⟩
 ·exact SD hk
 ·refine SC (l:=pre.map (·.name)) ?_ ?_
  ·rw[List.getElem?_cons_succ,List.getElem?_cons_succ,List.getElem?_append_left (List.getElem?_eq_some_iff.1 hJ).1];exact hJ
  ·rw[List.any_map];have:((fun y=>decide (x=y))∘fun z:Pr=>z.name)=fun z=>decide (z.name=x):=by funext z;simp[eq_comm]
   rw[this];exact hk
theorem eY {pre:List Pr} {q:Pr} {post:List Pr} (h:pF pre q≠0):rC pre (q::post)=pF pre q:=by rw[rC,if_pos h]
theorem t24 (P:bH) (hc:total P<=1000000):af Tryz.prog 46 [aP P] (·=.int .i64 (np P)):=by
 rcases P with⟨xs,main⟩
 have hT:total ⟨xs,main⟩=ai main+bD xs:=rfl;rw[hT]at hc;refine af.intro c24 300 (by simp) 20 ?_;simp -implicitDefEqProofs only[s24,aP,go_sem];repeat' (first | ((with_reducible refine aD ?_);simp -implicitDefEqProofs only[go_sem]) | (with_reducible refine aA.mk ?_ ?_) | (with_reducible refine And.intro ?_ ?_) | ((with_reducible refine bz ?_);simp -implicitDefEqProofs only[Ns,push_cast,go_sem_proc]) | intro _)
 ·rename_i oQ;have oQ:xs.length>50:=by simp at oQ;omega
  simp only[np,if_pos oQ]
 ·rename_i hlen oQ _;have oQ:¬xs.length>50:=by simp at oQ;omega
  have Am:∀pre post,xs=pre++post->rC [] xs=rC pre post->rC pre post≠0->np ⟨xs,main⟩=rC pre post:=by
   intro pre post hx hp hn;rw[np,if_neg oQ];simp only[hp,if_pos hn]
  have NF:=t55 _ main (Nat.lt_succ_self _) 1 (by omega) (by omega);refine aL (fun m e H=>∃pre post J kv,xs=pre++post/\m=post.length/\rC [] xs=rC pre post/\H=[ak.row [.agg [.fs (xs.map aF),.fs (main.map encS)]],ak.row [.int .i64 (bD pre)]]++J/\e 1=.ptr 0 0 0/\e 3=.ptr 1 0 0/\e 16=.fs (xs.map aF)/\e 17=.int .i64 xs.length/\e 18=.int .i64 pre.length/\
   e 4=kv/\KV pre kv J) xs.length ⟨[],xs,[],.ag,by simp[az,aC,bD,KV]⟩ ?_
  rintro m e H ⟨pre,post,J,kv,ao,rfl,jA,rfl,h1,h3,cZ,ea,ft,h4,eJ⟩;cases post with
  | nil=>
   have ev:pre=xs:=by rw[ao];simp
   simp -implicitDefEqProofs only[h1,h3,cZ,ea,ft,aI ao,go_sem];refine av.mono (NF _ 1 (bD pre) rfl (by omega) (by rw[ev];omega)) ?_;rintro _ _ ⟨rfl,c',rfl,zI⟩;simp -implicitDefEqProofs only[h1,h3,cZ,ea,ft,aI ao,go_sem];repeat' (first | ((with_reducible refine aD ?_);simp -implicitDefEqProofs only[h1,h3,cZ,ea,ft,aI ao,go_sem]) | (with_reducible refine aA.mk ?_ ?_) | (with_reducible refine And.intro ?_ ?_) | ((with_reducible refine bz ?_);simp -implicitDefEqProofs only[Ns,push_cast,go_sem_proc]) | intro _)
   all_goals (simp only[np,if_neg oQ,jA,rC,hT])
   all_goals (generalize gA main 1=S at*)
   ·rename_i hS;have hS:S≠0:=by simpa using hS
    simp[hS]
   ·rename_i Zd hS;have hS:S=0:=by simp at hS;exact hS
    have j8:=zI hS;have Ze:ai main+bD xs>2000:=by simp at Zd;rw[<-ev];omega
    simp[hS,Ze]
   ·rename_i Zd hS;have hS:S=0:=by simp at hS;exact hS
    have j8:=zI hS;have Ze:¬ai main+bD xs>2000:=by simp at Zd;rw[<-ev];omega
    simp[hS,Ze]
  | cons q post=>
   have hg:=aO aF ao;simp only[aF]at hg;have Qw:bD xs=bD pre+(ai q.steps+bD post):=by rw[ao,bE,bD]
   have hP:=Am pre (q::post) ao jA;simp -implicitDefEqProofs only[h1,h3,cZ,ea,ft,h4,an ao,aa ao hlen,hg,go_sem];repeat' (first | ((first | ((with_reducible refine bj (t54 _) ?_ ?_);(·simp[ae,al,cm])) | ((with_reducible apply cj);(·simp -implicitDefEqProofs only[List.map_cons,List.map_nil,push_cast,go_sem_proc]<;>rfl);(with_reducible exact(t54 _));(·rfl)) | (with_reducible refine aD ?_));simp -implicitDefEqProofs only[h1,h3,cZ,ea,ft,h4,an ao,aa ao hlen,hg,go_sem]) | (with_reducible refine aA.mk ?_ ?_) | (with_reducible refine And.intro ?_ ?_) | ((with_reducible refine bz ?_);simp -implicitDefEqProofs only[Ns,push_cast,go_sem_proc]) | intro _)
   ·rename_i hn;have hn:dt q.name=false:=by simpa using hn
    have pI:pF pre q=5:=by simp[pF,hn]
    rw[hP (by rw[eY (by rw[pI];decide),pI];decide),eY (by rw[pI];decide),pI]
   ·rename_i hn;have hn:dt q.name=true:=by simpa using hn
    refine eJ.cont ?_;simp -implicitDefEqProofs only[h1,h3,cZ,ea,ft,h4,an ao,aa ao hlen,hg,go_sem];repeat' (first | ((with_reducible refine aD ?_);simp -implicitDefEqProofs only[h1,h3,cZ,ea,ft,h4,an ao,aa ao hlen,hg,go_sem]) | (with_reducible refine aA.mk ?_ ?_) | (with_reducible refine And.intro ?_ ?_) | ((with_reducible refine bz ?_);simp -implicitDefEqProofs only[Ns,push_cast,go_sem_proc]) | intro _)
    ·rename_i hB;have pI:pF pre q=6:=by rw[pF];simp only[hn,hB];simp
     rw[hP (by rw[eY (by rw[pI];decide),pI];decide),eY (by rw[pI];decide),pI]
    ·rename_i hB;rename_i h8;have pI:pF pre q=8:=by rw[pF];simp only[hn];generalize (pre.any fun z=>decide (z.name=q.name))=B at*;simp_all
     rw[hP (by rw[eY (by rw[pI];decide),pI];decide),eY (by rw[pI];decide),pI]
    ·rename_i h8;have pI:pF pre q=2:=by
      rw[pF];simp only[hn];generalize (pre.any fun z=>decide (z.name=q.name))=B at*;generalize q.au.length=n at*;clear hg eJ hP Am NF;simp_all;try omega
     rw[hP (by rw[eY (by rw[pI];decide),pI];decide),eY (by rw[pI];decide),pI]
    ·have u7:pF pre q=if pG [] q.au≠0 then pG [] q.au else gA q.steps 1:=by
      clear hg eJ hP Am NF;simp only[pF];generalize q.au.length=n at*;generalize pG [] q.au=R;generalize (pre.any fun z=>decide (z.name=q.name))=B at*;simp_all
      try(intro h;exfalso;omega)
     have cX:q.au.length<=9223372036854775807:=by assumption
     have NG:=t55 _ q.steps (Nat.lt_succ_self _) 1 (by omega) (by omega);refine aL (fun m e H=>∃p2 q2,q.au=p2++q2/\m=q2.length/\pG [] q.au=pG p2 q2/\H=ak.row [.agg [.fs (xs.map aF),.fs (main.map encS)]]::ak.row [.int .i64 (bD pre)]::(J++ [ak.row [.agg [.str q.name,.fs (q.au.map .str),.fs (q.steps.map encS)]]])/\
      e 1=.ptr 0 0 0/\e 3=.ptr 1 0 0/\e 16=.fs (xs.map aF)/\e 17=.int .i64 xs.length/\e 18=.int .i64 pre.length/\e 4=kv/\e 6=.ptr (J.length+2) 0 0/\e 43=.fs (q.au.map .str)/\e 44=.int .i64 q.au.length/\e 45=.int .i64 p2.length) q.au.length
      ⟨[],q.au,by simp[az,aC,h1,h3,cZ,ea,ft,h4]⟩ ?_
     rintro m e H ⟨p2,q2,hq,rfl,hro,rfl,h1,h3,cZ,ea,ft,h4,h6,FX,Lj,tJ⟩;cases q2 with
     | nil=>
      simp -implicitDefEqProofs only[h1,h3,cZ,ea,ft,h4,h6,FX,Lj,tJ,aI hq,go_sem];refine av.mono (NG _ 1 (bD pre) rfl (by omega) (by omega)) ?_;rintro _ _ ⟨rfl,c',rfl,zI⟩;have hro:pG [] q.au=0:=by rw[hro];simp[pG]
      have u7:pF pre q=gA q.steps 1:=by rw[u7,hro];simp
      generalize gA q.steps 1=S at*;simp -implicitDefEqProofs only[h1,h3,cZ,ea,ft,h4,h6,FX,Lj,tJ,aI hq,go_sem];repeat' (first | ((with_reducible refine aD ?_);simp -implicitDefEqProofs only[h1,h3,cZ,ea,ft,h4,h6,FX,Lj,tJ,aI hq,go_sem]) | (with_reducible refine aA.mk ?_ ?_) | (with_reducible refine And.intro ?_ ?_) | ((with_reducible refine bz ?_);simp -implicitDefEqProofs only[Ns,push_cast,go_sem_proc]) | intro _)
      ·rename_i hS;have hS:S≠0:=by simpa using hS
       rw[hP (by rw[eY (by rw[u7];exact hS),u7];exact hS),eY (by rw[u7];exact hS),u7]
      ·rename_i hS;have hS:S=0:=by simpa using hS
       have j8:=zI hS;have SE:rC [] xs=rC (pre++ [q]) post:=by rw[jA,rC,u7,hS];simp
       obtain rfl:c'=((bD (pre++ [q]):Nat):Int):=by rw[j8,bE];simp[bD]
       rcases eJ with⟨rfl,hk⟩ | ⟨pn,id,hk,hJ⟩
       ·simp -implicitDefEqProofs only[hk,h1,h3,cZ,ea,ft,h6,FX,Lj,tJ,an ao,aa ao hlen,go_sem];refine⟨fun h=>h.elim,fun _=>⟨by omega,_,Nat.lt_succ_self _,[q],post,_,_,by simp[ao],rfl,SE,rfl,?_,rfl,.inr ⟨by simp,J.length+1,rfl,?_⟩⟩⟩
        ·rfl
        ·simp
       ·have jl:=(List.getElem?_eq_some_iff.1 hJ).1;have Zf:∀l,(J++l)[id]? =some (.row ((pre.map (·.name)).map .str)):=fun l=>by rw[List.getElem?_append_left jl];exact hJ
        have pJ:∀l x,(J++l).set id x=J.set id x++l:=fun l x=>List.set_append_left _ _ jl
        simp -implicitDefEqProofs only[hk,Zf,pJ,bV,h1,h3,cZ,ea,ft,h6,FX,Lj,tJ,an ao,aa ao hlen,go_sem];refine⟨⟨by simp[pn],fun _ _ _ h=>h.elim,?_⟩,_,Nat.lt_succ_self _,pre++ [q],post,_,_,by simp[ao],rfl,SE,rfl,by simp,rfl,.inr ⟨by simp,J.length+1,by simp,?_⟩⟩
        ·have:pre.length<=xs.length:=by rw[ao];simp
         omega
        ·simp
     | cons y q2=>
      have gB:=aO V.str hq;have tH:=gv V.str hq;have jf:(p2.length:Int)<=q.au.length:=by rw[hq];simp;omega
      simp -implicitDefEqProofs only[h1,h3,cZ,ea,ft,h4,h6,FX,Lj,tJ,gB,an hq,aa hq cX,bV,jf,tH,Int.le_refl,Int.natCast_nonneg,go_sem];repeat' (first | ((first | ((with_reducible first | refine bj (t54 y) ?_ ?_ | refine bj (t29 p2 y) ?_ ?_);(·simp[ae,al,cm])) | ((with_reducible apply cj);(·simp -implicitDefEqProofs only[List.map_cons,List.map_nil,push_cast,go_sem_proc]<;>rfl);(with_reducible first | exact(t54 y) | exact(t29 p2 y));(·rfl)) | (with_reducible refine aD ?_));simp -implicitDefEqProofs only[h1,h3,cZ,ea,ft,h4,h6,FX,Lj,tJ,gB,an hq,aa hq cX,bV,jf,tH,Int.le_refl,Int.natCast_nonneg,go_sem]) | (with_reducible refine aA.mk ?_ ?_) | (with_reducible refine And.intro ?_ ?_) | ((with_reducible refine bz ?_);simp -implicitDefEqProofs only[Ns,push_cast,go_sem_proc]) | intro _)
      ·rename_i hy;have hy:dt y=false:=by simpa using hy
       have Zg:pG [] q.au=5:=by rw[hro];simp[pG,hy]
       have pI:pF pre q=5:=by rw[u7,Zg];simp
       rw[hP (by rw[eY (by rw[pI];decide),pI];decide),eY (by rw[pI];decide),pI]
      ·rename_i hy hm;have hy:dt y=true:=by simpa using hy
       have Zg:pG [] q.au=6:=by rw[hro];simp only[pG,hy,hm];simp
       have pI:pF pre q=6:=by rw[u7,Zg];simp
       rw[hP (by rw[eY (by rw[pI];decide),pI];decide),eY (by rw[pI];decide),pI]
      ·rename_i hy hm;have hy:dt y=true:=by simpa using hy
       refine⟨_,Nat.lt_succ_self _,p2++ [y],q2,by simp[hq],rfl,?_,by simp[h1,h3,cZ,ea,ft,h4,h6,FX,Lj]⟩;rw[hro];simp only[pG,hy,hm];simp
abbrev mV:=St×Int×Bool
def NH:V->List V
 | .agg cs=>cs
 | _=> []
def encSp (x:mV):V:=.agg (NH (encS x.1)++ [.int .i64 x.2.1,.bool x.2.2])
theorem iw (k:Int) (r t v l:ByteArray) (ek en:Int) (es:ByteArray) (aR:List Ex) (a b:List St) (p:ByteArray) (ps:List ByteArray) (pr:Int) (la:Bool):
 encSp (.mk k r t v l (.mk ek en es aR) a b p ps,pr,la)=.agg [.int .i64 k,.str r,.str t,.str v,.str l,.int .i64 ek,.int .i64 en,.str es,.fs (aR.map bu),.fs (a.map encS),.fs (b.map encS),.str p,.fs (ps.map .str),.int .i64 pr,.bool la]:=by
 rw[encSp,ay];rfl
mutual
def nu:St->Int->Bool->List mV
 | .mk k r t v l e a b p ps,pr,la=>(.mk k r t v l e a b p ps,pr,la)::(gC a pr la++gC b pr la)
def gC:List St->Int->Bool->List mV
 | [],_,_=> []
 | x::l,pr,la=>nu x pr (la && l.isEmpty)++gC l pr la
end
def yL (H:List ak) (o:Nat) (kv:V) (yM:List V) (H':List ak):Prop:=
 H.length<=H'.length/\∃bN,H'[o]? =some (.row [bN])/\OV H' bN yM/\∀j,j<H.length->j≠o->a7 kv j->H'[j]? =H[j]? /\a7 bN j
theorem fR {α:Type} {xs pre post:List α} {y:α} (h:xs=pre++y::post) (hl:xs.length<=9223372036854775807):IntKind.i64.wrap ((xs.length:Int) - 1)=(xs.length:Int) - 1:=by
 subst h;simp[IntKind.wrap,IntKind.signed,IntKind.bits];simp at hl;omega
theorem eO {α:Type} {xs pre post:List α} {y:α} (h:xs=pre++y::post):decide ((pre.length:Int)=(xs.length:Int) - 1)=post.isEmpty:=by
 subst h;cases post with
 | nil=>simp
 | cons z l=>simp;omega
theorem OV.ne {H:List ak} {kv:V} {acc:List mV} {o:Nat} (h:OV H kv (acc.map encSp)) (ho:H[o]? =some (.row [kv])):a7 kv o:=by
 rintro a b rfl;rcases h with⟨_,h⟩ | ⟨_,id,h,hid⟩
 ·cases h
 ·cases h;rw[ho]at hid;cases acc with
  | nil=>simp at hid
  | cons x l=>simp[encSp]at hid
mutual
theorem jm:∀(x:St) (pr:Int) (la:Bool),(nu x pr la).length=dA x
 | .mk k r t v l e a b p ps,pr,la=>by simp[nu,dA,er a,er b];omega
theorem er:∀(l:List St) (pr:Int) (la:Bool),(gC l pr la).length=ai l
 | [],_,_=>rfl
 | x::l,pr,la=>by simp[gC,ai,jm x,er l]
end
theorem Dr (l:List mV):df 15 (l.map encSp):=cA _ _ (fun x=>by
 rcases x with⟨⟨k,r,t,v,l,⟨ek,en,es,aR⟩,a,b,p,ps⟩,pr,la⟩;rw[iw];rfl) l
theorem Zh (xs:List St) (pr:Int) (la:Bool) (o q:Nat) (acc:List mV) (H:List ak) (kv:V) (ho:H[o]? =some (.row [kv])) (hq:H[q]? =some (.row [.a6 127 [] [.ptr o 0 0,.ptr q 0 0]])) (uQ:q≠o) (Ie:a7 kv q)
 (bm:OV H kv (acc.map encSp)) (eW:acc.length+ai xs<=1000000)
 (h:∀k r t v l e a b p ps,St.mk k r t v l e a b p ps∈xs->∀(la:Bool) (acc:List mV) (H:List ak) (kv:V),H[o]? =some (.row [kv])->H[q]? =some (.row [.a6 127 [] [.ptr o 0 0,.ptr q 0 0]])->a7 kv q->OV H kv (acc.map encSp)->
   (acc.length+ai a<=1000000->av Tryz.prog 127 [.fs (a.map encS),.int .i64 pr,.bool la,.ptr o 0 0,.ptr q 0 0] H (fun r H'=>r=.dJ []/\yL H o kv ((acc++gC a pr la).map encSp) H'))/\
   (acc.length+ai b<=1000000->av Tryz.prog 127 [.fs (b.map encS),.int .i64 pr,.bool la,.ptr o 0 0,.ptr q 0 0] H (fun r H'=>r=.dJ []/\yL H o kv ((acc++gC b pr la).map encSp) H'))):
 av Tryz.prog 127 [.fs (xs.map encS),.int .i64 pr,.bool la,.ptr o 0 0,.ptr q 0 0] H (fun r H'=>r=.dJ []/\yL H o kv ((acc++gC xs pr la).map encSp) H'):=by
 refine av.intro c56 400 (by simp) ?_;simp -implicitDefEqProofs only[s56,go_sem];intro hlen;refine aL (fun m e H1=>∃pre post ve,xs=pre++post/\m=post.length/\gC xs pr la=ve++gC post pr la/\ve.length<=ai pre/\e 0=.fs (xs.map encS)/\e 1=.int .i64 pr/\e 2=.bool la/\e 3=.ptr o 0 0/\e 4=.ptr q 0 0/\e 11=.fs (xs.map encS)/\e 12=.int .i64 xs.length/\e 13=.int .i64 pre.length/\
  yL H o kv ((acc++ve).map encSp) H1) xs.length ⟨[],xs,[],by simp[az,aC,ai],rfl,by simp,by simp,by simp[az,aC],by simp[az,aC],by simp[az,aC],by simp[az,aC],by simp[az,aC],by simp[az,aC],by simp[az,aC],by simp[az,aC],Nat.le_refl _,kv,ho,by simpa using bm,fun j _ _ h=>⟨rfl,h⟩⟩ ?_
 rintro m e H1 ⟨pre,post,ve,ao,rfl,MM,W6,h0,h1,h2,h3,h4,ez,dU,eV,hle,kv1,va,pK,cp⟩;cases post with
 | nil=>
  simp -implicitDefEqProofs only[h0,h1,h2,h3,h4,ez,dU,eV,aI ao,go_sem];simp -implicitDefEqProofs only[r56,push_cast,go_sem_proc];rw[MM];simp only[gC,List.append_nil];exact⟨hle,kv1,va,pK,cp⟩
 | cons y post=>
  have hg:=aO encS ao;have zP:ai xs=ai pre+(dA y+ai post):=by rw[ao,aX,ai]
  have Qs:q<H.length:=(List.getElem?_eq_some_iff.1 hq).1;have lB:o<H1.length:=(List.getElem?_eq_some_iff.1 va).1;have pL:q<H1.length:=Nat.lt_of_lt_of_le Qs hle;obtain⟨jB,Zi⟩:=cp q Qs uQ Ie;rw[hq]at jB;have pM:o≠q:=fun h=>uQ h.symm
  rcases y with⟨k,r,t,v,l,⟨ek,en,es,aR⟩,a,b,p,ps⟩
  simp only[dA]at zP;rw[ay]at hg;have hh:=h k r t v l (.mk ek en es aR) a b p ps (by rw[ao];simp);have hAg:(acc++ve).length<=acc.length+ai pre:=by simp;exact W6
  have Zj:=OV.ne pK va;generalize hF:encSp (.mk k r t v l (.mk ek en es aR) a b p ps,pr,la && post.isEmpty)=SP;have hSP:=hF;rw[iw]at hF;have dr:∀{e:Bool},encSp (.mk k r t v l (.mk ek en es aR) a b p ps,pr,e)=.agg [.int .i64 k,.str r,.str t,.str v,.str l,.int .i64 ek,.int .i64 en,.str es,.fs (aR.map bu),.fs (a.map encS),.fs (b.map encS),.str p,.fs (ps.map .str),.int .i64 pr,.bool e]:=fun{e}=>iw ..
  have Lk:∀(l:List ak) x,(H1.set o x++l)[o]? =some x:=fun l x=>by rw[List.getElem?_append_left (by simpa using lB),List.getElem?_set_self lB]
  have W7:∀(l:List ak) x,(H1.set o x++l)[q]? =H1[q]? :=fun l x=>by rw[List.getElem?_append_left (by simpa using pL),List.getElem?_set_ne pM]
  have Ax:∀(l:List ak) (z:ak) x,(H1.set o x++z::l)[H1.length]? =some z:=fun l z x=>by rw[List.getElem?_append_right (by simp)];simp
  have WL:∀(l:List ak) x j,j<H1.length->j≠o->(H1.set o x++l)[j]? =H1[j]? :=fun l x j h1 h2=>by rw[List.getElem?_append_left (by simpa using h1),List.getElem?_set_ne (fun h=>h2 h.symm)]
  rcases pK with⟨Zk,Jy⟩ | ⟨W8,id,Jy,hid⟩
  ·have xQ:acc++ve=[]:=by simpa using Zk
   cases la
   ·simp -implicitDefEqProofs only[Jy,h0,h1,h2,h3,h4,ez,dU,eV,an ao,aa ao hlen,hg,va,jB,lB,pL,uQ,pM,fR ao hlen,eO ao,Bool.false_and,Bool.true_and,ne_eq,not_false_eq_true,fv,fK,Nat.reduceMul,go_sem];try intro _
    refine av.mono ((hh false (acc++ve++ [(.mk k r t v l (.mk ek en es aR) a b p ps,pr,false)]) _ (.ms (H1.length+1) 0 1) ?hoG0 ?hqG0 ?hkG0 ?hovG0).1 ?hszG0) ?_
    case hoG0=>exact Lk _ _
    case hqG0=>exact(W7 _ _).trans jB
    case hkG0=>intro a b h;injection h;omega
    case hovG0=>exact .inr ⟨by simp,_,by rw[xQ];rfl,by rw[xQ];simp[List.getElem?_append_right,dr]⟩
    case hszG0=>rw[List.length_append];simp only[List.length_cons,List.length_nil];omega
    rintro _ H2 ⟨rfl,rZ,fH,C9,bJ,iS⟩;obtain⟨jI,Ay⟩:=iS q (by simp;omega) uQ (fun a b h=>by injection h;omega);obtain⟨BU,NI⟩:=iS H1.length (by simp) (by omega) (fun a b h=>by injection h;omega);rw[(W7 _ _).trans jB]at jI;rw[Ax]at BU;simp -implicitDefEqProofs only[h0,h1,h2,h3,h4,ez,dU,eV,an ao,aa ao hlen,hg,va,jB,lB,pL,uQ,pM,fR ao hlen,eO ao,Bool.false_and,Bool.true_and,jI,BU,go_sem];refine av.mono ((hh _ _ _ _ C9 jI Ay bJ).2 (by rw[List.length_append,List.length_append,er];simp only[List.length_cons,List.length_nil];omega)) ?_;rintro _ H3 ⟨rfl,Jz,Az,IX,nv,yN⟩;simp -implicitDefEqProofs only[h0,h1,h2,h3,h4,ez,dU,eV,an ao,aa ao hlen,hg,va,jB,lB,pL,uQ,pM,fR ao hlen,eO ao,Bool.false_and,Bool.true_and,go_sem];simp only[List.length_append,List.length_set,List.length_cons,List.length_nil]at rZ iS;refine⟨_,Nat.lt_succ_self _,pre++ [.mk k r t v l (.mk ek en es aR) a b p ps],post,ve++nu (.mk k r t v l (.mk ek en es aR) a b p ps) pr false,by rw[ao];simp,rfl,?_,?_,?_,by omega,Az,IX,?_,?_⟩
    ·rw[MM,gC];simp
    ·rw[List.length_append,jm,aX];simp only[ai,dA];omega
    ·simp
    ·simpa[nu]using nv
    ·intro j hj sy rY;obtain⟨EF,vK⟩:=cp j hj sy rY;obtain⟨Ds,NJ⟩:=iS j (by omega) sy (fun a b h=>by injection h;omega);obtain⟨NK,hj6⟩:=yN j (by omega) sy NJ;refine⟨?_,hj6⟩;rw[NK,Ds,WL _ _ j (by omega) sy,EF]
   ·simp -implicitDefEqProofs only[Jy,h0,h1,h2,h3,h4,ez,dU,eV,an ao,aa ao hlen,hg,va,jB,lB,pL,uQ,pM,fR ao hlen,eO ao,Bool.false_and,Bool.true_and,ne_eq,not_false_eq_true,fv,fK,Nat.reduceMul,go_sem];try intro _
    refine av.mono ((hh post.isEmpty (acc++ve++ [(.mk k r t v l (.mk ek en es aR) a b p ps,pr,post.isEmpty)]) _ (.ms (H1.length+1) 0 1) ?hoG1 ?hqG1 ?hkG1 ?hovG1).1 ?hszG1) ?_
    case hoG1=>exact Lk _ _
    case hqG1=>exact(W7 _ _).trans jB
    case hkG1=>intro a b h;injection h;omega
    case hovG1=>exact .inr ⟨by simp,_,by rw[xQ];rfl,by rw[xQ];simp[List.getElem?_append_right,dr]⟩
    case hszG1=>rw[List.length_append];simp only[List.length_cons,List.length_nil];omega
    rintro _ H2 ⟨rfl,rZ,fH,C9,bJ,iS⟩;obtain⟨jI,Ay⟩:=iS q (by simp;omega) uQ (fun a b h=>by injection h;omega);obtain⟨BU,NI⟩:=iS H1.length (by simp) (by omega) (fun a b h=>by injection h;omega);rw[(W7 _ _).trans jB]at jI;rw[Ax]at BU;simp -implicitDefEqProofs only[h0,h1,h2,h3,h4,ez,dU,eV,an ao,aa ao hlen,hg,va,jB,lB,pL,uQ,pM,fR ao hlen,eO ao,Bool.false_and,Bool.true_and,jI,BU,go_sem];refine av.mono ((hh _ _ _ _ C9 jI Ay bJ).2 (by rw[List.length_append,List.length_append,er];simp only[List.length_cons,List.length_nil];omega)) ?_;rintro _ H3 ⟨rfl,Jz,Az,IX,nv,yN⟩;simp -implicitDefEqProofs only[h0,h1,h2,h3,h4,ez,dU,eV,an ao,aa ao hlen,hg,va,jB,lB,pL,uQ,pM,fR ao hlen,eO ao,Bool.false_and,Bool.true_and,go_sem];simp only[List.length_append,List.length_set,List.length_cons,List.length_nil]at rZ iS;refine⟨_,Nat.lt_succ_self _,pre++ [.mk k r t v l (.mk ek en es aR) a b p ps],post,ve++nu (.mk k r t v l (.mk ek en es aR) a b p ps) pr post.isEmpty,by rw[ao];simp,rfl,?_,?_,?_,by omega,Az,IX,?_,?_⟩
    ·rw[MM,gC];simp
    ·rw[List.length_append,jm,aX];simp only[ai,dA];omega
    ·simp
    ·simpa[nu]using nv
    ·intro j hj sy rY;obtain⟨EF,vK⟩:=cp j hj sy rY;obtain⟨Ds,NJ⟩:=iS j (by omega) sy (fun a b h=>by injection h;omega);obtain⟨NK,hj6⟩:=yN j (by omega) sy NJ;refine⟨?_,hj6⟩;rw[NK,Ds,WL _ _ j (by omega) sy,EF]
  ·subst Jy;have jl:=(List.getElem?_eq_some_iff.1 hid).1;have NM:id≠o:=fun h=>Zj 0 ((acc++ve).map encSp).length (by rw[h])
   have NN:id≠q:=fun h=>Zi 0 ((acc++ve).map encSp).length (by rw[h])
   have vd:∀l:List ak,(H1++l)[id]? =some (.row ((acc++ve).map encSp)):=fun l=>by rw[List.getElem?_append_left jl];exact hid
   have SF:∀(l:List ak) x,(H1++l).set id x=H1.set id x++l:=fun l x=>List.set_append_left _ _ jl
   have SG:∀(l:List ak) x y,((H1.set id x)++l).set o y=(H1.set id x).set o y++l:=fun l x y=>List.set_append_left _ _ (by simpa using lB)
   have SH:∀(l:List ak) y x,((H1.set id y).set o x++l)[o]? =some x:=fun l y x=>by rw[List.getElem?_append_left (by simpa using lB),List.getElem?_set_self (by simpa using lB)]
   have SI:∀(l:List ak) y,(H1.set id y++l)[o]? =H1[o]? :=fun l y=>by rw[List.getElem?_append_left (by simpa using lB),List.getElem?_set_ne NM]
   have JA:∀(l:List ak) y x,((H1.set id y).set o x++l)[q]? =H1[q]? :=fun l y x=>by rw[List.getElem?_append_left (by simpa using pL),List.getElem?_set_ne pM,List.getElem?_set_ne NN]
   have SJ:∀(l:List ak) (z:ak) y x,((H1.set id y).set o x++z::l)[H1.length]? =some z:=fun l z y x=>by rw[List.getElem?_append_right (by simp)];simp
   have SK:∀(l:List ak) y x j,j<H1.length->j≠o->j≠id->((H1.set id y).set o x++l)[j]? =H1[j]? :=fun l y x j h1 h2 h3=>by rw[List.getElem?_append_left (by simpa using h1),List.getElem?_set_ne (fun h=>h2 h.symm),List.getElem?_set_ne (fun h=>h3 h.symm)]
   have SL:¬((acc++ve).map encSp=[]):=W8;have dx:=Dr (acc++ve);generalize SM:(acc++ve).map encSp=AG at*;have hAGl:AG.length=(acc++ve).length:=by rw[<-SM];simp
   cases la
   ·simp -implicitDefEqProofs only[vd,SF,SG,SI,SL,dx,NN,NM,h0,h1,h2,h3,h4,ez,dU,eV,an ao,aa ao hlen,hg,va,jB,lB,pL,uQ,pM,fR ao hlen,eO ao,Bool.false_and,Bool.true_and,ne_eq,not_false_eq_true,fv,fK,Nat.reduceMul,go_sem];try intro _
    refine⟨⟨fun _ _ _=>trivial,by omega⟩,?_⟩;refine av.mono ((hh false (acc++ve++ [(.mk k r t v l (.mk ek en es aR) a b p ps,pr,false)]) _ (.ms (H1.length+1) 0 (AG.length+1)) ?hoG2 ?hqG2 ?hkG2 ?hovG2).1 ?hszG2) ?_
    case hoG2=>exact SH _ _ _
    case hqG2=>exact(JA _ _ _).trans jB
    case hkG2=>intro a b h;injection h;omega
    case hovG2=>exact .inr ⟨by simp,H1.length+1,by rw[List.map_append,SM];simp,by rw[List.map_append,SM];simp[List.getElem?_append_right,dr]⟩
    case hszG2=>rw[List.length_append];simp only[List.length_cons,List.length_nil];omega
    rintro _ H2 ⟨rfl,rZ,fH,C9,bJ,iS⟩;obtain⟨jI,Ay⟩:=iS q (by simp;omega) uQ (fun a b h=>by injection h;omega);obtain⟨BU,NI⟩:=iS H1.length (by simp) (by omega) (fun a b h=>by injection h;omega);rw[(JA _ _ _).trans jB]at jI;rw[SJ]at BU;simp -implicitDefEqProofs only[h0,h1,h2,h3,h4,ez,dU,eV,an ao,aa ao hlen,hg,va,jB,lB,pL,uQ,pM,fR ao hlen,eO ao,Bool.false_and,Bool.true_and,jI,BU,go_sem];refine av.mono ((hh _ _ _ _ C9 jI Ay bJ).2 (by rw[List.length_append,List.length_append,er];simp only[List.length_cons,List.length_nil];omega)) ?_;rintro _ H3 ⟨rfl,Jz,Az,IX,nv,yN⟩;simp -implicitDefEqProofs only[h0,h1,h2,h3,h4,ez,dU,eV,an ao,aa ao hlen,hg,va,jB,lB,pL,uQ,pM,fR ao hlen,eO ao,Bool.false_and,Bool.true_and,go_sem];simp only[List.length_append,List.length_set,List.length_cons,List.length_nil]at rZ iS;refine⟨_,Nat.lt_succ_self _,pre++ [.mk k r t v l (.mk ek en es aR) a b p ps],post,ve++nu (.mk k r t v l (.mk ek en es aR) a b p ps) pr false,by rw[ao];simp,rfl,?_,?_,?_,by omega,Az,IX,?_,?_⟩
    ·rw[MM,gC];simp
    ·rw[List.length_append,jm,aX];simp only[ai,dA];omega
    ·simp
    ·simpa[nu]using nv
    ·intro j hj sy rY;obtain⟨EF,vK⟩:=cp j hj sy rY;obtain⟨Ds,NJ⟩:=iS j (by omega) sy (fun a b h=>by injection h;omega);obtain⟨NK,hj6⟩:=yN j (by omega) sy NJ;refine⟨?_,hj6⟩;rw[NK,Ds,SK _ _ _ j (by omega) sy (fun h=>vK 0 AG.length (by rw[h])),EF]
   ·simp -implicitDefEqProofs only[vd,SF,SG,SI,SL,dx,NN,NM,h0,h1,h2,h3,h4,ez,dU,eV,an ao,aa ao hlen,hg,va,jB,lB,pL,uQ,pM,fR ao hlen,eO ao,Bool.false_and,Bool.true_and,ne_eq,not_false_eq_true,fv,fK,Nat.reduceMul,go_sem];try intro _
    refine⟨⟨fun _ _ _=>trivial,by omega⟩,?_⟩;refine av.mono ((hh post.isEmpty (acc++ve++ [(.mk k r t v l (.mk ek en es aR) a b p ps,pr,post.isEmpty)]) _ (.ms (H1.length+1) 0 (AG.length+1)) ?hoG3 ?hqG3 ?hkG3 ?hovG3).1 ?hszG3) ?_
    case hoG3=>exact SH _ _ _
    case hqG3=>exact(JA _ _ _).trans jB
    case hkG3=>intro a b h;injection h;omega
    case hovG3=>exact .inr ⟨by simp,H1.length+1,by rw[List.map_append,SM];simp,by rw[List.map_append,SM];simp[List.getElem?_append_right,dr]⟩
    case hszG3=>rw[List.length_append];simp only[List.length_cons,List.length_nil];omega
    rintro _ H2 ⟨rfl,rZ,fH,C9,bJ,iS⟩;obtain⟨jI,Ay⟩:=iS q (by simp;omega) uQ (fun a b h=>by injection h;omega);obtain⟨BU,NI⟩:=iS H1.length (by simp) (by omega) (fun a b h=>by injection h;omega);rw[(JA _ _ _).trans jB]at jI;rw[SJ]at BU;simp -implicitDefEqProofs only[h0,h1,h2,h3,h4,ez,dU,eV,an ao,aa ao hlen,hg,va,jB,lB,pL,uQ,pM,fR ao hlen,eO ao,Bool.false_and,Bool.true_and,jI,BU,go_sem];refine av.mono ((hh _ _ _ _ C9 jI Ay bJ).2 (by rw[List.length_append,List.length_append,er];simp only[List.length_cons,List.length_nil];omega)) ?_;rintro _ H3 ⟨rfl,Jz,Az,IX,nv,yN⟩;simp -implicitDefEqProofs only[h0,h1,h2,h3,h4,ez,dU,eV,an ao,aa ao hlen,hg,va,jB,lB,pL,uQ,pM,fR ao hlen,eO ao,Bool.false_and,Bool.true_and,go_sem];simp only[List.length_append,List.length_set,List.length_cons,List.length_nil]at rZ iS;refine⟨_,Nat.lt_succ_self _,pre++ [.mk k r t v l (.mk ek en es aR) a b p ps],post,ve++nu (.mk k r t v l (.mk ek en es aR) a b p ps) pr post.isEmpty,by rw[ao];simp,rfl,?_,?_,?_,by omega,Az,IX,?_,?_⟩
    ·rw[MM,gC];simp
    ·rw[List.length_append,jm,aX];simp only[ai,dA];omega
    ·simp
    ·simpa[nu]using nv
    ·intro j hj sy rY;obtain⟨EF,vK⟩:=cp j hj sy rY;obtain⟨Ds,NJ⟩:=iS j (by omega) sy (fun a b h=>by injection h;omega);obtain⟨NK,hj6⟩:=yN j (by omega) sy NJ;refine⟨?_,hj6⟩;rw[NK,Ds,SK _ _ _ j (by omega) sy (fun h=>vK 0 AG.length (by rw[h])),EF]
theorem t56 (pr:Int) (o q:Nat) (uQ:q≠o):∀(n:Nat) (xs:List St),SizeOf.sizeOf xs<n->∀(la:Bool) (acc:List mV) (H:List ak) (kv:V),H[o]? =some (.row [kv])->H[q]? =some (.row [.a6 127 [] [.ptr o 0 0,.ptr q 0 0]])->a7 kv q->OV H kv (acc.map encSp)->
 acc.length+ai xs<=1000000->av Tryz.prog 127 [.fs (xs.map encS),.int .i64 pr,.bool la,.ptr o 0 0,.ptr q 0 0] H (fun r H'=>r=.dJ []/\yL H o kv ((acc++gC xs pr la).map encSp) H')
 | 0,xs,h=>absurd h (Nat.not_lt_zero _)
 | n+1,xs,hn=>fun la acc H kv h1 h2 h3 h4 h5=>Zh xs pr la o q acc H kv h1 h2 uQ h3 h4 h5 (fun k r t v l e a b p ps da la acc H kv h1 h2 h3 h4=>by
  have hs:=List.sizeOf_lt_of_mem da;simp only[St.mk.sizeOf_spec]at hs;exact⟨fun hc=>t56 pr o q uQ n a (by omega) la acc H kv h1 h2 h3 h4 hc,fun hc=>t56 pr o q uQ n b (by omega) la acc H kv h1 h2 h3 h4 hc⟩)
def spP:List Pr->Nat->List mV
 | [],_=> []
 | q::l,i=>gC q.steps i true++spP l (i+1)
def cw (P:bH):List mV:=gC P.main (-1) true++spP P.procs 0
theorem tK:∀(a b:List Pr) (i:Nat),spP (a++b) i=spP a i++spP b (i+a.length)
 | [],b,i=>by simp[spP]
 | q::a,b,i=>by simp[spP,tK a b (i+1),Nat.add_comm,Nat.add_left_comm]
theorem og:∀(l:List Pr) (i:Nat),(spP l i).length=bD l
 | [],_=>rfl
 | q::l,i=>by simp[spP,bD,er,og l]
theorem FY (H:List ak) (n:Nat) (x:mV):fz H (n+2) (encSp x)=some (encSp x):=by
 rcases x with⟨⟨k,r,t,v,l,⟨ek,en,es,aR⟩,a,b,p,ps⟩,pr,la⟩
 simp[iw,ma,b7,cN,jZ,dN,jL,pB,bf,ah,aE,dR]
theorem OV.fz {H:List ak} {kv:V} {l:List mV} (h:OV H kv (l.map encSp)) (n:Nat):fz H (n+3) kv=some (.fs (l.map encSp)):=by
 rcases h with⟨h1,rfl⟩ | ⟨_,id,rfl,hid⟩
 ·rw[fQ,h1]
 ·rw[iu,hid,ef,if_pos (by simp),List.drop_zero,List.take_of_length_le (by simp),dg _ _ (fun x=>FY _ n x)];rfl
theorem OV.one {H:List ak} {kv:V} {l:List V} (h:OV H kv l):aw kv=[kv]:=by
 rcases h with⟨_,rfl⟩ | ⟨_,id,rfl,_⟩<;>rfl
theorem t25 (P:bH) (hc:total P<=1000000):af Tryz.prog 47 [aP P] (·=.fs ((cw P).map encSp)):=by
 rcases P with⟨xs,main⟩
 have hT:total ⟨xs,main⟩=ai main+bD xs:=rfl;rw[hT]at hc;refine af.intro c25 300 (by simp) 20 ?_;simp -implicitDefEqProofs only[s25,aP,go_sem];refine av.mono (t56 (-1) 1 2 (by decide) _ main (Nat.lt_succ_self _) true [] _ .ag rfl rfl (fun a b h=>by cases h) (.inl ⟨rfl,rfl⟩) (by simp;omega)) ?_;rintro _ H1 ⟨rfl,hle,kv,ho,bm,cp⟩;obtain⟨Qx,dW⟩:=cp 0 (by simp) (by decide) (fun a b h=>by cases h);obtain⟨jB,ir⟩:=cp 2 (by simp) (by decide) (fun a b h=>by cases h);simp only[List.length_cons,List.length_nil,List.getElem?_cons_zero,List.getElem?_cons_succ]at hle Qx jB;simp -implicitDefEqProofs only[Qx,jB,go_sem];intro hlen;refine aL (fun m e H=>∃pre post kv,xs=pre++post/\m=post.length/\e 3=.ptr 1 0 0/\e 4=.ptr 2 0 0/\e 13=.fs (xs.map aF)/\e 14=.int .i64 xs.length/\e 15=.int .i64 pre.length/\3<=H.length/\
  H[1]? =some (.row [kv])/\OV H kv ((gC main (-1) true++spP pre 0).map encSp)/\H[2]? =some (.row [.a6 127 [] [.ptr 1 0 0,.ptr 2 0 0]])/\a7 kv 2) xs.length ⟨[],xs,kv,by simp[az,aC],rfl,by simp[az,aC],by simp[az,aC],by simp[az,aC],by simp[az,aC],by simp[az,aC],hle,ho,by simpa[spP]using bm,jB,ir⟩ ?_
 clear cp bm ho dW ir hle Qx jB;rintro m e H ⟨pre,post,kv,ao,rfl,h3,h4,eV,dG,gy,hle,ho,bm,hq,Ie⟩;cases post with
 | nil=>
  have ev:pre=xs:=by rw[ao];simp
  have cP:=bm.one;simp -implicitDefEqProofs only[h3,h4,eV,dG,gy,aI ao,ho,cP,go_sem];simp -implicitDefEqProofs only[r25,cP,bm.fz 17,push_cast,go_sem_proc];rw[ev];rfl
 | cons q post=>
  have hg:=aO aF ao;simp only[aF]at hg;have Qw:bD xs=bD pre+(ai q.steps+bD post):=by rw[ao,bE,bD]
  have ln:∀l:List ak,(H++l)[2]? =some (.row [.a6 127 [] [.ptr 1 0 0,.ptr 2 0 0]]):=fun l=>by rw[List.getElem?_append_left (by omega)];exact hq
  simp -implicitDefEqProofs only[h3,h4,eV,dG,gy,an ao,aa ao hlen,hg,ln,go_sem];refine av.mono (t56 pre.length 1 2 (by decide) _ q.steps (Nat.lt_succ_self _) true (gC main (-1) true++spP pre 0) _ kv ?_ ?_ Ie ?_ ?_) ?_
  ·rw[List.getElem?_append_left (by omega)];exact ho
  ·rw[List.getElem?_append_left (by omega)];exact hq
  ·rcases bm with h | ⟨h1,id,h2,h3⟩
   ·exact .inl h
   ·exact .inr ⟨h1,id,h2,by rw[List.getElem?_append_left (List.getElem?_eq_some_iff.1 h3).1];exact h3⟩
  ·simp[er,og];omega
  ·rintro _ H1 ⟨rfl,AA,kv1,va,pK,cp⟩;simp only[List.length_append,List.length_cons,List.length_nil]at AA cp;obtain⟨jB,ir⟩:=cp 2 (by omega) (by decide) Ie;rw[ln]at jB;simp -implicitDefEqProofs only[h3,h4,eV,dG,gy,an ao,aa ao hlen,hg,jB,go_sem];exact⟨_,Nat.lt_succ_self _,pre++ [q],post,kv1,by simp[ao],rfl,by simp,by omega,va,by simpa[tK,spP]using pK,ir⟩
theorem wU (P:bH):(cw P).length=total P:=by simp[cw,er,og,total]
def gN (P:bH) (pr:Int):Option (List ByteArray):=if pr<0 then none else(P.procs[pr.toNat]?).map (·.au)
def oF (P:bH) (rs:Option (List ByteArray)) (k:Int) (r t p:ByteArray) (ps:List ByteArray):Int:=
 if(match rs with | none=>false | some rs=>(dS k r t ps).any fun z=> !rs.any fun y=>decide (z=y))then 5
 else if k≠5 then(if t=r then 6 else 0)
 else match P.procs.find? (fun z=>decide (z.name=p))with
  | none=>8
  | some q=>if q.au.length≠ps.length then 3 else if cO [] ps then 6 else 0
def vf (P:bH):mV->Int
 | (.mk k r t v l e a b p ps,pr,_)=>oF P (gN P pr) k r t p ps
def EK (P:bH):List mV->Int
 | []=>0
 | x::l=>if vf P x≠0 then vf P x else EK P l
def lK (P:bH):Int:=if np P≠0 then np P else EK P (cw P)
def SN (P:bH) (x:mV):Prop:=x.2.1= -1\/∃pa qa pb,P.procs=pa++qa::pb/\x.2.1=pa.length
mutual
theorem FZ:∀(x:St) (pr:Int) (la:Bool),∀y∈nu x pr la,y.2.1=pr
 | .mk k r t v l e a b p ps,pr,la=>by
  intro y hy;simp only[nu,List.mem_cons,List.mem_append]at hy;rcases hy with rfl | hy | hy
  ·rfl
  ·exact fp a pr la y hy
  ·exact fp b pr la y hy
theorem fp:∀(l:List St) (pr:Int) (la:Bool),∀y∈gC l pr la,y.2.1=pr
 | [],_,_=>by intro y hy;simp[gC]at hy
 | x::l,pr,la=>by
  intro y hy;simp only[gC,List.mem_append]at hy;rcases hy with hy | hy
  ·exact FZ x pr _ y hy
  ·exact fp l pr la y hy
end
theorem yO:∀(l pre:List Pr),∀y∈spP l pre.length,∃pa qa pb,pre++l=pa++qa::pb/\y.2.1=pa.length
 | [],pre=>by intro y hy;simp[spP]at hy
 | q::l,pre=>by
  intro y hy;simp only[spP,List.mem_append]at hy;rcases hy with hy | hy
  ·exact⟨pre,q,l,rfl,fp _ _ _ y hy⟩
  ·obtain⟨pa,qa,pb,h1,h2⟩:=yO l (pre++ [q]) y (by simpa using hy);exact⟨pa,qa,pb,by simpa using h1,h2⟩
theorem tL (P:bH):∀y∈cw P,SN P y:=by
 intro y hy;simp only[cw,List.mem_append]at hy;rcases hy with hy | hy
 ·exact .inl (fp _ _ _ y hy)
 ·obtain⟨pa,qa,pb,h1,h2⟩:=yO P.procs [] y (by simpa using hy);exact .inr ⟨pa,qa,pb,by simpa using h1,h2⟩
theorem oh (P:bH):∀(pre post:List mV),(∀y∈pre,vf P y=0)->EK P (pre++post)=EK P post
 | [],post,_=>rfl
 | x::pre,post,h=>by
  rw[List.cons_append,EK,h x (by simp)];simp only[ne_eq,not_true_eq_false,if_false];exact oh P pre post (fun y hy=>h y (by simp[hy]))
theorem tM (P:bH):gN P (-1)=none:=by simp[gN]
theorem vR {P:bH} {pa pb:List Pr} {qa:Pr} (h:P.procs=pa++qa::pb):gN P pa.length=some qa.au:=by
 rw[gN,if_neg (by omega)];simp[h]
theorem t8 (P:bH) (hc:total P<=1000000):af Tryz.prog 11 [aP P] (·=.int .i64 (lK P)):=by
 have nK:=t24 P hc;have jP:=t25 P hc;have gO:=fun nm=>t30 P nm
 have dx:=tL P;rcases P with⟨xs,main⟩
 have hP:lK ⟨xs,main⟩=if np ⟨xs,main⟩≠0 then np ⟨xs,main⟩else EK ⟨xs,main⟩ (cw ⟨xs,main⟩):=rfl
 generalize lK ⟨xs,main⟩=R at*;generalize cw ⟨xs,main⟩=S at*;generalize np ⟨xs,main⟩=C at*;simp only[aP]at nK jP gO;refine af.intro c8 300 (by simp) 20 ?_;simp -implicitDefEqProofs only[s8,aP,go_sem];repeat' (first | ((first | ((with_reducible first | refine bj nK ?_ ?_ | refine bj jP ?_ ?_);(·simp[ae,al,cm])) | ((with_reducible apply cj);(·simp -implicitDefEqProofs only[List.map_cons,List.map_nil,push_cast,go_sem_proc]<;>rfl);(with_reducible first | exact nK | exact jP);(·rfl)) | (with_reducible refine aD ?_));simp -implicitDefEqProofs only[go_sem]) | (with_reducible refine aA.mk ?_ ?_) | (with_reducible refine And.intro ?_ ?_) | ((with_reducible refine bz ?_);simp -implicitDefEqProofs only[r8,push_cast,go_sem_proc]) | intro _)
 ·rename_i hC;have hC:C≠0:=by simpa using hC
  rw[hP,if_pos hC]
 ·rename_i hC hlen;have hC:C=0:=by simpa using hC
  rw[if_neg (by simpa using hC)]at hP;refine aL (fun m e H=>∃pre post J,S=pre++post/\m=post.length/\(∀y∈pre,vf ⟨xs,main⟩ y=0)/\H=ak.row [.agg [.fs (xs.map aF),.fs (main.map encS)]]::J/\e 1=.ptr 0 0 0/\e 16=.fs (S.map encSp)/\e 17=.int .i64 S.length/\e 18=.int .i64 pre.length) S.length ⟨[],S,[],by simp[az,aC]⟩ ?_;rintro m e H ⟨pre,post,J,hS,rfl,hz,rfl,h1,cZ,ea,ft⟩;cases post with
  | nil=>
   simp -implicitDefEqProofs only[h1,cZ,ea,ft,aI hS,go_sem];simp -implicitDefEqProofs only[r8,push_cast,go_sem_proc];rw[hP,hS,oh _ _ _ hz];rfl
  | cons y post=>
   have hg:=aO encSp hS;have hy:=dx y (by rw[hS];simp);have hR:R=if vf ⟨xs,main⟩ y≠0 then vf ⟨xs,main⟩ y else EK ⟨xs,main⟩ post:=by rw[hP,hS,oh _ _ _ hz,EK]
   have dX:vf ⟨xs,main⟩ y=0->∀z∈pre++ [y],vf ⟨xs,main⟩ z=0:=fun h z qJ=>by
    rcases List.mem_append.1 qJ with qJ | qJ
    ·exact hz z qJ
    ·simp at qJ;subst qJ;exact h
   rcases y with⟨⟨k,r,t,v,l,⟨ek,en,es,aR⟩,a,b,p,ps⟩,pr,la⟩
   rw[iw]at hg;simp only[SN]at hy;have j0:=t27 k r t v l ek en es aR a b p ps;rw[ay]at j0;have gO:=gO p;rcases hy with rfl | ⟨pa,qa,pb,hA,rfl⟩
   ·skip
    rw[show vf ⟨xs,main⟩ (.mk k r t v l (.mk ek en es aR) a b p ps,((-1):Int),la)=oF ⟨xs,main⟩ none k r t p ps by rw[vf,tM]]at hR dX;rcases jN (fun z:Pr=>decide (z.name=p)) xs 0 (by omega)with⟨hI,hF⟩ | ⟨NO,q2,SQ,ao,hI,hQ⟩
    ·rw[procI,hI]at gO;simp -implicitDefEqProofs only[h1,cZ,ea,ft,an hS,aa hS hlen,hg,nq,zQ,go_sem];repeat' (first | ((first | ((with_reducible refine bj gO ?_ ?_);(·simp[ae,al,cm])) | ((with_reducible apply cj);(·simp -implicitDefEqProofs only[List.map_cons,List.map_nil,push_cast,go_sem_proc]<;>rfl);(with_reducible exact gO);(·rfl)) | (with_reducible refine aD ?_));simp -implicitDefEqProofs only[h1,cZ,ea,ft,an hS,aa hS hlen,hg,nq,zQ,go_sem]) | (with_reducible refine aA.mk ?_ ?_) | (with_reducible refine And.intro ?_ ?_) | ((with_reducible refine bz ?_);simp -implicitDefEqProofs only[r8,push_cast,go_sem_proc]) | intro _)
     all_goals clear j0 gO dx nK jP
     all_goals first
      | ((with_reducible show F _ _ _)
         have cX:ps.length<=9223372036854775807:=by assumption
         have hO:oF ⟨xs,main⟩ none k r t p ps=if cO [] ps then 6 else 0:=by
          clear hg hR dX hI hP hz;simp only[oF,hF];generalize cO [] ps=D at*;generalize ps.length=n at*;simp_all<;>omega
         rw[hO]at hR dX;refine aL (fun m e H=>∃p2 q2,ps=p2++q2/\m=q2.length/\cO [] ps=cO p2 q2/\(∃J2,H=ak.row [.agg [.fs (xs.map aF),.fs (main.map encS)]]::(J++J2)/\J2[1]? =some (ak.row [.agg [.int .i64 k,.str r,.str t,.str v,.str l,.int .i64 ek,.int .i64 en,.str es,.fs (aR.map bu),.fs (a.map encS),.fs (b.map encS),.str p,.fs (ps.map .str)]]))/\
          e 1=.ptr 0 0 0/\e 16=.fs (S.map encSp)/\e 17=.int .i64 S.length/\e 18=.int .i64 pre.length/\e 6=.ptr (J.length+2) 0 0/\e 61=.fs (ps.map .str)/\e 62=.int .i64 ps.length/\e 63=.int .i64 p2.length) ps.length ⟨[],ps,by simp[az,aC,h1,cZ,ea,ft]⟩ ?_
         rintro m e H ⟨p2,q2,hq,rfl,hd,⟨J2,rfl,vg⟩,h1,cZ,ea,ft,h6,oP,nk,qq⟩;cases q2 with
         | nil=>
          simp -implicitDefEqProofs only[h1,cZ,ea,ft,h6,oP,nk,qq,aI hq,an hS,aa hS hlen,go_sem];refine⟨_,Nat.lt_succ_self _,pre++ [(.mk k r t v l (.mk ek en es aR) a b p ps,-1,la)],post,_,by simp[hS],rfl,dX ?_,rfl,by simp⟩;rw[hd];simp[cO]
         | cons y q2=>
          have gB:=aO V.str hq;have tH:=gv V.str hq;have jf:(p2.length:Int)<=ps.length:=by rw[hq];simp;omega
          have Dt:(J++J2)[J.length+1]? =J2[1]? :=fL _ _ _;simp -implicitDefEqProofs only[h1,cZ,ea,ft,h6,oP,nk,qq,Dt,vg,gB,an hq,aa hq cX,bV,jf,tH,Int.le_refl,Int.natCast_nonneg,go_sem];repeat' (first | ((first | ((with_reducible refine bj (t29 p2 y) ?_ ?_);(·simp[ae,al,cm])) | ((with_reducible apply cj);(·simp -implicitDefEqProofs only[List.map_cons,List.map_nil,push_cast,go_sem_proc]<;>rfl);(with_reducible exact(t29 p2 y));(·rfl)) | (with_reducible refine aD ?_));simp -implicitDefEqProofs only[h1,cZ,ea,ft,h6,oP,nk,qq,Dt,vg,gB,an hq,aa hq cX,bV,jf,tH,Int.le_refl,Int.natCast_nonneg,go_sem]) | (with_reducible refine aA.mk ?_ ?_) | (with_reducible refine And.intro ?_ ?_) | ((with_reducible refine bz ?_);simp -implicitDefEqProofs only[r8,push_cast,go_sem_proc]) | intro _)
          ·rename_i hm;rw[hR,hd];simp only[cO,hm];simp
          ·rename_i hm;refine⟨_,Nat.lt_succ_self _,p2++ [y],q2,by simp[hq],rfl,?_,⟨J2,rfl,vg⟩,by simp[h1,cZ,ea,ft,h6,oP,nk]⟩;rw[hd];simp only[cO,hm];simp)
      | (refine⟨_,Nat.lt_succ_self _,pre++ [(.mk k r t v l (.mk ek en es aR) a b p ps,-1,la)],post,_,by simp[hS],rfl,dX ?_,rfl,by simp⟩
         clear hg hR dX hI hP hz;simp only[oF,hF];generalize cO [] ps=D at*;generalize ps.length=n at*;simp_all;done)
      | (rw[hR];clear hg hR dX hI hP hz;simp only[oF,hF];generalize cO [] ps=D at*;generalize ps.length=n at*;simp_all;done)
      | (rw[hR];clear hg hR dX hI hP hz;simp only[oF,hF];generalize cO [] ps=D at*;generalize ps.length=n at*;simp_all;omega)
    ·rw[procI,hI,Int.zero_add]at gO;have vS:=aO aF ao;have F0:=an ao;simp only[aF]at vS;have tI:¬((NO.length:Int)<0):=by omega
     simp -implicitDefEqProofs only[h1,cZ,ea,ft,an hS,aa hS hlen,hg,nq,zQ,vS,F0,tI,go_sem];repeat' (first | ((first | ((with_reducible refine bj gO ?_ ?_);(·simp[ae,al,cm])) | ((with_reducible apply cj);(·simp -implicitDefEqProofs only[List.map_cons,List.map_nil,push_cast,go_sem_proc]<;>rfl);(with_reducible exact gO);(·rfl)) | (with_reducible refine aD ?_));simp -implicitDefEqProofs only[h1,cZ,ea,ft,an hS,aa hS hlen,hg,nq,zQ,vS,F0,tI,go_sem]) | (with_reducible refine aA.mk ?_ ?_) | (with_reducible refine And.intro ?_ ?_) | ((with_reducible refine bz ?_);simp -implicitDefEqProofs only[r8,push_cast,go_sem_proc]) | intro _)
     all_goals clear j0 gO dx nK jP
     all_goals first
      | ((with_reducible show F _ _ _)
         have cX:ps.length<=9223372036854775807:=by assumption
         have hO:oF ⟨xs,main⟩ none k r t p ps=if cO [] ps then 6 else 0:=by
          clear hg hR dX hI hP hz;simp only[oF,hQ];generalize cO [] ps=D at*;generalize ps.length=n at*;simp_all<;>omega
         rw[hO]at hR dX;refine aL (fun m e H=>∃p2 q2,ps=p2++q2/\m=q2.length/\cO [] ps=cO p2 q2/\(∃J2,H=ak.row [.agg [.fs (xs.map aF),.fs (main.map encS)]]::(J++J2)/\J2[1]? =some (ak.row [.agg [.int .i64 k,.str r,.str t,.str v,.str l,.int .i64 ek,.int .i64 en,.str es,.fs (aR.map bu),.fs (a.map encS),.fs (b.map encS),.str p,.fs (ps.map .str)]]))/\
          e 1=.ptr 0 0 0/\e 16=.fs (S.map encSp)/\e 17=.int .i64 S.length/\e 18=.int .i64 pre.length/\e 6=.ptr (J.length+2) 0 0/\e 61=.fs (ps.map .str)/\e 62=.int .i64 ps.length/\e 63=.int .i64 p2.length) ps.length ⟨[],ps,by simp[az,aC,h1,cZ,ea,ft]⟩ ?_
         rintro m e H ⟨p2,q2,hq,rfl,hd,⟨J2,rfl,vg⟩,h1,cZ,ea,ft,h6,oP,nk,qq⟩;cases q2 with
         | nil=>
          simp -implicitDefEqProofs only[h1,cZ,ea,ft,h6,oP,nk,qq,aI hq,an hS,aa hS hlen,go_sem];refine⟨_,Nat.lt_succ_self _,pre++ [(.mk k r t v l (.mk ek en es aR) a b p ps,-1,la)],post,_,by simp[hS],rfl,dX ?_,rfl,by simp⟩;rw[hd];simp[cO]
         | cons y q2=>
          have gB:=aO V.str hq;have tH:=gv V.str hq;have jf:(p2.length:Int)<=ps.length:=by rw[hq];simp;omega
          have Dt:(J++J2)[J.length+1]? =J2[1]? :=fL _ _ _;simp -implicitDefEqProofs only[h1,cZ,ea,ft,h6,oP,nk,qq,Dt,vg,gB,an hq,aa hq cX,bV,jf,tH,Int.le_refl,Int.natCast_nonneg,go_sem];repeat' (first | ((first | ((with_reducible refine bj (t29 p2 y) ?_ ?_);(·simp[ae,al,cm])) | ((with_reducible apply cj);(·simp -implicitDefEqProofs only[List.map_cons,List.map_nil,push_cast,go_sem_proc]<;>rfl);(with_reducible exact(t29 p2 y));(·rfl)) | (with_reducible refine aD ?_));simp -implicitDefEqProofs only[h1,cZ,ea,ft,h6,oP,nk,qq,Dt,vg,gB,an hq,aa hq cX,bV,jf,tH,Int.le_refl,Int.natCast_nonneg,go_sem]) | (with_reducible refine aA.mk ?_ ?_) | (with_reducible refine And.intro ?_ ?_) | ((with_reducible refine bz ?_);simp -implicitDefEqProofs only[r8,push_cast,go_sem_proc]) | intro _)
          ·rename_i hm;rw[hR,hd];simp only[cO,hm];simp
          ·rename_i hm;refine⟨_,Nat.lt_succ_self _,p2++ [y],q2,by simp[hq],rfl,?_,⟨J2,rfl,vg⟩,by simp[h1,cZ,ea,ft,h6,oP,nk]⟩;rw[hd];simp only[cO,hm];simp)
      | (refine⟨_,Nat.lt_succ_self _,pre++ [(.mk k r t v l (.mk ek en es aR) a b p ps,-1,la)],post,_,by simp[hS],rfl,dX ?_,rfl,by simp⟩
         clear hg hR dX hI hP hz;simp only[oF,hQ];generalize cO [] ps=D at*;generalize ps.length=n at*;simp_all;done)
      | (rw[hR];clear hg hR dX hI hP hz;simp only[oF,hQ];generalize cO [] ps=D at*;generalize ps.length=n at*;simp_all;done)
      | (rw[hR];clear hg hR dX hI hP hz;simp only[oF,hQ];generalize cO [] ps=D at*;generalize ps.length=n at*;simp_all;omega)
   ·skip
    try simp only at hA
    have vT:∀z∈dS k r t ps,af Tryz.prog 50 ([]++ [V.str z]++ [.bc [.fs (xs.map aF),.fs (main.map encS)],.bc [.int .i64 k,.str r,.str t,.str v,.str l,.int .i64 ek,.int .i64 en,.str es,.fs (aR.map bu),.fs (a.map encS),.fs (b.map encS),.str p,.fs (ps.map .str),.int .i64 pa.length,.bool la]]) (·=.bool (!qa.au.any fun y=>decide (z=y))):=by
     intro z _;rw[hA];exact t28 pa pb qa main z _ _ _ _ _ _ _ _ _ _ _ _ _ _
    have gu:=t26 (dS k r t ps) 50 [] [.bc [.fs (xs.map aF),.fs (main.map encS)],.bc [.int .i64 k,.str r,.str t,.str v,.str l,.int .i64 ek,.int .i64 en,.str es,.fs (aR.map bu),.fs (a.map encS),.fs (b.map encS),.str p,.fs (ps.map .str),.int .i64 pa.length,.bool la]] (fun z=> !qa.au.any fun y=>decide (z=y)) rfl (by simp[ae,al,aq,ah,bf,aE]) vT;clear vT;generalize hB:(dS k r t ps).any (fun z=> !qa.au.any fun y=>decide (z=y))=Bad at gu;have nJ:(0<=(pa.length:Int))=True:=by simp
    rw[show vf ⟨xs,main⟩ (.mk k r t v l (.mk ek en es aR) a b p ps,(pa.length:Int),la)=oF ⟨xs,main⟩ (some qa.au) k r t p ps by rw[vf,vR hA]]at hR dX;rcases jN (fun z:Pr=>decide (z.name=p)) xs 0 (by omega)with⟨hI,hF⟩ | ⟨NO,q2,SQ,ao,hI,hQ⟩
    ·rw[procI,hI]at gO;simp -implicitDefEqProofs only[h1,cZ,ea,ft,an hS,aa hS hlen,hg,nq,nJ,zQ,go_sem];repeat' (first | ((first | ((with_reducible first | refine bj gO ?_ ?_ | refine bj j0 ?_ ?_ | refine bj gu ?_ ?_);(·simp[ae,al,cm])) | ((with_reducible apply cj);(·simp -implicitDefEqProofs only[List.map_cons,List.map_nil,push_cast,go_sem_proc]<;>rfl);(with_reducible first | exact gO | exact j0 | exact gu);(·rfl)) | (with_reducible refine aD ?_));simp -implicitDefEqProofs only[h1,cZ,ea,ft,an hS,aa hS hlen,hg,nq,nJ,zQ,go_sem]) | (with_reducible refine aA.mk ?_ ?_) | (with_reducible refine And.intro ?_ ?_) | ((with_reducible refine bz ?_);simp -implicitDefEqProofs only[r8,push_cast,go_sem_proc]) | intro _)
     all_goals clear j0 gu gO dx nK jP
     all_goals first
      | ((with_reducible show F _ _ _)
         have cX:ps.length<=9223372036854775807:=by assumption
         have hO:oF ⟨xs,main⟩ (some qa.au) k r t p ps=if cO [] ps then 6 else 0:=by
          clear hg hR dX hI hP hz;simp only[oF,hF,hB];generalize cO [] ps=D at*;generalize ps.length=n at*;simp_all<;>omega
         rw[hO]at hR dX;refine aL (fun m e H=>∃p2 q2,ps=p2++q2/\m=q2.length/\cO [] ps=cO p2 q2/\(∃J2,H=ak.row [.agg [.fs (xs.map aF),.fs (main.map encS)]]::(J++J2)/\J2[1]? =some (ak.row [.agg [.int .i64 k,.str r,.str t,.str v,.str l,.int .i64 ek,.int .i64 en,.str es,.fs (aR.map bu),.fs (a.map encS),.fs (b.map encS),.str p,.fs (ps.map .str)]]))/\
          e 1=.ptr 0 0 0/\e 16=.fs (S.map encSp)/\e 17=.int .i64 S.length/\e 18=.int .i64 pre.length/\e 6=.ptr (J.length+2) 0 0/\e 61=.fs (ps.map .str)/\e 62=.int .i64 ps.length/\e 63=.int .i64 p2.length) ps.length ⟨[],ps,by simp[az,aC,h1,cZ,ea,ft]⟩ ?_
         rintro m e H ⟨p2,q2,hq,rfl,hd,⟨J2,rfl,vg⟩,h1,cZ,ea,ft,h6,oP,nk,qq⟩;cases q2 with
         | nil=>
          simp -implicitDefEqProofs only[h1,cZ,ea,ft,h6,oP,nk,qq,aI hq,an hS,aa hS hlen,go_sem];refine⟨_,Nat.lt_succ_self _,pre++ [(.mk k r t v l (.mk ek en es aR) a b p ps,(pa.length:Int),la)],post,_,by simp[hS],rfl,dX ?_,rfl,by simp⟩;rw[hd];simp[cO]
         | cons y q2=>
          have gB:=aO V.str hq;have tH:=gv V.str hq;have jf:(p2.length:Int)<=ps.length:=by rw[hq];simp;omega
          have Dt:(J++J2)[J.length+1]? =J2[1]? :=fL _ _ _;simp -implicitDefEqProofs only[h1,cZ,ea,ft,h6,oP,nk,qq,Dt,vg,gB,an hq,aa hq cX,bV,jf,tH,Int.le_refl,Int.natCast_nonneg,go_sem];repeat' (first | ((first | ((with_reducible refine bj (t29 p2 y) ?_ ?_);(·simp[ae,al,cm])) | ((with_reducible apply cj);(·simp -implicitDefEqProofs only[List.map_cons,List.map_nil,push_cast,go_sem_proc]<;>rfl);(with_reducible exact(t29 p2 y));(·rfl)) | (with_reducible refine aD ?_));simp -implicitDefEqProofs only[h1,cZ,ea,ft,h6,oP,nk,qq,Dt,vg,gB,an hq,aa hq cX,bV,jf,tH,Int.le_refl,Int.natCast_nonneg,go_sem]) | (with_reducible refine aA.mk ?_ ?_) | (with_reducible refine And.intro ?_ ?_) | ((with_reducible refine bz ?_);simp -implicitDefEqProofs only[r8,push_cast,go_sem_proc]) | intro _)
          ·rename_i hm;rw[hR,hd];simp only[cO,hm];simp
          ·rename_i hm;refine⟨_,Nat.lt_succ_self _,p2++ [y],q2,by simp[hq],rfl,?_,⟨J2,rfl,vg⟩,by simp[h1,cZ,ea,ft,h6,oP,nk]⟩;rw[hd];simp only[cO,hm];simp)
      | (refine⟨_,Nat.lt_succ_self _,pre++ [(.mk k r t v l (.mk ek en es aR) a b p ps,(pa.length:Int),la)],post,_,by simp[hS],rfl,dX ?_,rfl,by simp⟩
         clear hg hR dX hI hP hz;simp only[oF,hF,hB];generalize cO [] ps=D at*;generalize ps.length=n at*;simp_all;done)
      | (rw[hR];clear hg hR dX hI hP hz;simp only[oF,hF,hB];generalize cO [] ps=D at*;generalize ps.length=n at*;simp_all;done)
      | (rw[hR];clear hg hR dX hI hP hz;simp only[oF,hF,hB];generalize cO [] ps=D at*;generalize ps.length=n at*;simp_all;omega)
    ·rw[procI,hI,Int.zero_add]at gO;have vS:=aO aF ao;have F0:=an ao;simp only[aF]at vS;have tI:¬((NO.length:Int)<0):=by omega
     simp -implicitDefEqProofs only[h1,cZ,ea,ft,an hS,aa hS hlen,hg,nq,nJ,zQ,vS,F0,tI,go_sem];repeat' (first | ((first | ((with_reducible first | refine bj gO ?_ ?_ | refine bj j0 ?_ ?_ | refine bj gu ?_ ?_);(·simp[ae,al,cm])) | ((with_reducible apply cj);(·simp -implicitDefEqProofs only[List.map_cons,List.map_nil,push_cast,go_sem_proc]<;>rfl);(with_reducible first | exact gO | exact j0 | exact gu);(·rfl)) | (with_reducible refine aD ?_));simp -implicitDefEqProofs only[h1,cZ,ea,ft,an hS,aa hS hlen,hg,nq,nJ,zQ,vS,F0,tI,go_sem]) | (with_reducible refine aA.mk ?_ ?_) | (with_reducible refine And.intro ?_ ?_) | ((with_reducible refine bz ?_);simp -implicitDefEqProofs only[r8,push_cast,go_sem_proc]) | intro _)
     all_goals clear j0 gu gO dx nK jP
     all_goals first
      | ((with_reducible show F _ _ _)
         have cX:ps.length<=9223372036854775807:=by assumption
         have hO:oF ⟨xs,main⟩ (some qa.au) k r t p ps=if cO [] ps then 6 else 0:=by
          clear hg hR dX hI hP hz;simp only[oF,hQ,hB];generalize cO [] ps=D at*;generalize ps.length=n at*;simp_all<;>omega
         rw[hO]at hR dX;refine aL (fun m e H=>∃p2 q2,ps=p2++q2/\m=q2.length/\cO [] ps=cO p2 q2/\(∃J2,H=ak.row [.agg [.fs (xs.map aF),.fs (main.map encS)]]::(J++J2)/\J2[1]? =some (ak.row [.agg [.int .i64 k,.str r,.str t,.str v,.str l,.int .i64 ek,.int .i64 en,.str es,.fs (aR.map bu),.fs (a.map encS),.fs (b.map encS),.str p,.fs (ps.map .str)]]))/\
          e 1=.ptr 0 0 0/\e 16=.fs (S.map encSp)/\e 17=.int .i64 S.length/\e 18=.int .i64 pre.length/\e 6=.ptr (J.length+2) 0 0/\e 61=.fs (ps.map .str)/\e 62=.int .i64 ps.length/\e 63=.int .i64 p2.length) ps.length ⟨[],ps,by simp[az,aC,h1,cZ,ea,ft]⟩ ?_
         rintro m e H ⟨p2,q2,hq,rfl,hd,⟨J2,rfl,vg⟩,h1,cZ,ea,ft,h6,oP,nk,qq⟩;cases q2 with
         | nil=>
          simp -implicitDefEqProofs only[h1,cZ,ea,ft,h6,oP,nk,qq,aI hq,an hS,aa hS hlen,go_sem];refine⟨_,Nat.lt_succ_self _,pre++ [(.mk k r t v l (.mk ek en es aR) a b p ps,(pa.length:Int),la)],post,_,by simp[hS],rfl,dX ?_,rfl,by simp⟩;rw[hd];simp[cO]
         | cons y q2=>
          have gB:=aO V.str hq;have tH:=gv V.str hq;have jf:(p2.length:Int)<=ps.length:=by rw[hq];simp;omega
          have Dt:(J++J2)[J.length+1]? =J2[1]? :=fL _ _ _;simp -implicitDefEqProofs only[h1,cZ,ea,ft,h6,oP,nk,qq,Dt,vg,gB,an hq,aa hq cX,bV,jf,tH,Int.le_refl,Int.natCast_nonneg,go_sem];repeat' (first | ((first | ((with_reducible refine bj (t29 p2 y) ?_ ?_);(·simp[ae,al,cm])) | ((with_reducible apply cj);(·simp -implicitDefEqProofs only[List.map_cons,List.map_nil,push_cast,go_sem_proc]<;>rfl);(with_reducible exact(t29 p2 y));(·rfl)) | (with_reducible refine aD ?_));simp -implicitDefEqProofs only[h1,cZ,ea,ft,h6,oP,nk,qq,Dt,vg,gB,an hq,aa hq cX,bV,jf,tH,Int.le_refl,Int.natCast_nonneg,go_sem]) | (with_reducible refine aA.mk ?_ ?_) | (with_reducible refine And.intro ?_ ?_) | ((with_reducible refine bz ?_);simp -implicitDefEqProofs only[r8,push_cast,go_sem_proc]) | intro _)
          ·rename_i hm;rw[hR,hd];simp only[cO,hm];simp
          ·rename_i hm;refine⟨_,Nat.lt_succ_self _,p2++ [y],q2,by simp[hq],rfl,?_,⟨J2,rfl,vg⟩,by simp[h1,cZ,ea,ft,h6,oP,nk]⟩;rw[hd];simp only[cO,hm];simp)
      | (refine⟨_,Nat.lt_succ_self _,pre++ [(.mk k r t v l (.mk ek en es aR) a b p ps,(pa.length:Int),la)],post,_,by simp[hS],rfl,dX ?_,rfl,by simp⟩
         clear hg hR dX hI hP hz;simp only[oF,hQ,hB];generalize cO [] ps=D at*;generalize ps.length=n at*;simp_all;done)
      | (rw[hR];clear hg hR dX hI hP hz;simp only[oF,hQ,hB];generalize cO [] ps=D at*;generalize ps.length=n at*;simp_all;done)
      | (rw[hR];clear hg hR dX hI hP hz;simp only[oF,hQ,hB];generalize cO [] ps=D at*;generalize ps.length=n at*;simp_all;omega)
mutual
def SR {σ:Type} (f:σ->Int->St->σ):σ->St->Int->σ
 | st,.mk k r t v l e a b p ps,n=>fE f (fE f (f st n (.mk k r t v l e a b p ps)) a (n+1)) b (n+1+ai a)
def fE {σ:Type} (f:σ->Int->St->σ):σ->List St->Int->σ
 | st,[],_=>st
 | st,x::l,n=>fE f (SR f st x n) l (n+dA x)
end
theorem vU {σ:Type} (f:σ->Int->St->σ):∀(a b:List St) (st:σ) (n:Int),fE f st (a++b) n=fE f (fE f st a n) b (n+ai a)
 | [],b,st,n=>by simp[fE,ai]
 | x::a,b,st,n=>by
  rw[List.cons_append,fE,fE,vU f a b,ai];congr 1;omega
structure me {σ:Type} (N:Nat) (T:σ->List ak):Prop where
 len:∀st,(T st).length=N
 row:∀st Qy (i:Nat) b,(T Qy)[i]? =some b->(T st)[i]? =some b\/b.nr=true
theorem me.app {σ:Type} {N:Nat} {T:σ->List ak} (h:me N T) (L:List ak):me (N+L.length) (fun st=>T st++L) where
 len st:=by simp[h.len]
 row st Qy i es hi:=by
  show(T st++L)[i]? =_\/_;have hi:(T Qy++L)[i]? =some es:=hi;by_cases hl:i<N
  ·rw[List.getElem?_append_left (by rw[h.len];exact hl)]at hi⊢;exact h.row st Qy i es hi
  ·rw[List.getElem?_append_right (by rw[h.len];omega),h.len]at hi⊢;exact .inl hi
theorem me.get {σ:Type} {N:Nat} {T:σ->List ak} (h:me N T) (st:σ) (J l:List ak):(T st++(J++l))[N+J.length]? =l[0]? :=by
 rw[List.getElem?_append_right (by rw[h.len];omega),h.len,Nat.add_sub_cancel_left,l7]
theorem me.set {σ:Type} {N:Nat} {T:σ->List ak} (h:me N T) (st:σ) (J l:List ak) (x:ak):(T st++(J++l)).set (N+J.length) x=T st++(J++l.set 0 x):=by
 rw[List.set_append_right _ _ (by rw[h.len];omega),h.len,Nat.add_sub_cancel_left,l8]
def CB {σ:Type} (g:FuncId) (first bB:List V) (T:σ->List ak) (f:σ->Int->St->σ):Prop:=
 ∀st n x J,av Tryz.prog g (first++(.int .i64 n::encS x::bB)) (T st++J) (bX (.dJ []) (T (f st n x)++J))
theorem CB.app {σ:Type} {g:FuncId} {first bB:List V} {T:σ->List ak} {f:σ->Int->St->σ} (h:CB g first bB T f) (L:List ak):CB g first bB (fun st=>T st++L) f:=by
 intro st n x J;have:=h st n x (L++J);simpa only[List.append_assoc]using this
theorem Zl {σ:Type} (f:σ->Int->St->σ) (g:FuncId) (first bB:List V) (xs:List St) {N:Nat} {T:σ->List ak} (hT:me N T) (j1:CB g first bB T f) (st:σ) (n:Int) (lV:0<=n) (hn:n+ai xs<=1000000)
 (h:∀k r t v l e a b p ps,St.mk k r t v l e a b p ps∈xs->∀(N:Nat) (T:σ->List ak),me N T->CB g first bB T f->∀(st:σ) (n:Int),0<=n->
   (n+ai a<=1000000->av Tryz.prog 149 [.fs (a.map encS),.int .i64 n,.a6 g first bB] (T st) (bX (.int .i64 (n+ai a)) (T (fE f st a n))))/\
   (n+ai b<=1000000->av Tryz.prog 149 [.fs (b.map encS),.int .i64 n,.a6 g first bB] (T st) (bX (.int .i64 (n+ai b)) (T (fE f st b n))))):
 av Tryz.prog 149 [.fs (xs.map encS),.int .i64 n,.a6 g first bB] (T st) (bX (.int .i64 (n+ai xs)) (T (fE f st xs n))):=by
 refine av.trim ?_;refine av.intro c51 400 (by simp) ?_;simp -implicitDefEqProofs only[YK,go_sem];intro hlen;refine aL (fun m e H=>∃pre post J,xs=pre++post/\m=post.length/\e 1=.int .i64 (n+ai pre)/\e 2=.a6 g first bB/\e 9=.fs (xs.map encS)/\e 10=.int .i64 xs.length/\e 11=.int .i64 pre.length/\H=T (fE f st pre n)++J) xs.length ⟨[],xs,[],by simp[az,aC,ai,fE]⟩ ?_
 rintro m e H ⟨pre,post,J,ao,rfl,h1,h2,h9,eb,ez,rfl⟩;cases post with
 | nil=>
  have ev:pre=xs:=by rw[ao];simp
  simp -implicitDefEqProofs only[h1,h2,h9,eb,ez,aI ao,go_sem];simp -implicitDefEqProofs only[YL,push_cast,go_sem_proc];exact⟨_,_,rfl,by rw[hT.len,hT.len],hT.row _ _,by rw[ev],by rw[ev]⟩
 | cons y post=>
  have hg:=aO encS ao;have zP:ai xs=ai pre+(dA y+ai post):=by rw[ao,aX,ai]
  have Du:=fun J=>j1 (fE f st pre n) (n+ai pre) y J
  have BV:fE f st (pre++ [y]) n=SR f (fE f st pre n) y (n+ai pre):=by rw[vU];rfl
  have Dv:ai (pre++ [y])=ai pre+dA y:=by rw[aX];simp[ai]
  generalize fE f st pre n=s0 at*;rcases y with⟨k,r,t,v,l,⟨ek,en,es,aR⟩,a,b,p,ps⟩
  rw[SR]at BV;generalize f s0 (n+ai pre) (.mk k r t v l (.mk ek en es aR) a b p ps)=s1 at*;simp only[dA]at zP Dv;rw[ay]at hg;simp only[ay]at Du;have w1:=bP (x:=n+ai pre+1) (by omega) (by omega);have lL:=hT.len;simp -implicitDefEqProofs only[h1,h2,h9,eb,ez,an ao,aa ao hlen,hg,lL,hT.get,hT.set,go_sem];refine av.Li (Du _) ?_;simp -implicitDefEqProofs only[h1,h2,h9,eb,ez,an ao,aa ao hlen,hg,lL,hT.get,hT.set,w1,go_sem];have hh:=h k r t v l (.mk ek en es aR) a b p ps (by rw[ao];simp) _ _ (hT.app (J++ [ak.row [.agg [.int .i64 k,.str r,.str t,.str v,.str l,.int .i64 ek,.int .i64 en,.str es,.fs (aR.map bu),.fs (a.map encS),.fs (b.map encS),.str p,.fs (ps.map .str)]]])) (j1.app _);refine av.Li ((hh s1 (n+ai pre+1) (by omega)).1 (by omega)) ?_;simp -implicitDefEqProofs only[h1,h2,h9,eb,ez,an ao,aa ao hlen,hg,lL,hT.get,hT.set,w1,go_sem];refine av.Li ((hh _ (n+ai pre+1+ai a) (by omega)).2 (by omega)) ?_;simp -implicitDefEqProofs only[h1,h2,h9,eb,ez,an ao,aa ao hlen,hg,lL,hT.get,hT.set,w1,go_sem];rw[<-BV];refine⟨_,Nat.lt_succ_self _,pre++ [.mk k r t v l (.mk ek en es aR) a b p ps],post,_,by simp[ao],rfl,?_,by simp,rfl⟩;rw[Dv];simp only[Int.natCast_add,Int.natCast_one];congr 1;omega
theorem t51 {σ:Type} (f:σ->Int->St->σ) (g:FuncId) (first bB:List V):∀(m:Nat) (xs:List St),SizeOf.sizeOf xs<m->∀(N:Nat) (T:σ->List ak),me N T->CB g first bB T f->∀(st:σ) (n:Int),0<=n->n+ai xs<=1000000->
 av Tryz.prog 149 [.fs (xs.map encS),.int .i64 n,.a6 g first bB] (T st) (bX (.int .i64 (n+ai xs)) (T (fE f st xs n)))
 | 0,xs,h=>absurd h (Nat.not_lt_zero _)
 | m+1,xs,hm=>fun N T hT j1 st n h0 h1=>Zl f g first bB xs hT j1 st n h0 h1 (fun k r t v l e a b p ps da N T hT j1 st n h0=>by
  have hs:=List.sizeOf_lt_of_mem da;simp only[St.mk.sizeOf_spec]at hs;exact⟨fun hc=>t51 f g first bB m a (by omega) N T hT j1 st n h0 hc,fun hc=>t51 f g first bB m b (by omega) N T hT j1 st n h0 hc⟩)
def W9 {σ:Type} (g:FuncId) (first bB:List V) (T:σ->List ak) (f:σ->Int->Int->St->σ) (ok:Int->Prop):Prop:=
 ∀st n pr x J,ok pr->av Tryz.prog g (first++(.int .i64 n:: .int .i64 pr::encS x::bB)) (T st++J) (bX (.dJ []) (T (f st n pr x)++J))
theorem me.NP {σ:Type} {N:Nat} {T:σ->List ak} (h:me N T) (st:σ) {L:List ak} {j:Nat} {b:ak} (hL:L[j]? =some b) (l:List ak):(T st++(L++l))[N+j]? =some b:=by
 rw[List.getElem?_append_right (by rw[h.len];omega),h.len,Nat.add_sub_cancel_left,List.getElem?_append_left (List.getElem?_eq_some_iff.1 hL).1,hL]
theorem me.Dw {σ:Type} {N:Nat} {T:σ->List ak} (h:me N T) (st:σ) (L J l:List ak):(T st++(L++(J++l)))[N+(L.length+J.length)]? =l[0]? :=by
 rw[<-List.append_assoc L J l,<-List.length_append];exact h.get st _ _
theorem me.bW {σ:Type} {N:Nat} {T:σ->List ak} (h:me N T) (st:σ) (l:List ak):(T st++l)[N]? =l[0]? :=by
 have:=h.get st [] l;simpa using this
theorem me.bT {σ:Type} {N:Nat} {T:σ->List ak} (h:me N T) (st:σ) (l:List ak) (k:Nat):(T st++l)[N+k]? =l[k]? :=by
 rw[List.getElem?_append_right (by rw[h.len];omega),h.len,Nat.add_sub_cancel_left]
theorem me.aW {σ:Type} {N:Nat} {T:σ->List ak} (h:me N T) (st:σ) (l:List ak) (k:Nat) (x:ak):(T st++l).set (N+k) x=T st++l.set k x:=by
 rw[List.set_append_right _ _ (by rw[h.len];omega),h.len,Nat.add_sub_cancel_left]
theorem Zm {σ:Type} {N:Nat} {T:σ->List ak} (hT:me N T) {g:FuncId} {first bB:List V} {f:σ->Int->Int->St->σ} {ok:Int->Prop} (dx:ok (-1)) (j1:W9 g first bB T f ok) {L:List ak} {j:Nat} (hL:L[j]? =some (.row [.a6 g first bB])):
 CB 162 [] [.ptr (N+j) 0 0] (fun st=>T st++L) (fun st n x=>f st n (-1) x):=by
 intro st n x J;have lL:=hT.len;have hg:=fun st l=>hT.NP st hL l
 have hc:=fun J=>j1 st n (-1) x J dx
 show av Tryz.prog 162 ([]++(.int .i64 n::encS x::[.ptr (N+j) 0 0])) ((T st++L)++J) (bX (.dJ []) ((T (f st n (-1) x)++L)++J));generalize f st n (-1) x=s1 at*;rcases x with⟨k,r,t,v,l,⟨ek,en,es,aR⟩,a,b,p,ps⟩
 rw[ay]at*;refine av.trim ?_;refine av.intro c52 100 (by simp) ?_;simp -implicitDefEqProofs only[s52,lL,hg,hT.Dw,go_sem];refine av.Li (hc _) ?_;simp -implicitDefEqProofs only[lL,hg,hT.Dw,go_sem];simp -implicitDefEqProofs only[r52,push_cast,go_sem_proc];refine⟨T s1++(L++J),_,by simp;rfl,by simp[lL],fun i es hi=> ?_,rfl⟩;have:=(hT.app (L++J)).row st s1 i es;simpa using this (by simpa using hi)
theorem Zn {σ:Type} {N:Nat} {T:σ->List ak} (hT:me N T) {g:FuncId} {first bB:List V} {f:σ->Int->Int->St->σ} {ok:Int->Prop} {pr:Int} (dx:ok pr) (j1:W9 g first bB T f ok) {L:List ak} {j i:Nat} (hL:L[j]? =some (.row [.a6 g first bB]))
 (hi:L[i]? =some (.row [.int .i64 pr])):CB 163 [] [.ptr (N+j) 0 0,.ptr (N+i) 0 0] (fun st=>T st++L) (fun st n x=>f st n pr x):=by
 intro st n x J;have lL:=hT.len;have hg:=fun st l=>hT.NP st hL l
 have gB:=fun st l=>hT.NP st hi l
 have hc:=fun J=>j1 st n pr x J dx
 show av Tryz.prog 163 ([]++(.int .i64 n::encS x::[.ptr (N+j) 0 0,.ptr (N+i) 0 0])) ((T st++L)++J) (bX (.dJ []) ((T (f st n pr x)++L)++J));generalize f st n pr x=s1 at*;rcases x with⟨k,r,t,v,l,⟨ek,en,es,aR⟩,a,b,p,ps⟩
 rw[ay]at*;refine av.trim ?_;refine av.intro c53 100 (by simp) ?_;simp -implicitDefEqProofs only[s53,lL,hg,gB,hT.Dw,go_sem];refine av.Li (hc _) ?_;simp -implicitDefEqProofs only[lL,hg,gB,hT.Dw,go_sem];simp -implicitDefEqProofs only[r53,push_cast,go_sem_proc];refine⟨T s1++(L++J),_,by simp;rfl,by simp[lL],fun i es hi=> ?_,rfl⟩;have:=(hT.app (L++J)).row st s1 i es;simpa using this (by simpa using hi)
def fP {σ:Type} (f:σ->Int->Int->St->σ):σ->List Pr->Nat->Int->σ
 | st,[],_,_=>st
 | st,q::l,i,n=>fP f (fE (fun st n x=>f st n i x) st q.steps n) l (i+1) (n+ai q.steps)
theorem vV {σ:Type} (f:σ->Int->Int->St->σ):∀(a b:List Pr) (st:σ) (i:Nat) (n:Int),fP f st (a++b) i n=fP f (fP f st a i n) b (i+a.length) (n+bD a)
 | [],b,st,i,n=>by simp[fP,bD]
 | x::a,b,st,i,n=>by
  rw[List.cons_append,fP,fP,vV f a b,bD,List.length_cons];congr 1
  ·omega
  ·omega
def NQ {σ:Type} (f:σ->Int->Int->St->σ) (st:σ) (P:bH):σ:=fP f (fE (fun st n x=>f st n (-1) x) st P.main 0) P.procs 0 (ai P.main)
theorem t22 {σ:Type} {N:Nat} {T:σ->List ak} (hT:me N T) {g:FuncId} {first bB:List V} {f:σ->Int->Int->St->σ} {ok:Int->Prop} (P:bH) (hc:total P<=1000000) (dx:ok (-1)) (Zo:∀pa qa pb,P.procs=pa++qa::pb->ok pa.length) (j1:W9 g first bB T f ok) (st:σ):
 av Tryz.prog 88 [aP P,.a6 g first bB] (T st) (bX (.dJ []) (T (NQ f st P))):=by
 rcases P with⟨xs,main⟩
 simp only[total]at hc;have lL:=hT.len;refine av.trim ?_;refine av.intro c22 100 (by simp) ?_;simp -implicitDefEqProofs only[s22,aP,lL,hT.bW,hT.bT,go_sem];refine av.Li (t51 (fun st n x=>f st n (-1) x) 162 [] [.ptr (N+1) 0 0] _ main (Nat.lt_succ_self _) (N+2) _ (hT.app [_,_]) (Zm hT dx j1 (L:=[_,_]) (j:=1) rfl) st 0 (by omega) (by omega)) ?_;simp -implicitDefEqProofs only[lL,hT.bW,hT.bT,go_sem];intro hlen;generalize z8:fE (fun st n x=>f st n (-1) x) st main 0=s0;refine aL (fun m e H=>∃pre post J,xs=pre++post/\m=post.length/\e 3=.ptr (N+1) 0 0/\e 4=.int .i64 ((ai main:Int)+bD pre)/\e 12=.fs (xs.map aF)/\e 13=.int .i64 xs.length/\e 14=.int .i64 pre.length/\
  H=T (fP f s0 pre 0 (ai main))++(ak.row [.agg [.fs (xs.map aF),.fs (main.map encS)]]::ak.row [.a6 g first bB]::J)) xs.length ⟨[],xs,[],by simp[az,aC,bD,fP]⟩ ?_
 rintro m e H ⟨pre,post,J,ao,rfl,h3,h4,dU,eV,dG,rfl⟩;cases post with
 | nil=>
  have ev:pre=xs:=by rw[ao];simp
  simp -implicitDefEqProofs only[h3,h4,dU,eV,dG,aI ao,go_sem];simp -implicitDefEqProofs only[r22,push_cast,go_sem_proc];refine⟨_,_,rfl,by simp[hT.len],hT.row _ _,?_⟩;rw[ev,NQ,z8]
 | cons q post=>
  have hg:=aO aF ao;simp only[aF]at hg;have Qw:bD xs=bD pre+(ai q.steps+bD post):=by rw[ao,bE,bD]
  have SS:fP f s0 (pre++ [q]) 0 (ai main)=fE (fun st n x=>f st n pre.length x) (fP f s0 pre 0 (ai main)) q.steps ((ai main:Int)+bD pre):=by
   rw[vV,fP,fP,Nat.zero_add]
  generalize fP f s0 pre 0 (ai main)=s1 at*;simp -implicitDefEqProofs only[h3,h4,dU,eV,dG,an ao,aa ao hlen,hg,lL,hT.bW,hT.bT,hT.aW,go_sem];have hi:(ak.row [.agg [.fs (xs.map aF),.fs (main.map encS)]]::ak.row [.a6 g first bB]::(J++ [ak.row [.int .i64 pre.length],ak.row [.agg [.str q.name,.fs (q.au.map .str),.fs (q.steps.map encS)]]]))[J.length+2]? =some (ak.row [.int .i64 pre.length]):=by simp
  refine av.Li (t51 (fun st n x=>f st n pre.length x) 163 [] [.ptr (N+1) 0 0,.ptr (N+(J.length+2)) 0 0] _ q.steps (Nat.lt_succ_self _) _ _ (hT.app _) (Zn hT (Zo pre q post ao) j1 (j:=1) rfl hi) s1 ((ai main:Int)+bD pre) (by omega) (by omega)) ?_;simp -implicitDefEqProofs only[h3,h4,dU,eV,dG,an ao,aa ao hlen,hg,lL,hT.bW,hT.bT,hT.aW,go_sem];rw[<-SS];refine⟨_,Nat.lt_succ_self _,pre++ [q],post,_,by simp[ao],rfl,?_,by simp,rfl⟩;rw[bE];simp only[bD];simp only[Int.natCast_add,Int.natCast_one];congr 1;omega
def Zp (P:bH) (pr:Int):St->Int
 | .mk k r t v l e a b p ps=>cF P (gN P pr) k r t p ps
def Im (P:bH) (st:Int) (n pr:Int) (x:St):Int:=if st=0 then Zp P pr x else st
def rE (P:bH):Int:=if np P≠0 then np P else NQ (Im P) 0 P
def SU (P:bH) (pr:Int):Prop:=pr= -1\/∃pa qa pb,P.procs=pa++qa::pb/\pr=pa.length
theorem t34 (P:bH) (pr:Int) (h:SU P pr) (k:Int) (r t v l:ByteArray) (ek en:Int) (es:ByteArray) (aR:List Ex) (a b:List St) (p:ByteArray) (ps:List ByteArray):
 af Tryz.prog 144 [aP P,.int .i64 pr,encS (.mk k r t v l (.mk ek en es aR) a b p ps)] (·=.int .i64 (cF P (gN P pr) k r t p ps)):=by
 rcases h with rfl | ⟨pa,qa,pb,hA,rfl⟩
 ·rw[tM];exact Y9 P k r t v l ek en es aR a b p ps
 ·rw[vR hA];exact Za P pa pb qa hA k r t v l ek en es aR a b p ps
def NR (P:bH) (st:Int):List ak:=[.row [aP P],.row [.int .i64 st]]
theorem F1 (P:bH):me 2 (NR P) where
 len st:=rfl
 row st Qy i es hi:=by
  right;rcases i with _ | _ | i
  ·simp[NR]at hi;subst hi;simp[ak.nr,ae,jM]
  ·simp[NR]at hi;subst hi;simp[ak.nr,ae,al]
  ·simp[NR]at hi
theorem t33 (P:bH):W9 143 [] [.ptr 1 0 0,.ptr 0 0 0] (NR P) (Im P) (SU P):=by
 intro st n pr x J dx;rcases x with⟨k,r,t,v,l,⟨ek,en,es,aR⟩,a,b,p,ps⟩
 have mU:=t34 P pr dx k r t v l ek en es aR a b p ps;have hS:Im P st n pr (.mk k r t v l (.mk ek en es aR) a b p ps)=if st=0 then cF P (gN P pr) k r t p ps else st:=rfl
 generalize hc:cF P (gN P pr) k r t p ps=c at*;generalize Im P st n pr (.mk k r t v l (.mk ek en es aR) a b p ps)=s1 at*;subst hS;have nj:=(F1 P).app J;rcases P with⟨xs,main⟩
 have hl:∀st,NR ⟨xs,main⟩ st=[.row [.agg [.fs (xs.map aF),.fs (main.map encS)]],.row [.int .i64 st]]:=fun st=>rfl
 simp only[aP,ay]at mU;rw[ay];refine av.trim ?_;rw[hl,hl];refine av.intro c33 100 (by simp) ?_;simp -implicitDefEqProofs only[s33,go_sem];repeat' (first | ((first | ((with_reducible refine bj mU ?_ ?_);(·simp[ae,al,cm])) | ((with_reducible apply cj);(·simp -implicitDefEqProofs only[List.map_cons,List.map_nil,push_cast,go_sem_proc]<;>rfl);(with_reducible exact mU);(·rfl)) | (with_reducible refine aD ?_));simp -implicitDefEqProofs only[go_sem]) | (with_reducible refine aA.mk ?_ ?_) | (with_reducible refine And.intro ?_ ?_) | ((with_reducible refine bz ?_);simp -implicitDefEqProofs only[r33,push_cast,go_sem_proc]) | intro _)
 ·rename_i h0;have h0:st=0:=by simpa using h0
  refine⟨[.row [.agg [.fs (xs.map aF),.fs (main.map encS)]],.row [.int .i64 c]]++J,_,by simp;rfl,by simp,fun i es hi=> ?_,by simp[h0]⟩;have:=nj.row st c i es;simp only[hl]at this;simpa using this (by simpa using hi)
 ·rename_i h0;have h0:¬st=0:=by simpa using h0
  refine⟨[.row [.agg [.fs (xs.map aF),.fs (main.map encS)]],.row [.int .i64 st]]++J,_,by simp;rfl,by simp,fun i es hi=> ?_,by simp[h0]⟩;have:=nj.row st st i es;simp only[hl]at this;simpa using this (by simpa using hi)
theorem t11 (P:bH) (hc:total P<=1000000):af Tryz.prog 71 [aP P] (·=.int .i64 (rE P)):=by
 have yP:=t32 P hc;have h22:=t22 (F1 P) P hc (.inl rfl) (fun pa qa pb h=> .inr ⟨pa,qa,pb,h,rfl⟩) (t33 P) 0;have hl:∀st,NR P st=[.row [aP P],.row [.int .i64 st]]:=fun st=>rfl
 rw[hl,hl]at h22;have hF:rE P=if np P≠0 then np P else NQ (Im P) 0 P:=rfl
 generalize rE P=R at*;generalize NQ (Im P) 0 P=f at*;generalize np P=c at*;simp only[aP]at*;refine af.intro Yu 100 (by simp) 20 ?_;simp -implicitDefEqProofs only[s11,go_sem];repeat' (first | ((first | (with_reducible refine bR h22 ?_) | ((with_reducible refine bj yP ?_ ?_);(·simp[ae,al,cm])) | ((with_reducible apply cj);(·simp -implicitDefEqProofs only[List.map_cons,List.map_nil,push_cast,go_sem_proc]<;>rfl);(with_reducible exact yP);(·rfl)) | (with_reducible refine aD ?_));simp -implicitDefEqProofs only[go_sem]) | (with_reducible refine aA.mk ?_ ?_) | (with_reducible refine And.intro ?_ ?_) | ((with_reducible refine bz ?_);simp -implicitDefEqProofs only[r11,push_cast,go_sem_proc]) | intro _)
 all_goals simp_all
theorem t6 (P:bH) (hc:total P<=1000000):af Tryz.prog 61 [aP P] (·=.dJ [.int .i64 (if rE P=0 then total P else 0),.int .i64 (rE P)]):=by
 have ez:=t11 P hc;have iV:=t19 P hc;generalize rE P=c at*;simp only[aP]at*;refine af.intro c6 100 (by simp) 20 ?_;simp -implicitDefEqProofs only[s6,go_sem];repeat' (first | ((first | ((with_reducible first | refine bj ez ?_ ?_ | refine bj iV ?_ ?_);(·simp[ae,al,cm])) | ((with_reducible apply cj);(·simp -implicitDefEqProofs only[List.map_cons,List.map_nil,push_cast,go_sem_proc]<;>rfl);(with_reducible first | exact ez | exact iV);(·rfl)) | (with_reducible refine aD ?_));simp -implicitDefEqProofs only[go_sem]) | (with_reducible refine aA.mk ?_ ?_) | (with_reducible refine And.intro ?_ ?_) | ((with_reducible refine bz ?_);simp -implicitDefEqProofs only[r6,push_cast,go_sem_proc]) | intro _)
 all_goals simp_all
theorem NT (H:List ak) (n:Nat):fz H (n+1) .emp=some (.fs []):=by rw[fz]
theorem F2 (l:List Ex):(l.map bu).all (fun e=>(aw e).length==4 && !e.isAny && (aw e).all V.one)=true:=by
 rw[List.all_map,List.all_eq_true];intro x _;rcases x with⟨k,n,s,xs⟩
 simp[bp,aw,V.isAny,V.one]
theorem wV (l:List ByteArray):(l.map V.str).all (fun e=>(aw e).length==1 && !e.isAny && (aw e).all V.one)=true:=by
 rw[List.all_map];simp[aw,V.isAny,V.one]
theorem mf (l:List St):(l.map encS).all (fun e=>(aw e).length==13 && !e.isAny && (aw e).all V.one)=true:=by
 rw[List.all_map,List.all_eq_true];intro x _;rcases x with⟨k,r,t,v,l,⟨ek,en,es,aR⟩,a,b,p,ps⟩
 simp[ay,aw,V.isAny,V.one]
theorem t46 (xs:List ByteArray) (hl:xs.length<=1000000):af Tryz.prog 69 [.fs (xs.map .str)] (·=.fs (xs.map .str)):=by
 have ha:=wV xs;refine af.intro c46 100 (by simp) 20 ?_;cases xs with
 | nil=>
  simp -implicitDefEqProofs only[WU,List.map_nil,go_sem];intro b;cases b
  ·simp -implicitDefEqProofs only[go_sem];refine⟨fun _=> ?_,fun h=>absurd rfl h⟩;simp -implicitDefEqProofs only[R6,NT,push_cast,go_sem_proc]
  ·simp -implicitDefEqProofs only[go_sem];simp -implicitDefEqProofs only[R6,push_cast,go_sem_proc]
 | cons x xs=>
  simp only[List.map_cons]at ha;simp -implicitDefEqProofs only[WU,List.map_cons,ha,go_sem];refine⟨by simpa[aw,V.isAny,V.one]using wV xs,fun h=>h.elim,fun _=>⟨by simp at hl;omega,?_⟩⟩;have hz:fz [ak.row (V.str x::xs.map V.str)] 20 (.ms 0 0 (xs.length+1))=some (.fs (V.str x::xs.map V.str)):=FW (l:=x::xs) rfl;simp -implicitDefEqProofs only[R6,hz,push_cast,go_sem_proc]
mutual
def wE:Ex->Nat
 | .mk _ _ _ xs=>1+sA xs
def sA:List Ex->Nat
 | []=>0
 | x::l=>wE x+sA l
end
mutual
def wS:St->Nat
 | .mk _ _ _ _ _ e a b _ ps=>1+wE e+ps.length+dn a+dn b
def dn:List St->Nat
 | []=>0
 | x::l=>wS x+dn l
end
theorem BW:∀l:List Ex,l.length<=sA l
 | []=>Nat.zero_le _
 | .mk _ _ _ _::l=>by have:=BW l;simp[sA,wE];omega
theorem oj:∀a b:List Ex,sA (a++b)=sA a+sA b
 | [],b=>by simp[sA]
 | x::a,b=>by simp[sA,oj a b];omega
theorem cB:∀a b:List St,dn (a++b)=dn a+dn b
 | [],b=>by simp[dn]
 | x::a,b=>by simp[dn,cB a b];omega
mutual
theorem NU:∀x:St,dA x<=wS x
 | .mk _ _ _ _ _ e a b _ ps=>by have:=mg a;have:=mg b;simp only[dA,wS];omega
theorem mg:∀l:List St,ai l<=dn l
 | []=>Nat.le_refl _
 | x::l=>by have:=NU x;have:=mg l;simp only[ai,dn];omega
end
def lM:List Pr->Nat
 | []=>0
 | q::l=>q.au.length+dn q.steps+lM l
theorem fZ:∀a b:List Pr,lM (a++b)=lM a+lM b
 | [],b=>by simp[lM]
 | x::a,b=>by simp[lM,fZ a b];omega
def iE (P:bH):Nat:=dn P.main+lM P.procs
theorem yQ:∀l:List Pr,bD l<=lM l
 | []=>Nat.le_refl _
 | q::l=>by have:=mg q.steps;have:=yQ l;simp only[bD,lM];omega
theorem kx (P:bH):total P<=iE P:=by have:=mg P.main;have:=yQ P.procs;simp only[total,iE];omega
theorem pN (l:List Ex):df 4 (l.map bu):=cA _ _ (fun x=>by rcases x with⟨k,n,s,xs⟩;rw[bp];rfl) l
theorem cx (l:List St):df 13 (l.map encS):=cA _ _ (fun x=>by rcases x with⟨k,r,t,v,l,⟨ek,en,es,aR⟩,a,b,p,ps⟩;rw[ay];rfl) l
theorem dw {α:Type} {f:α->V} {n:Nat} (hf:∀(H:List ak) x,fz H (n+1) (f x)=some (f x)) {H:List ak} {kv:V} {l:List α} (h:OV H kv (l.map f)):fz H (n+2) kv=some (.fs (l.map f)):=by
 rcases h with⟨h1,rfl⟩ | ⟨_,id,rfl,hid⟩
 ·rw[fQ,h1]
 ·rw[iu,hid,ef,if_pos (by simp),List.drop_zero,List.take_of_length_le (by simp),dg _ _ (fun x=>hf H x)];rfl
theorem OV.set {H:List ak} {kv:V} {acc:List V} (h:OV H kv acc) {j:Nat} {x:ak} (hj:a7 kv j):OV (H.set j x) kv acc:=by
 rcases h with h | ⟨h1,id,h2,h3⟩
 ·exact .inl h
 ·refine .inr ⟨h1,id,h2,?_⟩;rw[List.getElem?_set_ne]
  ·exact h3
  ·rintro rfl;exact hj 0 _ h2
theorem OV.app {H:List ak} {kv:V} {acc:List V} (h:OV H kv acc) (L:List ak):OV (H++L) kv acc:=by
 rcases h with h | ⟨h1,id,h2,h3⟩
 ·exact .inl h
 ·exact .inr ⟨h1,id,h2,by rw[List.getElem?_append_left (List.getElem?_eq_some_iff.1 h3).1];exact h3⟩
theorem F3 {H:List ak} {a b:ak} (h0:H[0]? =some a) (h1:H[1]? =some b):∃J,H=a::b::J:=by
 match H,h0,h1 with
 | x::y::J,h0,h1=>simp at h0 h1;subst h0 h1;exact⟨J,rfl⟩
theorem Zq (k n:Int) (s:ByteArray) (xs:List Ex) (hw:sA xs<=1000000) (h:∀y∈xs,af Tryz.prog 153 [bu y] (·=bu y)):af Tryz.prog 153 [bu (.mk k n s xs)] (·=bu (.mk k n s xs)):=by
 have Zr:=BW xs;rw[bp];refine af.intro c68 100 (by simp) 20 ?_;simp -implicitDefEqProofs only[s68,go_sem];intro hlen;refine aL (fun m e H=>∃pre post kv J,xs=pre++post/\m=post.length/\e 1=.ptr 0 0 0/\e 2=.ptr 1 0 0/\e 3=kv/\e 7=.fs (xs.map bu)/\e 8=.int .i64 xs.length/\e 9=.int .i64 pre.length/\
  H=ak.row [.agg [.int .i64 k,.int .i64 n,.str s,.fs (xs.map bu)]]::ak.row [.agg [.int .i64 0,.int .i64 0,.str ⟨#[]⟩,.ag]]::J/\OV H kv (pre.map bu)/\a7 kv 0/\a7 kv 1) xs.length ⟨[],xs,.ag,[],by simp[az,aC],rfl,by simp[az,aC],by simp[az,aC],by simp[az,aC],by simp[az,aC],by simp[az,aC],by simp[az,aC],rfl,.inl ⟨rfl,rfl⟩,(fun a b h=>by cases h),(fun a b h=>by cases h)⟩ ?_
 rintro m e H ⟨pre,post,kv,J,ao,rfl,h1,h2,h3,h7,h8,h9,rfl,bm,dW,iT⟩;cases post with
 | nil=>
  have ev:pre=xs:=by rw[ao];simp
  have cP:=bm.one;simp -implicitDefEqProofs only[h1,h2,h3,h7,h8,h9,aI ao,cP,go_sem];refine⟨by rcases bm with⟨_,rfl⟩ | ⟨_,id,rfl,_⟩<;>rfl,by rcases bm with⟨_,rfl⟩ | ⟨_,id,rfl,_⟩<;>rfl,?_⟩
  have bJ:OV (ak.row [.agg [.int .i64 k,.int .i64 n,.str s,kv]]::ak.row [.agg [.int .i64 k,.int .i64 n,.str s,kv]]::J) kv (pre.map bu):=(bm.set (x:=ak.row [.agg [.int .i64 k,.int .i64 n,.str s,kv]]) dW).set (x:=ak.row [.agg [.int .i64 k,.int .i64 n,.str s,kv]]) iT;have hz:fz _ 19 kv=_:=dw (f:=bu) (n:=17) (fun H x=>pE H 16 x) bJ;rw[ev]at hz;simp -implicitDefEqProofs only[YR,h2,hz,push_cast,go_sem_proc]
 | cons y post=>
  have hg:=aO bu ao;have hy:=h y (by rw[ao];simp);have cR:pre.length<=xs.length:=by rw[ao];simp
  have hya:([bu y]).all (fun e=>(aw e).length==4 && !e.isAny && (aw e).all V.one)=true:=F2 [y];rcases y with⟨k',n',s',zs⟩
  rw[bp]at hg hy hya;simp -implicitDefEqProofs only[h1,h2,h3,h7,h8,h9,an ao,aa ao hlen,hg,go_sem];repeat' (first | ((first | ((with_reducible refine bj hy ?_ ?_);(·simp[ae,al,cm])) | ((with_reducible apply cj);(·simp -implicitDefEqProofs only[List.map_cons,List.map_nil,push_cast,go_sem_proc]<;>rfl);(with_reducible exact hy);(·rfl)) | (with_reducible refine aD ?_));simp -implicitDefEqProofs only[h1,h2,h3,h7,h8,h9,an ao,aa ao hlen,hg,go_sem]) | (with_reducible refine aA.mk ?_ ?_) | (with_reducible refine And.intro ?_ ?_) | ((with_reducible refine bz ?_);simp -implicitDefEqProofs only[YR,push_cast,go_sem_proc]) | intro _)
  have bJ:∀L:List ak,OV (ak.row [.agg [.int .i64 k,.int .i64 n,.str s,.fs (xs.map bu)]]::ak.row [.agg [.int .i64 0,.int .i64 0,.str ⟨#[]⟩,.ag]]::(J++L)) kv (pre.map bu):=fun L=>bm.app L
  refine cu (bJ _) (fun i o l h=>by cases h) (pN _) (by simp;omega) ?_;rintro bN H' bo hle cp;obtain⟨pO,lV⟩:=cp 0 (by simp) dW;obtain⟨ky,pn⟩:=cp 1 (by simp) iT;simp only[List.getElem?_cons_zero,List.getElem?_cons_succ]at pO ky;obtain⟨J',rfl⟩:=F3 pO ky;simp -implicitDefEqProofs only[h1,h2,h3,h7,h8,h9,an ao,aa ao hlen,hg,go_sem];refine⟨_,Nat.lt_succ_self _,pre++ [.mk k' n' s' zs],post,bN,J',by simp[ao],rfl,rfl,by simp,rfl,?_,lV,pn⟩;simpa[bp]using bo
theorem t68:∀(n:Nat) (x:Ex),SizeOf.sizeOf x<n->wE x<=1000000->af Tryz.prog 153 [bu x] (·=bu x)
 | 0,x,h,_=>absurd h (Nat.not_lt_zero _)
 | n+1,.mk k i s xs,hn,hw=>Zq k i s xs (by simp only[wE]at hw;omega) (fun y hy=>by
  have hs:=List.sizeOf_lt_of_mem hy;have SV:wE y<=sA xs:=by
   obtain⟨p1,p2,rfl⟩:=List.append_of_mem hy;rw[oj,sA];omega
  simp only[wE]at hw;simp only[Ex.mk.sizeOf_spec]at hn;exact t68 n y (by omega) (by omega))
end Go.Proofs.YtdgoeblpcnjlbaaGreatDoor.Av

/- ReadsFound. Text 12 of 17. -/
import Derived.Lib.SlicesCompact
import Derived.Sort.EncStr
import Derived.Shelf.SlicesG.CompactS
import Derived.Shelf.SortM.Plain
import Derived.Shelf.SortM.SortNone
import Derived.Ground.SlgmProg
import Derived.Ground.SlgnProg
import Derived.Test.YtdgoeblpcnjlbaaGreatDoorProg
import Derived.Test.YtdgoeblpcnjlbaaGreatDoorM11
set_option linter.all false
set_option maxRecDepth 100000
set_option maxHeartbeats 64000000
namespace Go.Proofs.YtdgoeblpcnjlbaaGreatDoor.Av
open Go.RowKit List
def Cc (L:Nat->Nat->Bool) (a b:Nat):Bool:=L a b && L b a
theorem csy {L:Nat->Nat->Bool} {a b:Nat} (h:Cc L a b=true):Cc L b a=true:=by
 simp only[Cc,Bool.and_eq_true]at h⊢;exact⟨h.2,h.1⟩
def QW (L:Nat->Nat->Bool):Prop:=∀a b c,L a b=true->L b c=true->L a c=true
theorem Cc.trans {L:Nat->Nat->Bool} (hL:QW L) {a b c:Nat} (h:Cc L a b=true) (h2:Cc L b c=true):Cc L a c=true:=by
 simp only[Cc,Bool.and_eq_true]at h h2⊢;exact⟨hL _ _ _ h.1 h2.1,hL _ _ _ h2.2 h.2⟩
theorem Cc.Cz {L:Nat->Nat->Bool} (hL:QW L) {a b:Nat} (h:Cc L a b=true):L b b=true:=by
 simp only[Cc,Bool.and_eq_true]at h;exact hL _ _ _ h.2 h.1
def Iz (L:Nat->Nat->Bool) (i:Nat):Bool:=L i i && (List.range i).all fun k=> !Cc L k i
theorem CA {L:Nat->Nat->Bool} {i:Nat}:Iz L i=true↔L i i=true/\∀k,k<i->Cc L k i=false:=by
 simp[Iz]
def gV (L:Nat->Nat->Bool) (i:Nat):List Nat:=(List.range i).filter (Iz L)
theorem wg (L:Nat->Nat->Bool) (i:Nat):gV L (i+1)=gV L i++if Iz L i then[i]else[]:=by
 rw[gV,List.range_succ,List.filter_append,gV];cases h:Iz L i<;>simp[h]
theorem G8 {L:Nat->Nat->Bool} {i k:Nat}:k∈gV L i↔k<i/\Iz L k=true:=by simp[gV]
def rO (L:Nat->Nat->Bool) (i k:Nat):List Nat:=(List.range k).filter fun j=>decide (i<=j) && Cc L i j
theorem G9 (L:Nat->Nat->Bool) {i k:Nat} (h:i<=k):rO L i (k+1)=rO L i k++if Cc L i k then[k]else[]:=by
 rw[rO,List.range_succ,List.filter_append,rO];cases hc:Cc L i k<;>simp[hc,h]
theorem zj (L:Nat->Nat->Bool) (i:Nat):rO L i i=[]:=by
 rw[rO,List.filter_eq_nil_iff];intro j hj;simp at hj;simp;omega
def ra (F:List Int) (c:Int) (ks:List Nat):List Int:=ks.foldl (fun F k=>F.set k c) F
theorem uq (c:Int):∀(ks:List Nat) (F:List Int),(ra F c ks).length=F.length
 | [],F=>rfl
 | k::ks,F=>by
  have:=uq c ks (F.set k c);simp only[ra,List.foldl_cons]at this⊢;rw[this,List.length_set]
theorem Ed (F:List Int) (c:Int) (ks:List Nat) (k:Nat):ra F c (ks++ [k])=(ra F c ks).set k c:=by simp[ra]
theorem zk (c:Int):∀(ks:List Nat) (F:List Int) (j:Nat),j<F.length->(ra F c ks)[j]? =if j∈ks then some c else F[j]?
 | [],F,j,_=>by simp[ra]
 | k::ks,F,j,hj=>by
  have:=zk c ks (F.set k c) j (by simpa using hj);simp only[ra,List.foldl_cons]at this⊢;rw[this,List.getElem?_set];by_cases h1:j∈ks
  ·simp[h1]
  ·by_cases h2:k=j
   ·subst h2;simp[h1,hj]
   ·simp[h1,h2,Ne.symm h2]
structure RI (L:Nat->Nat->Bool) (n i:Nat) (F:List Int):Prop where
 len:F.length=n
 cls:∀k,k<n->(F[k]? =some (-1)/\∀j,j<i->Cc L j k=false)\/∃(r j:Nat),F[k]? =some (r:Int)/\(gV L i)[r]? =some j/\Cc L j k=true
theorem RI.start (L:Nat->Nat->Bool) (n:Nat):RI L n 0 (List.replicate n (-1)):=⟨by simp,fun k hk=> .inl ⟨by simp[hk],by omega⟩⟩
theorem RI.skip {L:Nat->Nat->Bool} (hL:QW L) {n i:Nat} {F:List Int} (h:RI L n i F) (hi:i<n) (hs:0<=F.getD i 0\/L i i=false):RI L n (i+1) F/\gV L (i+1)=gV L i:=by
 have hn:∀k,Cc L i k=true->∃j,j<i/\Cc L j k=true:=fun k hk=>by
  have hii:=Cc.Cz hL (csy hk);rcases hs with hs | hs
  ·rcases h.cls i hi with⟨h1,_⟩ | ⟨r,j,h1,h2,h3⟩
   ·rw[List.getD_eq_getElem?_getD,h1]at hs;simp at hs
   ·exact⟨j,(G8.1 (List.mem_of_getElem? h2)).1,Cc.trans hL h3 hk⟩
  ·rw[hs]at hii;cases hii
 have hl:Iz L i=false:=by
  cases hc:Iz L i with
  | false=>rfl
  | true=>
   obtain⟨h1,h2⟩:=CA.1 hc;obtain⟨j,h3,h4⟩:=hn i (by simp[Cc,h1]);rw[h2 j h3]at h4;cases h4
 have he:gV L (i+1)=gV L i:=by rw[wg,hl];simp
 refine⟨⟨h.len,fun k hk=> ?_⟩,he⟩;rw[he];rcases h.cls k hk with⟨h1,h2⟩ | h1
 ·refine .inl ⟨h1,fun j hj=> ?_⟩;by_cases Ij:j<i
  ·exact h2 j Ij
  ·have:j=i:=by omega
   subst this;cases hc:Cc L j k with
   | false=>rfl
   | true=>
    obtain⟨j2,h3,h4⟩:=hn k hc;rw[h2 j2 h3]at h4;cases h4
 ·exact .inr h1
theorem RI.put {L:Nat->Nat->Bool} (hL:QW L) {n i:Nat} {F:List Int} (h:RI L n i F) (hi:i<n) (hs:F.getD i 0<0) (hii:L i i=true):
 RI L n (i+1) (ra F ((gV L i).length:Int) (rO L i n))/\gV L (i+1)=gV L i++ [i]:=by
 have h0:∀j,j<i->Cc L j i=false:=by
  rcases h.cls i hi with⟨h1,h2⟩ | ⟨r,j,h1,_⟩
  ·exact h2
  ·rw[List.getD_eq_getElem?_getD,h1]at hs;simp at hs;omega
 have hl:Iz L i=true:=CA.2 ⟨hii,h0⟩;have he:gV L (i+1)=gV L i++ [i]:=by rw[wg,hl];simp
 refine⟨⟨by rw[uq,h.len],fun k hk=> ?_⟩,he⟩;rw[he,zk _ _ _ _ (by rw[h.len];exact hk)];have hm:k∈rO L i n↔Cc L i k=true:=by
  simp only[rO,List.mem_filter,List.mem_range,Bool.and_eq_true,decide_eq_true_eq];refine⟨fun h=>h.2.2,fun hc=>⟨hk,?_,hc⟩⟩;by_cases sY:i<=k
  ·exact sY
  ·have:=h0 k (by omega);rw[(csy hc)]at this;cases this
 by_cases hc:Cc L i k=true
 ·rw[if_pos (hm.2 hc)];exact .inr ⟨(gV L i).length,i,rfl,by simp,hc⟩
 ·rw[if_neg (fun h=>hc (hm.1 h))];rcases h.cls k hk with⟨h1,h2⟩ | ⟨r,j,h1,h2,h3⟩
  ·refine .inl ⟨h1,fun j hj=> ?_⟩;by_cases Ij:j<i
   ·exact h2 j Ij
   ·have:j=i:=by omega
    subst this;simpa using hc
  ·exact .inr ⟨r,j,h1,by rw[List.getElem?_append_left (List.getElem?_eq_some_iff.1 h2).1];exact h2,h3⟩
theorem RI.fin {L:Nat->Nat->Bool} (hL:QW L) {n:Nat} {F:List Int} (h:RI L n n F) {k:Nat} (hk:k<n): -1<=F.getD k 0/\(0<=F.getD k 0↔L k k=true):=by
 rcases h.cls k hk with⟨h1,h2⟩ | ⟨r,j,h1,h2,h3⟩
 ·have:=h2 k hk;simp only[Cc,Bool.and_self]at this;rw[List.getD_eq_getElem?_getD,h1,this];simp
 ·rw[List.getD_eq_getElem?_getD,h1];have:=Cc.Cz hL h3;simp[this];try omega
theorem lsts_nodup (L:Nat->Nat->Bool) (i:Nat):(gV L i).Nodup:=List.nodup_range.filter _
theorem RI.same {L:Nat->Nat->Bool} (hL:QW L) {n:Nat} {F:List Int} (h:RI L n n F) {a b:Nat} (ha:a<n) (hb:b<n) (h0:0<=F.getD a 0):F.getD b 0=F.getD a 0↔Cc L a b=true:=by
 simp only[List.getD_eq_getElem?_getD]at h0⊢;rcases h.cls a ha with⟨h1,h2⟩ | ⟨r,j,h1,h2,h3⟩
 ·rw[h1]at h0;simp at h0
 rcases h.cls b hb with⟨h4,h5⟩ | ⟨r',j',h4,h5,h6⟩
 ·rw[h1,h4];have:Cc L a b=false:=h5 a ha;simp[this];try omega
 ·rw[h1,h4];simp only[Option.getD_some];constructor
  ·intro e;have:r'=r:=by omega
   subst this;rw[h2]at h5;injection h5 with h5;subst h5
   exact Cc.trans hL (csy h3) h6
  ·intro hc;have hj:=G8.1 (List.mem_of_getElem? h2);have Nd:=G8.1 (List.mem_of_getElem? h5);have Yj:=Cc.trans hL (Cc.trans hL h3 hc) (csy h6);have:j=j':=by
    rcases Nat.lt_trichotomy j j' with h | h | h
    ·rw[(CA.1 Nd.2).2 j h]at Yj;cases Yj
    ·exact h
    ·have:=(CA.1 hj.2).2 j' h;rw[(csy Yj)]at this;cases this
   subst this;have e1:=List.getElem?_eq_some_iff.1 h2;have e2:=List.getElem?_eq_some_iff.1 h5;have:=(List.getElem_inj (h₀:=e1.1) (h₁:=e2.1) (lsts_nodup L n)).1 (by rw[e1.2,e2.2]);omega
noncomputable def LX (X:List Pr) (i j:Nat):Bool:= @decide (LT X i j) (Classical.propDecidable _)
theorem oD {X:List Pr} {i j:Nat}:LX X i j=true↔LT X i j:=by simp[LX]
theorem L4 (X:List Pr):QW (LX X):=fun a b c h1 h2=>oD.2 ((oD.1 h1).trans (oD.1 h2))
theorem LT.src {X:List Pr} {i j:Int} (h:LT X i j):i.toNat<X.length:=by
 induction h with
 | one h=>
  rename_i j;refine Classical.byContradiction fun hn=> ?_
  have:X[i.toNat]? =none:=List.getElem?_eq_none (Nat.le_of_not_lt hn);rw[mE,aK,this]at h;simp[oV]at h
 | more _ _ ih=>exact ih
theorem p6.eq {X:List Pr} {A:List (List Int)} (h:p6 X A) (i k:Nat):decide ((k:Int)∈A.getD i [])=LX X i k:=by
 rw[Bool.eq_iff_iff,decide_eq_true_iff,oD,List.getD_eq_getElem?_getD];cases hA:A[i]? with
 | none=>
  simp only[Option.getD_none,List.not_mem_nil,false_iff];intro hl;have:=hl.src;have h2:=List.getElem?_eq_none_iff.1 hA;have h3:=h.len;omega
 | some S=>exact(h.set i S hA).2 k
noncomputable def oE (X:List Pr) (i:Nat):List (List Int):=(gV (LX X) i).map fun j=>(rO (LX X) j X.length).map fun(k:Nat)=>(k:Int)
theorem t241 (P:bH) (ew:P.procs.length<=1000000) (E:List Bool):af Tryz.prog 66 [.bc (fy P E)] (fun r=>∃F,r=.dJ [.fs ((oE P.procs P.procs.length).map encI),.fs (F.map (.int .i64))]/\RI (LX P.procs) P.procs.length P.procs.length F):=by
 have Vx:=t290 P ew E;have hL:=L4 P.procs;have gi:ae (eF P.procs P.procs (ai P.main))=true:=ee (eG _ _ _);simp only[fy,lE]at Vx⊢;refine af.intro c241 900 (by simp) 20 ?_;simp -implicitDefEqProofs only[UQ,go_sem];refine gJ (by simp[ae,al,gi,aq,ah,aY,br]) Vx ?_;rintro r ⟨A,rfl,hA⟩;have Kr:=hA.len;have ES:∀i:Nat,i<P.procs.length->(A.map dE).getD i .any=.db ((A.getD i []).map (.int .i64)) (bF (A.getD i [])):=fun i hi=>by
  have:A[i]? =some (A[i]'(by omega)):=List.getElem?_eq_getElem _;rw[List.getD_eq_getElem?_getD,List.getElem?_map,List.getD_eq_getElem?_getD,this];rfl
 have xY:(A.map dE).length=P.procs.length:=by rw[List.length_map,Kr]
 have L5:=fun i k=>hA.eq i k
 simp -implicitDefEqProofs only[Kr,xY,go_sem];intro hlen;refine⟨by omega,?_⟩;intro _;refine aL (fun m e H=>∃i,i+m=P.procs.length/\e 2=.ag/\e 3=.ms 0 0 P.procs.length/\e 4=.fs (A.map dE)/\e 15=.ms 0 0 P.procs.length/\e 16=.int .i64 P.procs.length/\e 17=.int .i64 i/\
  H=[.row (List.replicate i (V.int .i64 (-1))++List.replicate m (V.int .i64 0))]) P.procs.length
  ⟨0,by simp,by simp[az],by simp[az],by simp[az],by simp[az],by simp[az],by simp[az],by simp⟩ ?_
 rintro m e H ⟨i,QU,h2,h3,h4,gy,cZ,ea,rfl⟩;cases m with
 | succ m=>
  have hi:i<P.procs.length:=by omega
  have ct:decide ((i:Int)<(P.procs.length:Int))=true:=by simp;omega
  have zg:=bG (k:=i) (by omega);have iI:(List.replicate i (V.int .i64 (-1))++List.replicate (m+1) (V.int .i64 0)).set i (.int .i64 (-1))=List.replicate (i+1) (.int .i64 (-1))++List.replicate m (V.int .i64 0):=by
   rw[List.replicate_succ,List.set_append_right _ _ (by simp),List.replicate_succ'];simp
  have vj:(List.replicate i (V.int .i64 (-1))++List.replicate (m+1) (V.int .i64 0)).getD i .any=.int .i64 0:=by
   rw[List.getD_eq_getElem?_getD,List.getElem?_append_right (by simp)];simp
  simp -implicitDefEqProofs only[h2,h3,h4,gy,cZ,ea,ct,hi,zg,iI,vj,aw,List.length_append,List.length_replicate,go_sem];exact⟨by omega,by omega,m,by omega,i+1,by omega,rfl,rfl⟩
 | zero=>
  have hi:i=P.procs.length:=by omega
  subst hi;simp -implicitDefEqProofs only[h2,h3,h4,gy,cZ,ea,Int.lt_irrefl,decide_false,Kr,xY,go_sem];intro _;refine aL (fun m e H=>∃i F kv,i+m=P.procs.length/\RI (LX P.procs) P.procs.length i F/\H[0]? =some (.row (F.map (.int .i64)))/\OV H kv ((oE P.procs i).map encI)/\a7 kv 0/\
   e 2=kv/\e 3=.ms 0 0 P.procs.length/\e 4=.fs (A.map dE)/\e 24=.fs (A.map dE)/\e 25=.int .i64 P.procs.length/\e 26=.int .i64 i) P.procs.length
   ⟨0,List.replicate P.procs.length (-1),.ag,by simp,RI.start _ _,by simp,.inl ⟨by simp[oE,gV],rfl⟩,(fun a b h=>by cases h),by simp[az,h2],by simp[az,h3],by simp[az,h4],by simp[az,h4],by simp[az,xY],by simp[az]⟩ ?_
  clear h2 h3 h4 gy cZ ea e;rintro m e H ⟨i,F,kv,QU,hR,mq,bm,dW,h2,h3,h4,nK,jP,gu⟩;have cP:=bm.one;have ba:=bm.cS;simp only[V.one]at ba;have jU:=hR.len;cases m with
  | zero=>
   have hi:i=P.procs.length:=by omega
   subst hi;have hz:fz H 19 kv=_:=dw (f:=encI) (n:=17) (fun H x=>Ke _ _ x) bm;have WI:fzM (fz H 18) H[0]? 0 P.procs.length=some (.fs (F.map (.int .i64))):=by
    rw[mq,ef,if_pos (by simp[jU]),List.drop_zero,List.take_of_length_le (by simp[jU]),fA];rfl
   simp -implicitDefEqProofs only[h2,h3,h4,nK,jP,gu,Int.lt_irrefl,decide_false,go_sem];simp -implicitDefEqProofs only[UR,h2,h3,push_cast,go_sem_proc];rw[hz,WI];exact⟨_,rfl,F,rfl,hR⟩
  | succ m=>
   have hi:i<P.procs.length:=by omega
   have ct:decide ((i:Int)<(P.procs.length:Int))=true:=by simp;omega
   have zg:=bG (k:=i) (by omega);have hg:=ES i hi;have xZ:∀F':List Int,F'.length=P.procs.length->∀k:Nat,k<P.procs.length->(F'.map (V.int .i64)).getD k .any=.int .i64 (F'.getD k 0):=fun F' h k hk=>by
    rw[List.getD_eq_getElem?_getD,List.getElem?_map,List.getElem?_eq_getElem (by omega),List.getD_eq_getElem?_getD,List.getElem?_eq_getElem (by omega)];rfl
   have tQ:=xZ F jU i hi;have hsk:=fun h=>hR.skip hL hi h
   by_cases hs:0<=F.getD i 0
   ·obtain⟨M8,hlst⟩:=hsk (.inl hs);have bJ:OV H kv ((oE P.procs (i+1)).map encI):=by rw[oE,hlst];exact bm
    have nJ:decide (F.getD i 0≥(0:Int))=true:=by simpa using hs
    have vp:decide ((0:Int)<=F.getD i 0)=true:=by simpa using hs
    simp -implicitDefEqProofs only[h2,h3,h4,nK,jP,gu,ct,hg,hi,tQ,mq,nJ,vp,jU,xY,zg,aw,List.length_map,go_sem];exact⟨Nat.le_refl _,m,Nat.lt_succ_self _,i+1,F,kv,by omega,M8,rfl,bJ,dW,rfl,rfl⟩
   have nJ:decide (F.getD i 0≥(0:Int))=false:=by simpa using hs
   have vp:decide ((0:Int)<=F.getD i 0)=false:=by simpa using hs
   by_cases hii:LX P.procs i i=false
   ·obtain⟨M8,hlst⟩:=hsk (.inr hii);have bJ:OV H kv ((oE P.procs (i+1)).map encI):=by rw[oE,hlst];exact bm
    simp -implicitDefEqProofs only[h2,h3,h4,nK,jP,gu,ct,hg,hi,tQ,mq,nJ,vp,jU,xY,zg,aw,List.length_map,bL,b6,L5,hii,go_sem];exact⟨Nat.le_refl _,m,Nat.lt_succ_self _,i+1,F,kv,by omega,M8,rfl,bJ,dW,rfl,rfl⟩
   have hii:LX P.procs i i=true:=by simpa using hii
   obtain⟨M8,hlst⟩:=hR.put hL hi (by omega) hii;have hrI:oE P.procs (i+1)=oE P.procs i++ [(rO (LX P.procs) i P.procs.length).map fun(k:Nat)=>(k:Int)]:=by rw[oE,hlst,List.map_append];rfl
   have Da:((oE P.procs i).map encI).length=(gV (LX P.procs) i).length:=by simp[oE]
   have hrlm:(gV (LX P.procs) i).length<=i:=by
    have:=List.length_filter_le (Iz (LX P.procs)) (List.range i);simpa[gV]using this
   simp -implicitDefEqProofs only[h2,h3,h4,nK,jP,gu,ct,hg,hi,tQ,mq,nJ,vp,jU,xY,zg,aw,List.length_map,bL,b6,L5,hii,go_sem];refine⟨Nat.le_refl _,?_⟩;refine aL (fun m e H=>∃k v,k+m=P.procs.length/\i<=k/\H[0]? =some (.row ((ra F ((gV (LX P.procs) i).length:Int) (rO (LX P.procs) i k)).map (.int .i64)))/\
    OV H kv ((oE P.procs i).map encI)/\OV H v (((rO (LX P.procs) i k).map fun(k:Nat)=>(k:Int)).map (.int .i64))/\dj v kv/\a7 v 0/\
    e 2=kv/\e 3=.ms 0 0 P.procs.length/\e 4=.fs (A.map dE)/\e 24=.fs (A.map dE)/\e 25=.int .i64 P.procs.length/\e 26=.int .i64 i/\e 6=.int .i64 i/\e 7=.db ((A.getD i []).map (.int .i64)) (bF (A.getD i []))/\e 8=v/\e 9=.int .i64 k) (m+1)
    ⟨i,.ag,by omega,Nat.le_refl _,by rw[zj];exact mq,bm,.inl ⟨by simp[zj],rfl⟩,(fun id=> .inl (fun a b h=>by cases h)),(fun a b h=>by cases h),by simp[az,h2],by simp[az,h3],by simp[az,h4],by simp[az,nK],by simp[az,jP],by simp[az,gu],by simp[az,gu],by simp[az],by simp[az],by simp[az,gu]⟩ ?_
   clear h2 h3 h4 nK jP gu mq bm tQ hR hsk e H;rintro m2 e H ⟨k,v,DW,sY,mq,bm,bJ,Pt,QX,h2,h3,h4,nK,jP,gu,h6,h7,h8,h9⟩;have j8:=bJ.one;have cY:=bJ.cS;simp only[V.one]at cY;cases m2 with
   | zero=>
    have hk:k=P.procs.length:=by omega
    subst hk;simp -implicitDefEqProofs only[h2,h3,h4,nK,jP,gu,h6,h7,h8,h9,xY,Int.lt_irrefl,decide_false,zg,go_sem];intro _;obtain⟨D,hz,L6⟩:=bJ.freeze;have hkH:(bO D H)[0]? =_:=(L6 0 QX).trans mq;have j5:=(List.getElem?_eq_some_iff.1 hkH).1;refine⟨D,_,hz,?_⟩;simp -implicitDefEqProofs only[h2,h3,h4,nK,jP,gu,h6,h7,h8,h9,zg,go_sem];have bo:OV (bO D H) kv ((oE P.procs i).map encI):=bm.frame (fun id o n hid _=>L6 id (by
     rcases Pt id with h | h
     ·exact h
     ·exact absurd hid (h o n)))
    refine cu bo (fun i o l h=>by cases h) (zb _) (by rw[Da];simp only[List.length_cons,List.length_nil];omega) ?_;rintro bN H' Vy hle cp;simp -implicitDefEqProofs only[h2,h3,h4,nK,jP,gu,h6,h7,h8,h9,zg,go_sem];obtain⟨ky,jO⟩:=cp 0 j5 dW;refine⟨m,Nat.lt_succ_self _,i+1,_,bN,by omega,M8,by rw[ky,hkH],?_,jO,rfl,rfl⟩;rw[hrI,List.map_append];exact Vy
   | succ m2=>
    have hk:k<P.procs.length:=by omega
    have Ku:decide ((k:Int)<(P.procs.length:Int))=true:=by simp;omega
    have qx:=bG (k:=k) (by omega);have zR:=ES k hk;have cR:(ra F ((gV (LX P.procs) i).length:Int) (rO (LX P.procs) i k)).length=P.procs.length:=by rw[uq,jU]
    have Vz:=xZ _ cR k hk;have Hc:=G9 (LX P.procs) sY;have hCc:Cc (LX P.procs) i k=(LX P.procs i k && LX P.procs k i):=rfl;cases gQ:LX P.procs i k with
    | false=>
     simp -implicitDefEqProofs only[h2,h3,h4,nK,jP,gu,h6,h7,h8,h9,xY,Ku,qx,zR,hk,bL,b6,L5,gQ,go_sem];intro _;have hq:rO (LX P.procs) i (k+1)=rO (LX P.procs) i k:=by rw[Hc,hCc,gQ];simp
     exact⟨m2,Nat.lt_succ_self _,k+1,v,by omega,by omega,by rw[hq];exact mq,bm,by rw[hq];exact bJ,Pt,QX,rfl,rfl⟩
    | true=>
     cases He:LX P.procs k i with
     | false=>
      simp -implicitDefEqProofs only[h2,h3,h4,nK,jP,gu,h6,h7,h8,h9,xY,Ku,qx,zR,hk,bL,b6,L5,gQ,He,go_sem];intro _;have hq:rO (LX P.procs) i (k+1)=rO (LX P.procs) i k:=by rw[Hc,hCc,gQ,He];simp
      exact⟨m2,Nat.lt_succ_self _,k+1,v,by omega,by omega,by rw[hq];exact mq,bm,by rw[hq];exact bJ,Pt,QX,rfl,rfl⟩
     | true=>
      have hq:rO (LX P.procs) i (k+1)=rO (LX P.procs) i k++ [k]:=by rw[Hc,hCc,gQ,He];simp
      have ED:(kv=.ag/\(gV (LX P.procs) i).length=0)\/∃id,kv=.ms id 0 (gV (LX P.procs) i).length:=by
       rcases bm with⟨h1,h2⟩ | ⟨_,id,h1,_⟩
       ·exact .inl ⟨h2,by rw[<-Da,h1];rfl⟩
       ·exact .inr ⟨id,by rw[h1,Da]⟩
      have sm:(rO (LX P.procs) i k).length<=k:=by
       have:=List.length_filter_le (fun j=>decide (i<=j) && Cc (LX P.procs) i j) (List.range k);simpa[rO]using this
      have j5:=(List.getElem?_eq_some_iff.1 mq).1;generalize Dv:(gV (LX P.procs) i).length=c at*;generalize hOO:(oE P.procs i).map encI=OO at*;have fi:∀b,b=ak.row (((ra F (c:Int) (rO (LX P.procs) i k)).map (V.int .i64)).set k (.int .i64 c))->∀bN H',OV H' bN ((((rO (LX P.procs) i k).map fun(k:Nat)=>(k:Int)).map (V.int .i64))++ [.int .i64 k])->(∀j,j<(H.set 0 b).length->a7 v j->H'[j]? =(H.set 0 b)[j]? /\a7 bN j)->
       H'[0]? =some (.row ((ra F (c:Int) (rO (LX P.procs) i (k+1))).map (.int .i64)))/\OV H' kv OO/\OV H' bN (((rO (LX P.procs) i (k+1)).map fun(k:Nat)=>(k:Int)).map (.int .i64))/\dj bN kv/\a7 bN 0:=by
       rintro b rfl bN H' bo cp;obtain⟨ky,jO⟩:=cp 0 (by simpa using j5) QX;refine⟨?_,?_,?_,fun id=> ?_,jO⟩
       ·rw[ky,List.getElem?_set_self j5,hq,Ed,List.map_set]
       ·refine(bm.set dW).frame (fun id o n hid hl=>(cp id hl ?_).1);rcases Pt id with h | h
        ·exact h
        ·exact absurd hid (h o n)
       ·rw[hq];simpa using bo
       ·rcases Pt id with h | h
        ·by_cases hl:id<H.length
         ·exact .inl (cp id (by simpa using hl) h).2
         ·exact .inr (bm.lt (by omega))
        ·exact .inr h
      rcases ED with⟨rfl,rfl⟩ | ⟨id,rfl⟩
      ·simp -implicitDefEqProofs only[h2,h3,h4,nK,jP,gu,h6,h7,h8,h9,xY,Ku,qx,zR,hk,bL,b6,L5,gQ,He,mq,Vz,cR,aw,List.length_map,go_sem];intro _;refine⟨Nat.le_refl _,?_⟩;refine cu (bJ.set QX) (fun i o l h=>by cases h) (cA _ _ (fun x=>by simp[aw]) _) (by simp only[List.length_map,List.length_cons,List.length_nil];omega) ?_;rintro bN H' bo hle cp;obtain⟨r1,r2,r3,r4,r5⟩:=fi _ (by rfl) bN H' bo cp;simp -implicitDefEqProofs only[h2,h3,h4,nK,jP,gu,h6,h7,h8,h9,qx,go_sem];exact⟨m2,Nat.lt_succ_self _,k+1,bN,by omega,by omega,r1,r2,r3,r4,r5,rfl,rfl⟩
      ·simp -implicitDefEqProofs only[h2,h3,h4,nK,jP,gu,h6,h7,h8,h9,xY,Ku,qx,zR,hk,bL,b6,L5,gQ,He,mq,Vz,cR,aw,List.length_map,go_sem];intro _ _;refine⟨Nat.le_refl _,?_⟩;refine cu (bJ.set QX) (fun i o l h=>by cases h) (cA _ _ (fun x=>by simp[aw]) _) (by simp only[List.length_map,List.length_cons,List.length_nil];omega) ?_;rintro bN H' bo hle cp;obtain⟨r1,r2,r3,r4,r5⟩:=fi _ (by rfl) bN H' bo cp;simp -implicitDefEqProofs only[h2,h3,h4,nK,jP,gu,h6,h7,h8,h9,qx,go_sem];exact⟨m2,Nat.lt_succ_self _,k+1,bN,by omega,by omega,r1,r2,r3,r4,r5,rfl,rfl⟩
def bl (s:ByteArray):List UInt8:=s.data.toList
def lb (z:List UInt8):ByteArray:=⟨z.toArray⟩
theorem wj (s:ByteArray):lb (bl s)=s:=by cases s;simp[lb,bl]
theorem Hp (z:List UInt8):bl (lb z)=z:=by simp[lb,bl]
def Eh (l:List (List UInt8)):List (List UInt8):=l.mergeSort fun x y=>decide (x<=y)
def zV (l:List ByteArray):List ByteArray:=(Eh (l.map bl)).map lb
def sc (l:List ByteArray):List ByteArray:=(Lib.compact (l.map bl)).map lb
theorem m6 (l:List ByteArray):(zV l).length=l.length:=by simp[zV,Eh,List.length_mergeSort]
theorem rb (l:List (List UInt8)):(Eh l).Perm l:=List.mergeSort_perm _ _
theorem rQ (l:List (List UInt8)):(Eh l).Pairwise (·<=·):=by
 have:=List.pairwise_mergeSort (le:=fun(x y:List UInt8)=>decide (x<=y)) (fun a b c h1 h2=>by simp only[decide_eq_true_eq]at*;exact List.le_trans h1 h2) (fun a b=>by simp only[Bool.or_eq_true,decide_eq_true_eq];exact List.le_total a b) l;exact this.imp (fun h=>by simpa using h)
theorem xx (zs:List (List UInt8)) (hs:zs.Pairwise (·<=·)):∀m,m<=zs.length->(∀x,x∈Lib.compactUpTo zs.toArray m↔x∈zs.take m)/\(Lib.compactUpTo zs.toArray m).Pairwise (fun a b=>a<=b/\a≠b)
 | 0,_=>by simp[Lib.compactUpTo]
 | m+1,h=>by
  obtain⟨h1,h2⟩:=xx zs hs m (by omega);have hm:m<zs.length:=by omega
  have hz:zs.toArray[m]! =zs[m]:=by simp[hm]
  have ht:zs.take (m+1)=zs.take m++ [zs[m]]:=by rw[List.take_succ_eq_append_getElem hm]
  rw[Lib.compactUpTo_succ,hz,ht];by_cases hk:Lib.keeps zs.toArray m=true
  ·rw[if_pos hk];refine⟨fun x=>by rw[List.mem_append,List.mem_append,h1],?_⟩;rw[List.pairwise_append];refine⟨h2,by simp,fun a ha b hb=> ?_⟩;simp only[List.mem_singleton]at hb;subst hb;have NW:=(h1 a).1 ha;obtain⟨j,hj,rfl⟩:=List.mem_take_iff_getElem.1 NW;have Ll:j<m:=by omega
   have hle:=List.pairwise_iff_getElem.1 hs j m (by omega) hm Ll;refine⟨hle,fun e=> ?_⟩;simp only[Lib.keeps,decide_eq_true_eq]at hk;rcases hk with hk | hk
   ·omega
   ·rw[hz]at hk;have oM:m - 1<zs.length:=by omega
    have Ff:zs.toArray[m - 1]! =zs[m - 1]:=by simp[oM]
    rw[Ff]at hk;have h3:=List.pairwise_iff_getElem.1 hs (m - 1) m oM hm (by omega);have h4:zs[j]<=zs[m - 1]:=by
     by_cases Yj:j=m - 1
     ·subst Yj;exact List.le_refl _
     ·exact List.pairwise_iff_getElem.1 hs j (m - 1) (by omega) oM (by omega)
    rw[e]at h4;exact hk (List.le_antisymm h4 h3)
  ·rw[if_neg hk,List.append_nil];refine⟨fun x=> ?_,h2⟩;rw[h1,List.mem_append,List.mem_singleton];refine⟨.inl,fun hx=> ?_⟩;rcases hx with hx | rfl
   ·exact hx
   ·simp only[Lib.keeps,decide_eq_true_eq,not_or,Classical.not_not,ne_eq]at hk;obtain⟨dW,iT⟩:=hk;have oM:m - 1<zs.length:=by omega
    have Ff:zs.toArray[m - 1]! =zs[m - 1]:=by simp[oM]
    rw[hz,Ff]at iT;rw[iT];exact List.mem_take_iff_getElem.2 ⟨m - 1,by omega,rfl⟩
theorem KG (zs:List (List UInt8)) (hs:zs.Pairwise (·<=·)) (x:List UInt8):x∈Lib.compact zs↔x∈zs:=by
 have:=(xx zs hs zs.length (Nat.le_refl _)).1 x;rwa[List.take_length]at this
theorem A5 (zs:List (List UInt8)) (hs:zs.Pairwise (·<=·)):(Lib.compact zs).Pairwise (fun a b=>a<=b/\a≠b):=(xx zs hs zs.length (Nat.le_refl _)).2
theorem CI {a b:List (List UInt8)} (ha:a.Pairwise (fun x y=>x<=y/\x≠y)) (hb:b.Pairwise (fun x y=>x<=y/\x≠y)) (h:∀x,x∈a↔x∈b):a=b:=by
 have QS:a.Nodup:=ha.imp (fun h=>h.2);have DH:b.Nodup:=hb.imp (fun h=>h.2);have hp:a.Perm b:=(List.perm_ext_iff_of_nodup QS DH).2 h;exact hp.eq_of_pairwise (fun x y _ _ h1 h2=>List.le_antisymm h1.1 h2.1) ha hb
def KI (l:List ByteArray):List (List UInt8):=Lib.compact (Eh (l.map bl))
def iB (l:List ByteArray):List ByteArray:=sc (zV l)
theorem uy (l:List ByteArray):iB l=(KI l).map lb:=by
 have:(zV l).map bl=Eh (l.map bl):=by rw[zV,List.map_map,show bl∘lb=id from funext Hp,List.map_id]
 rw[iB,sc,this];rfl
theorem m7 (l:List ByteArray) (x:List UInt8):x∈KI l↔x∈l.map bl:=by rw[KI,KG _ (rQ _)];exact(rb _).mem_iff
theorem zo (l:List ByteArray):(KI l).Pairwise (fun x y=>x<=y/\x≠y):=A5 _ (rQ _)
theorem nsort_mem (l:List ByteArray) (s:ByteArray):s∈iB l↔s∈l:=by
 rw[uy];constructor
 ·intro h;obtain⟨x,hx,rfl⟩:=List.mem_map.1 h;obtain⟨t,ht,rfl⟩:=List.mem_map.1 ((m7 l x).1 hx);rw[wj];exact ht
 ·intro h;exact List.mem_map.2 ⟨bl s,(m7 l _).2 (List.mem_map_of_mem h),wj s⟩
theorem nsort_nodup (l:List ByteArray):(iB l).Nodup:=by
 rw[uy];refine List.Pairwise.map _ (fun a b (h:a<=b/\a≠b) e=>h.2 ?_) (zo l);rw[<-Hp a,e,Hp]
def nz (l:List ByteArray):List ByteArray:=match l with
 | []=> []
 | x::r=>if x=⟨#[]⟩then r else x::r
theorem PL {l m:List ByteArray} (h:∀s,(s∈l/\s≠⟨#[]⟩)↔s∈m):nz (iB l)=iB m:=by
 have hr:=zo l;have da:=m7 l;have EN:∀x:List UInt8,lb x=⟨#[]⟩↔x=[]:=fun x=>by
  constructor
  ·intro e;have:=congrArg bl e;rw[Hp]at this;rw[this];rfl
  ·rintro rfl;rfl
 have dr:∀x∈KI m,x≠ []:=by
  intro x hx e;obtain⟨t,ht,rfl⟩:=List.mem_map.1 ((m7 m x).1 hx);exact((h t).2 ht).2 (by rw[<-wj t,e];rfl)
 have j6:∀x,x≠ []->(x∈KI l↔x∈KI m):=by
  intro x hx;rw[m7,m7];constructor
  ·intro h1;obtain⟨t,ht,rfl⟩:=List.mem_map.1 h1;exact List.mem_map_of_mem ((h t).1 ⟨ht,fun e=>hx (by rw[e];rfl)⟩)
  ·intro h1;obtain⟨t,ht,rfl⟩:=List.mem_map.1 h1;exact List.mem_map_of_mem ((h t).2 ht).1
 have hrm:=zo m;rw[uy,uy];generalize KI m=b at*;cases hl:KI l with
 | nil=>
  rw[hl]at j6;have:b=[]:=by
   cases b with
   | nil=>rfl
   | cons y b=>exact absurd ((j6 y (dr y (by simp))).2 (by simp)) (by simp)
  rw[this];rfl
 | cons x r=>
  rw[hl]at hr j6;rw[List.pairwise_cons]at hr;by_cases hx:x=[]
  ·subst hx;rw[List.map_cons,nz,if_pos ((EN []).2 rfl)];congr 1
   refine CI hr.2 hrm (fun y=> ?_);by_cases hy:y=[]
   ·subst hy;exact⟨fun h=>absurd rfl (hr.1 _ h).2,fun h=>absurd rfl (dr _ h)⟩
   ·rw[<-j6 y hy];simp[hy]
  ·rw[List.map_cons,nz,if_neg (fun e=>hx ((EN x).1 e)),<-List.map_cons];congr 1
   refine CI (List.pairwise_cons.2 hr) hrm (fun y=> ?_);by_cases hy:y=[]
   ·subst hy;refine⟨fun h=> ?_,fun h=>absurd rfl (dr _ h)⟩;simp only[List.mem_cons]at h;rcases h with h | h
    ·exact absurd h.symm hx
    ·have h1:=(hr.1 _ h).1;exact absurd (List.le_antisymm h1 (List.nil_le _)) hx
   ·exact j6 y hy
end Go.Proofs.YtdgoeblpcnjlbaaGreatDoor.Av
namespace Go.Proofs
open Go.Shelf List
def Tryz.Ei:Go.Shelf.Ren:=⟨fun | 6=>101 | 8=>168 | 9=>172 | 19=>211 | 20=>212 | 21=>223 | 22=>224 | 23=>225 | 24=>226 | 25=>227 | 26=>228 | 27=>229 | 28=>230 | 29=>231 | 36=>267 | 31=>260 | 32=>261 | 37=>268 | 38=>269 | 39=>270 | 41=>283 | n=>n,fun | 27=>31 | 29=>9 | 3=>3 | 32=>233 | 26=>31 | 0=>0 | 44=>266 | 46=>268 | 4=>4 | 36=>259 | 35=>258 | 41=>263 | 5=>5 | 9=>9 | 53=>303 | 57=>198 | 63=>318 | 64=>319 | n=>n,fun | n=>n⟩
theorem Tryz.Md:Go.Proofs.SlLaysM.n6 Tryz.prog Tryz.Ei:={
 mixed:=by kernel_rfl
 f6:=⟨Tryz.f101.name,by decide,Tryz.func101.trans (congrArg some (by kernel_rfl))⟩
 f8:=Tryz.func168.trans (congrArg some (by kernel_rfl))
 f9:=⟨Tryz.f172.name,by decide,Tryz.func172.trans (congrArg some (by kernel_rfl))⟩
 f19:=Tryz.func211.trans (congrArg some (by kernel_rfl))
 f20:=Tryz.func212.trans (congrArg some (by kernel_rfl))
 f21:=⟨Tryz.f223.name,by decide,Tryz.func223.trans (congrArg some (by kernel_rfl))⟩
 f22:=⟨Tryz.f224.name,by decide,Tryz.func224.trans (congrArg some (by kernel_rfl))⟩
 f23:=⟨Tryz.f225.name,by decide,Tryz.func225.trans (congrArg some (by kernel_rfl))⟩
 f24:=⟨Tryz.f226.name,by decide,Tryz.func226.trans (congrArg some (by kernel_rfl))⟩
 f25:=⟨Tryz.f227.name,by decide,Tryz.func227.trans (congrArg some (by kernel_rfl))⟩
 f26:=⟨Tryz.f228.name,by decide,Tryz.func228.trans (congrArg some (by kernel_rfl))⟩
 f27:=⟨Tryz.f229.name,by decide,Tryz.func229.trans (congrArg some (by kernel_rfl))⟩
 f28:=⟨Tryz.f230.name,by decide,Tryz.func230.trans (congrArg some (by kernel_rfl))⟩
 f29:=⟨Tryz.f231.name,by decide,Tryz.func231.trans (congrArg some (by kernel_rfl))⟩
 f31:=Tryz.func260.trans (congrArg some (by kernel_rfl))
 f32:=Tryz.func261.trans (congrArg some (by kernel_rfl))
 f36:=⟨Tryz.f267.name,by decide,Tryz.func267.trans (congrArg some (by kernel_rfl))⟩
 f37:=⟨Tryz.f268.name,by decide,Tryz.func268.trans (congrArg some (by kernel_rfl))⟩
 f38:=⟨Tryz.f269.name,by decide,Tryz.func269.trans (congrArg some (by kernel_rfl))⟩
 f39:=⟨Tryz.f270.name,by decide,Tryz.func270.trans (congrArg some (by kernel_rfl))⟩
 f41:=⟨Tryz.f283.name,by decide,Tryz.func283.trans (congrArg some (by kernel_rfl))⟩
 t0:=Tryz.underlying0
 a0:=Tryz.isAgg0
 z0:=Tryz.sizeOf0
 v0:=Tryz.zeroValue0
 t3:=Tryz.underlying3
 a3:=Tryz.isAgg3
 z3:=Tryz.sizeOf3
 v3:=Tryz.zeroValue3
 t4:=Tryz.underlying4
 a4:=Tryz.isAgg4
 z4:=Tryz.sizeOf4
 v4:=Tryz.zeroValue4
 t5:=Tryz.underlying5
 a5:=Tryz.isAgg5
 z5:=Tryz.sizeOf5
 v5:=Tryz.zeroValue5
 t9:=Tryz.underlying9
 a9:=Tryz.isAgg9
 z9:=Tryz.sizeOf9
 v9:=Tryz.zeroValue9
 t26:=Tryz.underlying31
 a26:=Tryz.isAgg31
 z26:=Tryz.sizeOf31
 v26:=Tryz.zeroValue31
 t27:=Tryz.underlying31
 a27:=Tryz.isAgg31
 z27:=Tryz.sizeOf31
 v27:=Tryz.zeroValue31
 t29:=Tryz.underlying9
 a29:=Tryz.isAgg9
 z29:=Tryz.sizeOf9
 v29:=Tryz.zeroValue9
 t32:=Tryz.underlying233
 a32:=Tryz.isAgg233
 z32:=Tryz.sizeOf233
 v32:=Tryz.zeroValue233
 t35:=Tryz.underlying258
 a35:=Tryz.isAgg258
 z35:=Tryz.sizeOf258
 v35:=Tryz.zeroValue258
 t36:=Tryz.underlying259
 a36:=Tryz.isAgg259
 z36:=Tryz.sizeOf259
 v36:=Tryz.zeroValue259
 t41:=Tryz.underlying263
 a41:=Tryz.isAgg263
 z41:=Tryz.sizeOf263
 v41:=Tryz.zeroValue263
 t44:=Tryz.underlying266
 a44:=Tryz.isAgg266
 z44:=Tryz.sizeOf266
 v44:=Tryz.zeroValue266
 t46:=Tryz.underlying268
 a46:=Tryz.isAgg268
 z46:=Tryz.sizeOf268
 v46:=Tryz.zeroValue268
 t53:=Tryz.underlying303
 a53:=Tryz.isAgg303
 z53:=Tryz.sizeOf303
 v53:=Tryz.zeroValue303
 t57:=Tryz.underlying198
 a57:=Tryz.isAgg198
 z57:=Tryz.sizeOf198
 v57:=Tryz.zeroValue198
 t63:=Tryz.underlying318
 a63:=Tryz.isAgg318
 z63:=Tryz.sizeOf318
 v63:=Tryz.zeroValue318
 t64:=Tryz.underlying319
 a64:=Tryz.isAgg319
 z64:=Tryz.sizeOf319
 v64:=Tryz.zeroValue319}
def Tryz.Ej:Go.Shelf.Ren:=⟨fun | 44=>102 | n=>n,fun | 25=>31 | 26=>9 | 3=>3 | 4=>4 | 0=>0 | n=>n,fun | n=>n⟩
theorem Tryz.Me:Go.Proofs.SlLaysN.n44 Tryz.prog Tryz.Ej:={
 mixed:=by kernel_rfl
 f44:=⟨Tryz.f102.name,by decide,Tryz.func102.trans (congrArg some (by kernel_rfl))⟩
 t0:=Tryz.underlying0
 a0:=Tryz.isAgg0
 z0:=Tryz.sizeOf0
 v0:=Tryz.zeroValue0
 t3:=Tryz.underlying3
 a3:=Tryz.isAgg3
 z3:=Tryz.sizeOf3
 v3:=Tryz.zeroValue3
 t4:=Tryz.underlying4
 a4:=Tryz.isAgg4
 z4:=Tryz.sizeOf4
 v4:=Tryz.zeroValue4
 t25:=Tryz.underlying31
 a25:=Tryz.isAgg31
 z25:=Tryz.sizeOf31
 v25:=Tryz.zeroValue31
 t26:=Tryz.underlying9
 a26:=Tryz.isAgg9
 z26:=Tryz.sizeOf9
 v26:=Tryz.zeroValue9
 i26:=by kernel_rfl}
end Go.Proofs
namespace Go.Proofs.YtdgoeblpcnjlbaaGreatDoor.Av
open Go.RowKit Go.Sort List
theorem wm {α:Type} [Inhabited α] {f:Fr} {B:List Pl} {I:IM} {w:World} {H:List ak} (hs:cD f B I w H) (enc:α->Value) {id:Nat} {p:Pl} {es wz:List V}
 (hp:B[id]? =some p) (hH:H[id]? =some (.row es)) (hl:wz.length=es.length) (d:Array α)
 (he:∀(i:Nat) e,wz[i]? =some e->(aw e).length=p.esz/\∀(j:Nat) c,(aw e)[j]? =some c->i*p.esz+j<d.size/\aU B I c (enc d[i*p.esz+j]!)) (n:Nat) (os:Array Obj):
 cD f B I (grow (putRow enc (Sort.ahead w n) p.dI p.base d) os) (H.set id (.row wz)):=by
 obtain⟨carr,t,h1,h2,h3,h4⟩:=hs.ok id p _ hp hH;have iI:putRow enc w p.dI p.base d=w.setRow p.dI (putCells enc p.base d carr):=by
  unfold putRow mapBlock World.setRow
  congr 1
  apply Array.ext_getElem?
  intro k;simp only[Array.getElem?_modify];by_cases hk:p.dI=k
  ·subst hk;simp only[if_true,h1,Option.map_some,onCells]
  ·simp[hk]
 have eW:(putCells enc p.base d carr).size=carr.size:=by simp[putCells]
 have JU:=hs.rewrite hp hH h1 eW (wz:=wz) (by rw[hl];exact h3) (by
  rw[ch];intro i e hi;obtain⟨q1,q2⟩:=he i e hi;refine⟨q1,fun j c hj=> ?_⟩;obtain⟨q3,q4⟩:=q2 j c hj;have rm:i<wz.length:=(List.getElem?_eq_some_iff.1 hi).1;have oN:j<p.esz:=by rw[<-q1];exact(List.getElem?_eq_some_iff.1 hj).1
  have hb:p.base+i*p.esz+j<carr.size:=by
   have:(i+1)*p.esz<=es.length*p.esz:=Nat.mul_le_mul_right _ (by omega);rw[Nat.add_mul]at this;omega
  refine⟨_,?_,q4⟩;simp only[putCells,Array.getElem?_mapIdx];rw[Array.getElem?_eq_getElem hb,Option.map_some,if_pos ⟨by omega,by omega⟩,show p.base+i*p.esz+j - p.base=i*p.esz+j by omega])
 rw[<-iI]at JU;have Mf:∀k,k<(putRow enc w p.dI p.base d).heap.size->(grow (putRow enc (Sort.ahead w n) p.dI p.base d) os).heap[k]? =(putRow enc w p.dI p.base d).heap[k]? :=fun k hk=>by
  rw[putRow_ahead];exact heap_grow_old _ _ hk
 exact JU.grow ⟨rfl,rfl,rfl,by rw[size_grow,putRow_ahead];exact Nat.le_add_right _ _,Mf⟩ (dY.refl _) (fun b o hb=>by
  have:=JU.lH b o hb;rw[Mf b (Array.getElem?_eq_some_iff.1 this).1];exact this) (fun b h1 h2=>absurd h1 h2)
theorem CJ {B:List Pl} {I:IM} {w:World} {p:Pl} {l:List ByteArray} (hn:l≠ []) (h:o0 B I w p (.row (l.map .str))):p.esz=1:=by
 obtain⟨carr,t,h1,h2,h3,h4⟩:=h;cases l with
 | nil=>exact absurd rfl hn
 | cons x l=>
  rw[List.map_cons,fe]at h4;simpa[aw]using h4.1.symm
theorem wo {B:List Pl} {I:IM} {w:World} {p:Pl} {l:List ByteArray} (h:o0 B I w p (.row (l.map .str))) (hz:p.esz=1):(∀s∈l,s.size<=maxLen)/\Holds encStr w p.dI p.base (l.map bl).toArray:=by
 obtain⟨carr,t,h1,h2,h3,h4⟩:=h;rw[ch]at h4;have hc:∀(i:Nat) s,l[i]? =some s->carr[p.base+i]? =some (.string s)/\s.size<=maxLen:=by
  intro i s hi;obtain⟨q1,q2⟩:=h4 i (.str s) (by rw[List.getElem?_map,hi];rfl);obtain⟨v,q3,q4⟩:=q2 0 (.str s) rfl;simp only[aU]at q4;obtain⟨rfl,q5⟩:=q4;rw[hz,Nat.mul_one,Nat.add_zero]at q3;exact⟨q3,q5⟩
 refine⟨fun s hs=> ?_,fun j hj=> ?_⟩
 ·obtain⟨i,hi,rfl⟩:=List.getElem_of_mem hs;exact(hc i _ (List.getElem?_eq_getElem hi)).2
 ·have Nd:j<l.length:=by simpa using hj
  have:=(hc j _ (List.getElem?_eq_getElem Nd)).1;refine⟨?_,?_⟩
  ·simp only[World.cell?,h1,this];simp[Nd,bl,encStr]
  ·simp only[World.frozen?,h1];simp
theorem CK {B:List Pl} {I:IM} {l m:List ByteArray} (hl:∀s∈m,s.size<=maxLen) {z:Nat} (hz:z=1):∀(i:Nat) e,(m.map V.str)[i]? =some e->(aw e).length=z/\∀(j:Nat) c,(aw e)[j]? =some c->i*z+j<(m.map bl).toArray.size/\aU B I c (encStr (m.map bl).toArray[i*z+j]!):=by
 subst hz;intro i e hi;rw[List.getElem?_map]at hi;cases hm:m[i]? with
 | none=>rw[hm]at hi;cases hi
 | some s=>
  rw[hm]at hi;cases hi;obtain⟨hi,hs⟩:=List.getElem?_eq_some_iff.1 hm;refine⟨rfl,fun j c hj=> ?_⟩;simp only[aw]at hj;have Rt:j=0:=by have:=(List.getElem?_eq_some_iff.1 hj).1;simp at this;exact this
  subst Rt;simp at hj;subst hj;refine⟨by simpa using hi,?_⟩;have:encStr (m.map bl).toArray[i*1+0]! =.string s:=by simp[hi,hs,bl,encStr]
  rw[this];simp only[aU,true_and];exact hl s (by rw[<-hs];exact List.getElem_mem hi)
theorem wq (l:List (List UInt8)):(l.map lb).map bl=l:=by rw[List.map_map,show bl∘lb=id from funext Hp,List.map_id]
theorem KJ (l:List ByteArray) (s:ByteArray):s∈zV l↔s∈l:=by
 constructor
 ·intro h;obtain⟨x,hx,rfl⟩:=List.mem_map.1 h;obtain⟨t,ht,rfl⟩:=List.mem_map.1 ((rb _).mem_iff.1 hx);rw[wj];exact ht
 ·intro h;exact List.mem_map.2 ⟨bl s,(rb _).mem_iff.2 (List.mem_map_of_mem h),wj s⟩
theorem VR {H:List ak} {id:Nat} {l:List ByteArray} (hH:H[id]? =some (.row (l.map .str))) (hl:l.length<=1000000000) (hn:l≠ []):
 av Tryz.prog 101 [.ms id 0 l.length] H (bX (.dJ []) (H.set id (.row ((zV l).map .str)))):=by
 refine⟨by kernel_rfl,fun f B I w args hs hr=> ?_⟩;simp only[aV,aU]at hr;obtain⟨v0,l0,eD,⟨p,a,cap,hp,rfl,ha,Ib,lA,VS⟩,rfl⟩:=hr;have gp:=List.length_pos_iff.2 hn;have NW:=ha (by omega);subst NW;have dx:=hs.ok id p _ hp hH;have hz:=CJ hn dx;obtain⟨eW,hHo⟩:=wo dx hz;obtain⟨UE,_,O4⟩:=hs.own id p _ hp hH rfl;have gU:args= #[.slice (some ⟨p.dI,p.base,none⟩) l.length cap]:=by
  cases args;simp at eD;simp[eD]
 subst gU;have hc:=AnyM.slices_Sort_string Tryz.Md p.dI p.base cap (l.map bl) w hHo O4 (by simp;omega);rw[List.length_map]at hc;refine hc.mono ?_;rintro e w' ⟨rfl,n,os,rfl⟩;have hd:(l.map bl).mergeSort (fun x y=>decide (x<=y))=(zV l).map bl:=by rw[zV,wq];rfl
 rw[hd];refine⟨.dJ [],_,_,B,I,rfl,⟨rfl,rfl⟩,wm hs encStr hp hH (by simp[m6]) _ (CK (l:=l) (fun s hs=>eW s ((KJ l s).1 hs)) hz) n os,eA.refl _,dY.refl _,?_⟩;simp[aU,aV]
theorem Mg {H:List ak}:av Tryz.prog 101 [.ag] H (bX (.dJ []) H):=by
 refine⟨by kernel_rfl,fun f B I w args hs hr=> ?_⟩;simp only[aV,aU]at hr;obtain⟨v0,l0,eD,rfl,rfl⟩:=hr;have gU:args= #[.slice none 0 0]:=by
  cases args;simp at eD;simp[eD]
 subst gU;refine(AnyM.slices_Sort_string_none Tryz.Md none 0 w).mono ?_;rintro e w' ⟨rfl,rfl⟩;exact⟨.dJ [],_,H,B,I,rfl,⟨rfl,rfl⟩,hs,eA.refl _,dY.refl _,by simp[aU,aV]⟩
theorem Hq (l:List ByteArray):(sc l).length<=l.length:=by
 have:(Lib.compact (l.map bl)).length<=(l.map bl).length:=by
  rw[Lib.compact,Lib.compactUpTo,List.length_map];exact Nat.le_trans (List.length_filter_le _ _) (by simp)
 simpa[sc]using this
theorem Hr (l:List ByteArray):∀s∈sc l,s∈l:=by
 intro s h;obtain⟨x,hx,rfl⟩:=List.mem_map.1 h;rw[Lib.compact,Lib.compactUpTo]at hx;obtain⟨i,hi,rfl⟩:=List.mem_map.1 hx;have dF:=List.mem_range.1 (List.mem_filter.1 hi).1;have hil':i<l.length:=by simpa using dF
 simp[hil',wj]
def zp (l:List ByteArray):List ByteArray:=sc l++List.replicate (l.length - (sc l).length) ⟨#[]⟩
theorem VT {H:List ak} {id:Nat} {l:List ByteArray} (hH:H[id]? =some (.row (l.map .str))) (hl:l.length<=1000000000) (hn:l≠ []):
 av Tryz.prog 102 [.ms id 0 l.length] H (bX (.ms id 0 (sc l).length) (H.set id (.row ((zp l).map .str)))):=by
 refine⟨by kernel_rfl,fun f B I w args hs hr=> ?_⟩;simp only[aV,aU]at hr;obtain⟨v0,l0,eD,⟨p,a,cap,hp,rfl,ha,Ib,lA,VS⟩,rfl⟩:=hr;have gp:=List.length_pos_iff.2 hn;have NW:=ha (by omega);subst NW;have dx:=hs.ok id p _ hp hH;have hz:=CJ hn dx;obtain⟨eW,hHo⟩:=wo dx hz;have gU:args= #[.slice (some ⟨p.dI,p.base,none⟩) l.length cap]:=by
  cases args;simp at eD;simp[eD]
 subst gU;have hc:=AnyG.slices_Compact_string Tryz.Me p.dI p.base cap (l.map bl) w hHo (by simp;omega) (by simp;omega);rw[List.length_map]at hc;refine hc.mono ?_;rintro e w' ⟨rfl,q,rfl⟩;have hd:Lib.compact (l.map bl)++List.replicate (l.length - (Lib.compact (l.map bl)).length) []=(zp l).map bl:=by
  rw[zp,List.map_append,List.map_replicate,sc,wq,List.length_map];rfl
 rw[hd];have eT:=Hq l;have hr:=wm hs encStr (wz:=(zp l).map V.str) hp hH (by simp[zp];omega) _ (CK (l:=l) (fun s hs=>by
  rw[zp,List.mem_append]at hs;rcases hs with hs | hs
  ·exact eW s (Hr l s hs)
  ·obtain⟨_,rfl⟩:=List.mem_replicate.1 hs;exact Nat.zero_le _) hz) q #[]
 rw[grow_empty]at hr;refine⟨.ms id 0 (sc l).length,_,_,B,I,rfl,⟨rfl,rfl⟩,hr,eA.refl _,dY.refl _,?_⟩;simp only[aU];refine⟨p,_,cap,hp,by rw[sc,List.length_map],fun _=>by simp,by omega,lA,VS⟩
theorem Mh {H:List ak}:av Tryz.prog 102 [.ag] H (bX .ag H):=by
 refine⟨by kernel_rfl,fun f B I w args hs hr=> ?_⟩;simp only[aV,aU]at hr;obtain⟨v0,l0,eD,rfl,rfl⟩:=hr;have gU:args= #[.slice none 0 0]:=by
  cases args;simp at eD;simp[eD]
 subst gU;refine(AnyG.slices_Compact_string_empty Tryz.Me none 0 w).mono ?_;rintro e w' ⟨rfl,rfl⟩;exact⟨.ag,_,H,B,I,rfl,⟨rfl,rfl⟩,hs,eA.refl _,dY.refl _,by simp[aU]⟩
mutual
def Mi (h:St->List ByteArray):St->List ByteArray
 | .mk k r t v l e a b p ps=>h (.mk k r t v l e a b p ps)++(lN h a++lN h b)
def lN (h:St->List ByteArray):List St->List ByteArray
 | []=> []
 | x::l=>Mi h x++lN h l
end
theorem oI (h:St->List ByteArray):∀(a b:List St),lN h (a++b)=lN h a++lN h b
 | [],b=>by simp[lN]
 | x::a,b=>by rw[List.cons_append,lN,lN,oI h a b,List.append_assoc]
def GI (o:Nat) (kv:V) (acc:List ByteArray) (H:List ak):Prop:=H[o]? =some (.row [kv])/\OV H kv (acc.map .str)/\a7 kv o
def GF (o:Nat) (H:List ak) (kv:V) (H':List ak) (bN:V):Prop:=H.length<=H'.length/\∀j,j<H.length->j≠o->a7 kv j->H'[j]? =H[j]? /\a7 bN j
theorem GF.refl {o:Nat} {H:List ak} {kv:V}:GF o H kv H kv:=⟨Nat.le_refl _,fun j _ _ h=>⟨rfl,h⟩⟩
theorem GF.trans {o:Nat} {H H' VU:List ak} {kv bN VW:V} (h:GF o H kv H' bN) (k:GF o H' bN VU VW):GF o H kv VU VW:=
 ⟨Nat.le_trans h.1 k.1,fun j hj sy hk=>by
  obtain⟨h1,h2⟩:=h.2 j hj sy hk;obtain⟨h3,h4⟩:=k.2 j (Nat.lt_of_lt_of_le hj h.1) sy h2;exact⟨h3.trans h1,h4⟩⟩
theorem GF.app {o:Nat} {H:List ak} {kv:V} (L:List ak):GF o H kv (H++L) kv:=⟨by simp,fun j hj _ h=>⟨List.getElem?_append_left hj,h⟩⟩
theorem GI.app {o:Nat} {H:List ak} {kv:V} {acc:List ByteArray} (h:GI o kv acc H) (L:List ak):GI o kv acc (H++L):=
 ⟨by rw[List.getElem?_append_left (List.getElem?_eq_some_iff.1 h.1).1];exact h.1,h.2.1.app L,h.2.2⟩
theorem GI.lt {o:Nat} {H:List ak} {kv:V} {acc:List ByteArray} (h:GI o kv acc H):o<H.length:=(List.getElem?_eq_some_iff.1 h.1).1
def GK (o:Nat) (H:List ak) (kv:V) (acc:List ByteArray) (r0:V):V->List ak->Prop:=fun r H'=>r=r0/\∃bN,GI o bN acc H'/\GF o H kv H' bN
def CBG (g:FuncId) (first bB:List V) (o:Nat) (h:St->List ByteArray):Prop:=
 ∀acc n x H kv,GI o kv acc H->(acc++h x).length<=1000000000->av Tryz.prog g (first++(.int .i64 n::encS x::bB)) H (GK o H kv (acc++h x) (.dJ []))
theorem VX (h:St->List ByteArray) (g:FuncId) (first bB:List V) (o:Nat) (j1:CBG g first bB o h) (xs:List St)
 (ih:∀k r t v l e a b p ps,St.mk k r t v l e a b p ps∈xs->∀(acc:List ByteArray) (H:List ak) (kv:V) (n:Int),0<=n->GI o kv acc H->
   ((acc++lN h a).length<=1000000000->n+ai a<=1000000->av Tryz.prog 149 [.fs (a.map encS),.int .i64 n,.a6 g first bB] H (GK o H kv (acc++lN h a) (.int .i64 (n+ai a))))/\
   ((acc++lN h b).length<=1000000000->n+ai b<=1000000->av Tryz.prog 149 [.fs (b.map encS),.int .i64 n,.a6 g first bB] H (GK o H kv (acc++lN h b) (.int .i64 (n+ai b)))))
 (acc:List ByteArray) (H:List ak) (kv:V) (n:Int) (lV:0<=n) (tQ:GI o kv acc H) (hl:(acc++lN h xs).length<=1000000000) (hn:n+ai xs<=1000000):
 av Tryz.prog 149 [.fs (xs.map encS),.int .i64 n,.a6 g first bB] H (GK o H kv (acc++lN h xs) (.int .i64 (n+ai xs))):=by
 refine av.intro c51 400 (by simp) ?_;simp -implicitDefEqProofs only[YK,go_sem];intro hlen;refine aL (fun m e H1=>∃pre post kv1,xs=pre++post/\m=post.length/\e 1=.int .i64 (n+ai pre)/\e 2=.a6 g first bB/\e 9=.fs (xs.map encS)/\e 10=.int .i64 xs.length/\e 11=.int .i64 pre.length/\GI o kv1 (acc++lN h pre) H1/\GF o H kv H1 kv1) xs.length
  ⟨[],xs,kv,by simp[az,aC,ai,lN,GF.refl,tQ]⟩ ?_
 rintro m e H1 ⟨pre,post,kv1,ao,rfl,h1,h2,h9,eb,ez,Ht,VY⟩;cases post with
 | nil=>
  have ev:pre=xs:=by rw[ao];simp
  simp -implicitDefEqProofs only[h1,h2,h9,eb,ez,aI ao,go_sem];simp -implicitDefEqProofs only[YL,push_cast,go_sem_proc];rw[ev]at Ht⊢;exact⟨rfl,kv1,Ht,VY⟩
 | cons y post=>
  have hg:=aO encS ao;have zP:ai xs=ai pre+(dA y+ai post):=by rw[ao,aX,ai]
  have hey:lN h xs=lN h pre++(Mi h y++lN h post):=by rw[ao,oI,lN]
  have Dv:ai (pre++ [y])=ai pre+dA y:=by rw[aX];simp[ai]
  have Gz:lN h (pre++ [y])=lN h pre++Mi h y:=by rw[oI];simp[lN]
  have da:y∈xs:=by rw[ao];simp
  have Du:=j1 (acc++lN h pre) (n+ai pre) y;rcases y with⟨k,r,t,v,l,⟨ek,en,es,aR⟩,a,b,p,ps⟩
  have QM:=ih k r t v l (.mk ek en es aR) a b p ps da;simp only[dA]at zP Dv;simp only[Mi]at hey Gz;rw[hey]at hl;simp only[List.length_append]at hl QM Du;rw[ay]at hg Du;have w1:=bP (x:=n+ai pre+1) (by omega) (by omega);have L5:a7 kv1 H1.length:=Ht.2.1.mB (Nat.le_refl _);have hoL:o<H1.length:=Ht.lt;simp -implicitDefEqProofs only[h1,h2,h9,eb,ez,an ao,aa ao hlen,hg,go_sem];refine av.mono (Du _ kv1 (Ht.app _) (by omega)) ?_;rintro _ H2 ⟨rfl,fH,hgi2,PM⟩;obtain⟨jI,ir⟩:=PM.2 H1.length (by simp) (by omega) L5;rw[List.getElem?_append_right (Nat.le_refl _),Nat.sub_self,List.getElem?_cons_zero]at jI;simp -implicitDefEqProofs only[h1,h2,h9,eb,ez,an ao,aa ao hlen,hg,jI,w1,go_sem];refine av.mono ((QM _ H2 fH (n+ai pre+1) (by omega) hgi2).1 (by simp only[List.length_append];omega) (by omega)) ?_;rintro _ H3 ⟨rfl,Az,hgi3,VZ⟩;obtain⟨QG,vn⟩:=VZ.2 H1.length (by have:=PM.1;simp at this;omega) (by omega) ir;rw[jI]at QG;simp -implicitDefEqProofs only[h1,h2,h9,eb,ez,an ao,aa ao hlen,hg,QG,w1,go_sem];refine av.mono ((QM _ H3 Az (n+ai pre+1+ai a) (by omega) hgi3).2 (by simp only[List.length_append];omega) (by omega)) ?_;rintro _ H4 ⟨rfl,LL,hgi4,hgf4⟩;simp -implicitDefEqProofs only[h1,h2,h9,eb,ez,an ao,aa ao hlen,hg,go_sem];refine⟨_,Nat.lt_succ_self _,pre++ [.mk k r t v l (.mk ek en es aR) a b p ps],post,LL,by simp[ao],rfl,?_,by simp,?_,((VY.trans (GF.app _)).trans PM).trans (VZ.trans hgf4)⟩
  ·rw[Dv];simp only[Int.natCast_add,Int.natCast_one];congr 1;omega
  ·rw[Gz];simpa only[List.append_assoc]using hgi4
theorem PN (h:St->List ByteArray) (g:FuncId) (first bB:List V) (o:Nat) (j1:CBG g first bB o h):∀(m:Nat) (xs:List St),SizeOf.sizeOf xs<m->∀(acc:List ByteArray) (H:List ak) (kv:V) (n:Int),0<=n->GI o kv acc H->(acc++lN h xs).length<=1000000000->n+ai xs<=1000000->
 av Tryz.prog 149 [.fs (xs.map encS),.int .i64 n,.a6 g first bB] H (GK o H kv (acc++lN h xs) (.int .i64 (n+ai xs)))
 | 0,xs,h=>absurd h (Nat.not_lt_zero _)
 | m+1,xs,hm=>fun acc H kv n h0 tQ hl hn=>VX h g first bB o j1 xs (fun k r t v l e a b p ps da acc H kv n h0 tQ=>by
  have hs:=List.sizeOf_lt_of_mem da;simp only[St.mk.sizeOf_spec]at hs;exact⟨fun hl hc=>PN h g first bB o j1 m a (by omega) acc H kv n h0 tQ hl hc,fun hl hc=>PN h g first bB o j1 m b (by omega) acc H kv n h0 tQ hl hc⟩) acc H kv n h0 tQ hl hn
theorem jV {s:ByteArray} (h:dt s=true):s≠⟨#[]⟩:=by
 rintro rfl;simp[dt,ByteArray.size]at h
theorem Ek {s:ByteArray} (h:¬nE s=true):s=⟨#[]⟩:=by simpa[nE]using h
mutual
theorem PO:∀(s:St) (d:Int) (pr:Int) (la:Bool),sF s d=0->∀y∈nu s pr la,∃d',kq y.1 d'=0
 | .mk k r t v l e a b p ps,d,pr,la,h=>by
  intro y hy;simp only[sF]at h;split at h
  ·rename_i h1;exact absurd h h1
  rename_i h1;split at h
  ·rename_i h2;exact absurd h h2
  rename_i h2;simp only[nu,List.mem_cons,List.mem_append]at hy;rcases hy with rfl | hy | hy
  ·exact⟨d,by simpa using h1⟩
  ·exact oJ a (d+1) pr la (by simpa using h2) y hy
  ·exact oJ b (d+1) pr la h y hy
theorem oJ:∀(l:List St) (d:Int) (pr:Int) (la:Bool),gA l d=0->∀y∈gC l pr la,∃d',kq y.1 d'=0
 | [],d,pr,la,h=>by intro y hy;simp[gC]at hy
 | s::l,d,pr,la,h=>by
  intro y hy;simp only[gA]at h;split at h
  ·rename_i h1;exact absurd h h1
  rename_i h1;simp only[gC,List.mem_append]at hy;rcases hy with hy | hy
  ·exact PO s d pr _ (by simpa using h1) y hy
  ·exact oJ l d pr la h y hy
end
def KOk (k:Int) (r t v l:ByteArray) (nn:Bool) (na nb:Nat) (p:ByteArray) (ps:List ByteArray):Prop:=
 ((k=1\/k=2)/\dt r=true/\dt t=true/\ps=[]/\p=⟨#[]⟩/\na=0/\nb=0)\/(k=3/\dt r=true/\t=⟨#[]⟩/\ps=[]/\p=⟨#[]⟩/\na=0/\nb=0)\/(k=4/\dt r=true/\t=⟨#[]⟩/\ps=[]/\p=⟨#[]⟩)\/
 (k=5/\r=⟨#[]⟩/\t=⟨#[]⟩/\v=⟨#[]⟩/\nn=true/\na=0/\nb=0/\dt p=true/\ps≠ []/\∀s∈ps,dt s=true)
theorem A6 {k:Int} {r t v l:ByteArray} {e:Ex} {nn:Bool} {na nb:Nat} {p:ByteArray} {ps:List ByteArray} {d:Int} (h:rA k r t v l e nn na nb p ps d=0):KOk k r t v l nn na nb p ps:=by
 rw[rA]at h;split at h;·cases h
 split at h;·cases h
 rename_i hk;split at h;·cases h
 rename_i hf;split at h;·cases h
 rename_i hn;split at h
 ·rename_i h5;exact absurd h h5.2
 have hf:=fun hc=>hf (by rw[yK,if_pos hc];decide)
 have hn:=fun hc=>hn (by rw[zO,if_pos hc];decide)
 change¬_ at hf;change¬_ at hn;simp only[not_or]at hf hn;obtain⟨f1,f2,f3,f4,f5,f6,f7⟩:=hf;obtain⟨n1,n2,n3,n4,n5⟩:=hn;have e7:1<=k/\k<=4->p=⟨#[]⟩/\ps=[]:=fun Iu=>by
  have h7:¬(nE p=true\/ps.length>0):=fun hc=>f7 ⟨Iu,hc⟩
  exact⟨Ek (fun hc=>h7 (.inl hc)),List.eq_nil_of_length_eq_zero (by
   have h8:¬ps.length>0:=fun hc=>h7 (.inr hc)
   omega)⟩
 have e6:k≠4->na=0/\nb=0:=fun Iu=>by
  have h6:¬(na+nb>0):=fun hc=>f6 ⟨Iu,hc⟩
  omega
 have hk:k=1\/k=2\/k=3\/k=4\/k=5:=by omega
 rcases hk with rfl | rfl | rfl | rfl | rfl
 ·obtain⟨h1,h2⟩:=e7 (by decide);obtain⟨h3,h4⟩:=e6 (by decide);exact .inl ⟨.inl rfl,by simpa using n1,by simpa using n2,h2,h1,h3,h4⟩
 ·obtain⟨h1,h2⟩:=e7 (by decide);obtain⟨h3,h4⟩:=e6 (by decide);exact .inl ⟨.inr rfl,by simpa using n1,by simpa using n2,h2,h1,h3,h4⟩
 ·obtain⟨h1,h2⟩:=e7 (by decide);obtain⟨h3,h4⟩:=e6 (by decide);exact .inr (.inl ⟨rfl,by simpa using n1,Ek (fun hc=>f2 ⟨by decide,hc⟩),h2,h1,h3,h4⟩)
 ·obtain⟨h1,h2⟩:=e7 (by decide);exact .inr (.inr (.inl ⟨rfl,by simpa using n1,Ek (fun hc=>f2 ⟨by decide,hc⟩),h2,h1⟩))
 ·obtain⟨h3,h4⟩:=e6 (by decide);simp only[ne_eq,not_true_eq_false,if_false]at h;split at h;·cases h
  rename_i u7;split at h;·cases h
  split at h;·cases h
  rename_i LQ;refine .inr (.inr (.inr ⟨rfl,Ek (fun hc=>f1 ⟨by decide,hc⟩),Ek (fun hc=>f2 ⟨by decide,hc⟩),Ek (fun hc=>f3 ⟨by decide,hc⟩),?_,h3,h4,by simpa using n5,fun hc=>u7 (by rw[hc];rfl),fun s hs=> ?_⟩))
  ·have:=fun hc=>f5 ⟨by decide,hc⟩
   simpa using this
  ·simp only[List.any_eq_true,not_exists,not_and,Bool.not_eq_true,Bool.not_eq_false']at LQ;exact LQ s hs
theorem qe {P:bH} (h:lK P=0):gA P.main 1=0/\∀q∈P.procs,gA q.steps 1=0:=⟨(mD (y8 h)).2.1,fun q hq=>(sJ h q hq).2.1⟩
def hR:St->List ByteArray
 | .mk _ r t _ _ _ _ _ _ ps=>r::t::ps
mutual
theorem KK (h:St->List ByteArray) (s:ByteArray):∀(x:St) (pr:Int) (la:Bool),s∈Mi h x↔∃y∈nu x pr la,s∈h y.1
 | .mk k r t v l e a b p ps,pr,la=>by
  have h1:=sM h s a pr la;have h2:=sM h s b pr la;simp only[Mi,nu,List.mem_append,List.mem_cons,h1,h2];constructor
  ·rintro(h | ⟨y,hy,hs⟩ | ⟨y,hy,hs⟩)
   ·exact⟨_,.inl rfl,h⟩
   ·exact⟨y,.inr (.inl hy),hs⟩
   ·exact⟨y,.inr (.inr hy),hs⟩
  ·rintro⟨y,rfl | hy | hy,hs⟩
   ·exact .inl hs
   ·exact .inr (.inl ⟨y,hy,hs⟩)
   ·exact .inr (.inr ⟨y,hy,hs⟩)
theorem sM (h:St->List ByteArray) (s:ByteArray):∀(l:List St) (pr:Int) (la:Bool),s∈lN h l↔∃y∈gC l pr la,s∈h y.1
 | [],pr,la=>by simp[lN,gC]
 | x::l,pr,la=>by
  have h1:=KK h s x pr (la && l.isEmpty);have h2:=sM h s l pr la;simp only[lN,gC,List.mem_append,h1,h2];constructor
  ·rintro(⟨y,hy,hs⟩ | ⟨y,hy,hs⟩)
   ·exact⟨y,.inl hy,hs⟩
   ·exact⟨y,.inr hy,hs⟩
  ·rintro⟨y,hy | hy,hs⟩
   ·exact .inl ⟨y,hy,hs⟩
   ·exact .inr ⟨y,hy,hs⟩
end
def uA:St->List ByteArray
 | .mk k r t _ _ _ _ _ _ ps=>dS k r t ps
def rR (l:List mV):List ByteArray:=l.flatMap fun y=>if y.2.1<0 then uA y.1 else[]
theorem CL {P:bH} {s:ByteArray}:s∈rR (cw P)↔∃y∈gC P.main (-1) true,s∈uA y.1:=by
 simp only[rR,List.mem_flatMap,cw,List.mem_append];constructor
 ·rintro⟨y,hy,hs⟩;split at hs
  ·rename_i ct;rcases hy with hy | hy
   ·exact⟨y,hy,hs⟩
   ·obtain⟨j,q,h1,h2⟩:=xm hy;have:=fp _ _ _ y h2;omega
  ·simp at hs
 ·rintro⟨y,hy,hs⟩;have:=fp _ _ _ y hy;exact⟨y,.inl hy,by rw[if_pos (by omega)];exact hs⟩
def mainR (P:bH):List ByteArray:=iB (rR (cw P))
theorem El {P:bH} (h:lK P=0):nz (iB (lN hR P.main))=mainR P:=by
 refine PL (fun s=> ?_);rw[CL,sM hR s P.main (-1) true];have key:∀y∈gC P.main (-1) true,(s∈hR y.1/\s≠⟨#[]⟩)↔s∈uA y.1:=by
  intro y hy;obtain⟨d,hd⟩:=oJ _ 1 _ _ (qe h).1 y hy;obtain⟨⟨k,r,t,v,l,⟨ek,en,es,aR⟩,a,b,p,ps⟩,pr,la⟩:=y;simp only[kq]at hd;simp only[hR,uA,dS,List.mem_cons];rcases A6 hd with⟨hk,hr,ht,jA,_⟩ | ⟨rfl,hr,ht,jA,_⟩ | ⟨rfl,hr,ht,jA,_⟩ | ⟨rfl,hr,ht,_,_,_,_,_,_,jA⟩
  ·have h1:=jV hr;have h2:=jV ht;have h5:k≠5:=by omega
   rw[if_neg h5,if_pos hk];subst jA;simp only[List.mem_cons,List.not_mem_nil,or_false];constructor
   ·rintro⟨h,_⟩;exact h
   ·rintro(rfl | rfl)
    ·exact⟨.inl rfl,h1⟩
    ·exact⟨.inr rfl,h2⟩
  ·have h1:=jV hr;subst ht jA;simp only[show¬((3:Int)=5) by decide,show¬((3:Int)=1\/(3:Int)=2) by decide,if_false,List.mem_cons,List.not_mem_nil,or_false];constructor
   ·rintro⟨rfl | rfl,h⟩
    ·rfl
    ·exact absurd rfl h
   ·rintro rfl;exact⟨.inl rfl,h1⟩
  ·have h1:=jV hr;subst ht jA;simp only[show¬((4:Int)=5) by decide,show¬((4:Int)=1\/(4:Int)=2) by decide,if_false,List.mem_cons,List.not_mem_nil,or_false];constructor
   ·rintro⟨rfl | rfl,h⟩
    ·rfl
    ·exact absurd rfl h
   ·rintro rfl;exact⟨.inl rfl,h1⟩
  ·subst hr ht;simp only[if_true];constructor
   ·rintro⟨rfl | rfl | h,h0⟩
    ·exact absurd rfl h0
    ·exact absurd rfl h0
    ·exact h
   ·intro h;exact⟨.inr (.inr h),jV (jA s h)⟩
 constructor
 ·rintro⟨⟨y,hy,hs⟩,h0⟩;exact⟨y,hy,(key y hy).1 ⟨hs,h0⟩⟩
 ·rintro⟨y,hy,hs⟩;obtain⟨h1,h2⟩:=(key y hy).2 hs;exact⟨⟨y,hy,h1⟩,h2⟩
theorem Hu {P:bH} (h:lK P=0):∀s∈mainR P,dt s=true:=by
 intro s hs;rw[mainR,nsort_mem,CL]at hs;obtain⟨y,hy,hs⟩:=hs;obtain⟨d,hd⟩:=oJ _ 1 _ _ (qe h).1 y hy;obtain⟨⟨k,r,t,v,l,⟨ek,en,es,aR⟩,a,b,p,ps⟩,pr,la⟩:=y;simp only[kq]at hd;simp only[uA,dS]at hs;rcases A6 hd with⟨hk,hr,ht,jA,_⟩ | ⟨rfl,hr,ht,jA,_⟩ | ⟨rfl,hr,ht,jA,_⟩ | ⟨rfl,hr,ht,_,_,_,_,_,_,jA⟩
 ·have h5:k≠5:=by omega
  rw[if_neg h5,if_pos hk]at hs;simp at hs;rcases hs with rfl | rfl
  ·exact hr
  ·exact ht
 ·simp at hs;rw[hs];exact hr
 ·simp at hs;rw[hs];exact hr
 ·simp at hs;exact jA s hs
end Go.Proofs.YtdgoeblpcnjlbaaGreatDoor.Av
namespace Go.Proofs
open Go.RowKit List
theorem Tryz.Mj (a:Option Addr) (len cap:Nat) (w:World) (h1:len<=cap) (h2:cap<=9223372036854775807):Calls Tryz.prog 151 #[.slice a len cap] w fun e w'=>e=.returned (.slice a len len)/\w'=w:=by
 go_enter Tryz.func151,Tryz.ntmps151
 go_wp2
 go_ret
 exact⟨rfl,rfl⟩
end Go.Proofs
namespace Go.Proofs.YtdgoeblpcnjlbaaGreatDoor.Av
open Go.RowKit List
theorem V1 (o:Nat):CBG 150 [] [.ptr o 0 0] o hR:=by
 intro acc n x H kv tQ hl;have holt:=tQ.lt;obtain⟨Lb,bm,fI⟩:=tQ;rcases x with⟨k,r,t,v,l,⟨ek,en,es,aR⟩,a,b,p,ps⟩
 simp only[hR,List.length_append,List.length_cons]at hl⊢;rw[ay];generalize hbx:V.agg [.int .i64 k,.str r,.str t,.str v,.str l,.int .i64 ek,.int .i64 en,.str es,.fs (aR.map bu),.fs (a.map encS),.fs (b.map encS),.str p,.fs (ps.map .str)]=bx at*;have hA:∀l:List ak,(H++l)[o]? =some (.row [kv]):=fun l=>by rw[List.getElem?_append_left holt];exact Lb
 have cP:=bm.one;have hkL:a7 kv H.length:=bm.mB (Nat.le_refl _);refine av.intro c295 300 (by simp) ?_;subst hbx;simp -implicitDefEqProofs only[Ve,Lb,go_sem];refine aD ?_;simp -implicitDefEqProofs only[hA,cP,go_sem];refine cu (bm.app _) (fun i o l h=>by cases h) (bV _) (by simp only[List.length_map,List.length_cons,List.length_nil];omega) ?_;rintro kv1 H1 pK AA Ef;obtain⟨g0,k0⟩:=Ef o (by simp;omega) fI;obtain⟨g1,k1⟩:=Ef H.length (by simp) hkL;rw[hA]at g0;rw[l7,List.getElem?_cons_zero]at g1;have j8:=pK.one;simp -implicitDefEqProofs only[hA,cP,g0,g1,j8,go_sem];refine⟨by simp[List.all_eq_true,aw,V.one],?_⟩;refine cu (acc:=(acc.map .str)++ [.str r,.str t]) pK (fun i o l h=>by cases h) (by
  have:=bV (acc++ [r,t]);simpa using this) (by simp only[List.length_map,List.length_cons,List.length_nil,List.length_append];omega) ?_
 rintro fH H2 bJ rZ iS;have va:o<H1.length:=(List.getElem?_eq_some_iff.1 g0).1;obtain⟨g2,k2⟩:=iS o va k0;rw[g0]at g2;have LD:=bJ.one;have hv3:=bJ.cS;simp only[V.one]at hv3;have fi:GK o H kv (acc++r::t::ps) (.dJ []) (.dJ []) (H2.set o (.row [fH])):=by
  have C9:o<H2.length:=(List.getElem?_eq_some_iff.1 g2).1;refine⟨rfl,fH,⟨by rw[List.getElem?_set_self C9],?_,k2⟩,by simp at AA;simp;omega,fun j hj sy hk=> ?_⟩
  ·have:=bJ.set (x:=.row [fH]) k2;simpa using this
  ·obtain⟨q1,q2⟩:=Ef j (by simp;omega) hk;obtain⟨q3,q4⟩:=iS j (by simp at AA;omega) q2;rw[List.getElem?_set_ne (Ne.symm sy),q3,q1,List.getElem?_append_left hj];exact⟨rfl,q4⟩
 rcases bm with⟨hz,rfl⟩ | ⟨hz,id,rfl,hid⟩
 ·simp -implicitDefEqProofs only[hA,cP,g0,g1,g2,j8,LD,hv3,go_sem];simp -implicitDefEqProofs only[Pp,push_cast,go_sem_proc];exact fi
 ·simp -implicitDefEqProofs only[hA,cP,g0,g1,g2,j8,LD,hv3,go_sem];simp -implicitDefEqProofs only[Pp,push_cast,go_sem_proc];simpa using fi
theorem a296 {H:List ak} {id off len:Nat}:av Tryz.prog 151 [.ms id off len] H (bX (.ms id off len) H):=by
 refine⟨by kernel_rfl,fun f B I w args hs hr=> ?_⟩;simp only[aV,aU]at hr;obtain⟨v0,l0,eD,⟨p,a,cap,hp,rfl,ha,Ib,lA,VS⟩,rfl⟩:=hr;have gU:args= #[.slice a len cap]:=by
  cases args;simp at eD;simp[eD]
 subst gU;refine(Tryz.Mj a len cap w Ib (by unfold maxLen at lA;omega)).mono ?_;rintro e w' ⟨rfl,rfl⟩;refine⟨.ms id off len,_,_,B,I,rfl,⟨rfl,rfl⟩,hs,eA.refl _,dY.refl _,?_⟩;simp only[aU];refine⟨p,a,len,hp,rfl,fun h=>ha (by omega),Nat.le_refl _,by omega,?_⟩;have:(off+len)*p.esz<=(off+cap)*p.esz:=Nat.mul_le_mul_right _ (by omega);omega
theorem V2 {H:List ak}:av Tryz.prog 151 [.ag] H (bX .ag H):=by
 refine⟨by kernel_rfl,fun f B I w args hs hr=> ?_⟩;simp only[aV,aU]at hr;obtain⟨v0,l0,eD,rfl,rfl⟩:=hr;have gU:args= #[.slice none 0 0]:=by
  cases args;simp at eD;simp[eD]
 subst gU;refine(Tryz.Mj none 0 0 w (Nat.le_refl _) (by omega)).mono ?_;rintro e w' ⟨rfl,rfl⟩;exact⟨.ag,_,_,B,I,rfl,⟨rfl,rfl⟩,hs,eA.refl _,dY.refl _,by simp[aU]⟩
mutual
theorem KL:∀x:St,(Mi hR x).length<=2*wS x
 | .mk k r t v l e a b p ps=>by
  have h1:=sN a;have h2:=sN b;simp only[Mi,hR,List.length_append,List.length_cons,wS];omega
theorem sN:∀l:List St,(lN hR l).length<=2*dn l
 | []=>by simp[lN]
 | x::l=>by
  have h1:=KL x;have h2:=sN l;simp only[lN,List.length_append,dn];omega
end
theorem wu:iB []=[]:=by
 cases h:iB []with
 | nil=>rfl
 | cons x l=>exact absurd ((nsort_mem [] x).1 (by rw[h];simp)) (by simp)
theorem Hv {l:List ByteArray} (h:l≠ []):iB l≠ []:=by
 cases l with
 | nil=>exact absurd rfl h
 | cons x l=>exact fun e=>by have:=(nsort_mem (x::l) x).2 (by simp);rw[e]at this;cases this
theorem Hw {l:List ByteArray} (h:l≠ []):zV l≠ []:=fun e=>h (List.eq_nil_of_length_eq_zero (by rw[<-m6,e];rfl))
theorem KM (xs:List Pr) (main:List St):dn main<=iE ⟨xs,main⟩:=by simp only[iE];omega
theorem t245 (P:bH) (hc:total P<=1000000) (hw:iE P<=1000000):af Tryz.prog 73 [aP P] (·=.fs ((nz (iB (lN hR P.main))).map .str)):=by
 rcases P with⟨xs,main⟩
 have lA:ai main<=1000000:=by have:total ⟨xs,main⟩=ai main+bD xs:=rfl;omega
 have QY:=KM xs main;have kD:=sN main;have EO:=PN hR 150 [] [.ptr 1 0 0] 1 (V1 1) _ main (Nat.lt_succ_self _) [] [ak.row [.agg [.fs (xs.map aF),.fs (main.map encS)]],ak.row [.ag]] .ag 0 (by omega) ⟨rfl,.inl ⟨rfl,rfl⟩,fun a b h=>by cases h⟩ (by simp only[List.nil_append];omega) (by omega);rw[List.nil_append]at EO;refine af.intro c245 300 (by simp) 20 ?_;simp -implicitDefEqProofs only[UX,aP,go_sem];refine av.mono EO ?_;rintro _ H1 ⟨rfl,kv,⟨tN,bm,iT⟩,_⟩;generalize lN hR main=acc at*;rcases bm with⟨hz,rfl⟩ | ⟨hz,id,rfl,hid⟩
 ·have qJ:acc=[]:=by simpa using hz
  subst qJ;have Hx:=(List.getElem?_eq_some_iff.1 tN).1;simp -implicitDefEqProofs only[tN,Hx,ne_eq,not_false_eq_true,fv,fK,Nat.reduceMul,go_sem];repeat' (first | ((first | (with_reducible first | refine bR Mg ?_ | refine bR Mh ?_ | refine bR V2 ?_) | (with_reducible refine aD ?_));simp -implicitDefEqProofs only[tN,Hx,ne_eq,not_false_eq_true,fv,fK,Nat.reduceMul,go_sem]) | (with_reducible refine aA.mk ?_ ?_) | (with_reducible refine And.intro ?_ ?_) | ((with_reducible refine bz ?_);simp -implicitDefEqProofs only[G1,Hx,wu,nz,ne_eq,not_false_eq_true,fv,fK,Nat.reduceMul,push_cast,go_sem_proc]) | intro _)
  all_goals first | rfl | simp_all
 ·have qJ:acc≠ []:=by simpa using hz
  have Hx:=(List.getElem?_eq_some_iff.1 tN).1;have jl:=(List.getElem?_eq_some_iff.1 hid).1;have KN:id≠1:=fun e=>iT 0 (acc.map V.str).length (by rw[e])
  have vd:1≠id:=fun e=>KN e.symm
  have hns:=Hv qJ;have hns':(sc (zV acc)).length≠0:=fun e=>hns (List.eq_nil_of_length_eq_zero e)
  simp only[List.length_map]at tN iT⊢;have ha:=VR hid (by omega) qJ;have hb:=VT (H:=H1.set id (.row ((zV acc).map .str))) (id:=id) (by rw[List.getElem?_set_self jl]) (by rw[m6];omega) (Hw qJ);rw[m6]at hb;change av Tryz.prog 102 [.ms id 0 acc.length] _ (bX (.ms id 0 (iB acc).length) _)at hb;obtain⟨tl,Rr⟩:∃tl,zp (zV acc)=iB acc++tl:=⟨_,rfl⟩;rw[Rr]at hb;cases W8:iB acc with
  | nil=>exact absurd W8 hns
  | cons x nl=>
   rw[W8]at hb;have hp:(0:Int)<((nl.length+1:Nat):Int):=by omega
   have Q4:df 1 (V.str x::(nl++tl).map V.str):=fun e h=>by simp at h;subst h;rfl
   have lX:∀(H:List ak),H[id]? =some (.row (V.str x::(nl++tl).map V.str))->fz H 20 (.ms id 0 (nl.length+1))=some (.fs ((x::nl).map .str))/\fz H 20 (.ms id 1 nl.length)=some (.fs (nl.map .str)):=fun H h=>by
    have e1:(V.str x::(nl++tl).map V.str)=((x::nl)++tl).map V.str:=by simp
    rw[iu,iu,h,e1,ef,ef];have e2:((((x::nl)++tl).map V.str).drop 0).take (nl.length+1)=(x::nl).map V.str:=by rw[List.drop_zero,<-List.map_take];simp
    have e3:((((x::nl)++tl).map V.str).drop 1).take nl.length=nl.map V.str:=by simp
    have e4:∀l:List ByteArray,eI (fz H 19) (l.map V.str)=some (l.map V.str):=fun l=>dg _ _ (fun x=>dN _ _ x) l
    rw[e2,e3,e4,e4,if_pos (by simp<;>omega),if_pos (by simp<;>omega)];exact⟨rfl,rfl⟩
   have pg:nl.length+1 - 1=nl.length:=by omega
   simp -implicitDefEqProofs only[tN,Hx,jl,KN,vd,hp,Q4,pg,ne_eq,not_false_eq_true,fv,fK,Nat.reduceMul,go_sem];repeat' (first | ((first | (with_reducible first | refine bR ha ?_ | refine bR hb ?_) | (with_reducible refine aD ?_));simp -implicitDefEqProofs only[tN,Hx,jl,KN,vd,hp,Q4,pg,ne_eq,not_false_eq_true,fv,fK,Nat.reduceMul,go_sem]) | (with_reducible refine aA.mk ?_ ?_) | (with_reducible refine And.intro ?_ ?_) | ((with_reducible refine bz ?_);simp -implicitDefEqProofs only[G1,Hx,ne_eq,not_false_eq_true,fv,fK,Nat.reduceMul,push_cast,go_sem_proc]) | intro _)
   all_goals first | omega | (simp;done) | skip
   all_goals refine bR a296 ?_
   all_goals simp -implicitDefEqProofs only[tN,Hx,jl,KN,vd,hp,Q4,ne_eq,not_false_eq_true,fv,fK,Nat.reduceMul,go_sem]
   all_goals rename_i hx
   ·have hx:x=⟨#[]⟩:=by simpa using hx
    have hq:=(lX ((H1.set id (ak.row (V.str x::List.map V.str (nl++tl)))).set 1 (ak.row [V.ms id 1 nl.length])) (by rw[List.getElem?_set_ne vd,List.getElem?_set_self jl])).2;simp -implicitDefEqProofs only[G1,hq,push_cast,go_sem_proc];rw[nz,if_pos hx]
   ·have hx:x≠⟨#[]⟩:=by simpa using hx
    have hq:=(lX ((H1.set id (ak.row (V.str x::List.map V.str (nl++tl)))).set 1 (ak.row [V.ms id 0 (nl.length+1)])) (by rw[List.getElem?_set_ne vd,List.getElem?_set_self jl])).1;simp -implicitDefEqProofs only[G1,hq,push_cast,go_sem_proc];rw[nz,if_neg hx]
theorem t245r (P:bH) (hc:total P<=1000000) (hw:iE P<=1000000) (cR:lK P=0):af Tryz.prog 73 [aP P] (·=.fs ((mainR P).map .str)):=by
 have:=t245 P hc hw;rwa[El cR]at this
theorem gb (a b:List mV):rR (a++b)=rR a++rR b:=by simp[rR]
theorem t253 (P:bH) (hc:total P<=1000000) (hm:(rR (cw P)).length<=1000000000):af Tryz.prog 81 [aP P] (·=.fs ((mainR P).map .str)):=by
 have jP:=t25 P hc;rw[mainR];simp only[aP]at jP⊢;generalize cw P=L at*;have hnL:ae (L.map encSp)=true:=bS (fun x=>by
  rcases x with⟨⟨k,r,t,v,l,⟨ek,en,es,aR⟩,a,b,p,ps⟩,pr,la⟩
  rw[iw];simp[al,ae,bf,ah,aE]) L
 refine af.intro c253 400 (by simp) 20 ?_;simp -implicitDefEqProofs only[U4,go_sem];repeat' (first | ((first | ((with_reducible refine bj jP ?_ ?_);(·simp[ae,al,cm,hnL])) | ((with_reducible apply cj);(·simp -implicitDefEqProofs only[List.map_cons,List.map_nil,hnL,push_cast,go_sem_proc]<;>rfl);(with_reducible exact jP);(·rfl)) | (with_reducible refine aD ?_));simp -implicitDefEqProofs only[go_sem]) | (with_reducible refine aA.mk ?_ ?_) | (with_reducible refine And.intro ?_ ?_) | ((with_reducible refine bz ?_);simp -implicitDefEqProofs only[G2,push_cast,go_sem_proc]) | intro _)
 rename_i hlen;refine aL (fun m e H=>∃pre post kv,L=pre++post/\m=post.length/\e 3=kv/\e 7=.fs (L.map encSp)/\e 8=.int .i64 L.length/\e 9=.int .i64 pre.length/\OV H kv ((rR pre).map .str)) L.length
  ⟨[],L,.ag,rfl,rfl,by simp[az,aC],by simp[az,aC],by simp[az,aC],by simp[az,aC],.inl ⟨rfl,rfl⟩⟩ ?_
 rintro m e H ⟨pre,post,kv,ao,rfl,h3,h7,h8,h9,bm⟩;have cP:=bm.one;have ba:=bm.cS;simp only[V.one]at ba;cases post with
 | cons q post=>
  have hg:=aO encSp ao;have V3:rR L=rR pre++((if q.2.1<0 then uA q.1 else[])++rR post):=by rw[ao,gb];rfl
  have V4:rR (pre++ [q])=rR pre++(if q.2.1<0 then uA q.1 else[]):=by rw[gb];simp[rR]
  have kE:(rR pre).length+(if q.2.1<0 then uA q.1 else[]).length<=1000000000:=by rw[V3]at hm;simp only[List.length_append]at hm;omega
  obtain⟨⟨k,r,t,v,l,⟨ek,en,es,aR⟩,a,b,p,ps⟩,pr,la⟩:=q;have j0:=t27 k r t v l ek en es aR a b p ps;rw[iw]at hg;rw[ay]at j0;simp only[uA]at V4 kE;by_cases Cu:pr<0
  ·simp only[Cu,if_true]at V4 kE;generalize dS k r t ps=rl at*;simp -implicitDefEqProofs only[h3,h7,h8,h9,an ao,aa ao hlen,hg,Cu,go_sem];repeat' (first | ((first | ((with_reducible refine bj j0 ?_ ?_);(·simp[ae,al,cm,bf,ah,aE])) | ((with_reducible apply cj);(·simp -implicitDefEqProofs only[List.map_cons,List.map_nil,bf,ah,aE,push_cast,go_sem_proc]<;>rfl);(with_reducible exact j0);(·rfl)) | (with_reducible refine aD ?_));simp -implicitDefEqProofs only[h3,h7,h8,h9,an ao,aa ao hlen,hg,Cu,go_sem]) | (with_reducible refine aA.mk ?_ ?_) | (with_reducible refine And.intro ?_ ?_) | ((with_reducible refine bz ?_);simp -implicitDefEqProofs only[G2,push_cast,go_sem_proc]) | intro _)
   ·simp[List.all_eq_true,aw,V.one]
   refine cu (bm.app _) (fun i o l h=>by cases h) (bV _) (by simp only[List.length_map];omega) ?_;rintro kv1 H1 pK AA Ef;simp -implicitDefEqProofs only[h3,h7,h8,h9,aa ao hlen,go_sem];exact⟨post.length,Nat.lt_succ_self _,pre++ [_],post,kv1,by simp[ao];rfl,rfl,rfl,by simp,by rw[V4,List.map_append];exact pK⟩
  ·simp only[Cu,if_false,List.append_nil]at V4 kE;simp -implicitDefEqProofs only[h3,h7,h8,h9,an ao,aa ao hlen,hg,Cu,go_sem];exact⟨post.length,Nat.lt_succ_self _,pre++ [_],post,kv,by simp[ao];rfl,rfl,rfl,by simp,by rw[V4];exact bm.app _⟩
 | nil=>
  have ev:pre=L:=by rw[ao];simp
  rw[ev]at bm;generalize rR L=acc at*;rcases bm with⟨hz,rfl⟩ | ⟨hz,id,rfl,hid⟩
  ·have qJ:acc=[]:=by simpa using hz
   subst qJ;simp -implicitDefEqProofs only[h3,h7,h8,h9,aI ao,go_sem];repeat' (first | ((first | (with_reducible first | refine bR Mg ?_ | refine bR Mh ?_) | (with_reducible refine aD ?_));simp -implicitDefEqProofs only[h3,h7,h8,h9,go_sem]) | (with_reducible refine aA.mk ?_ ?_) | (with_reducible refine And.intro ?_ ?_) | ((with_reducible refine bz ?_);simp -implicitDefEqProofs only[G2,wu,push_cast,go_sem_proc]) | intro _)
   all_goals first | rfl | simp_all
  ·have qJ:acc≠ []:=by simpa using hz
   have jl:=(List.getElem?_eq_some_iff.1 hid).1;simp only[List.length_map]at h3 cP ba⊢;have ha:=VR hid (by omega) qJ;have hb:=VT (H:=H.set id (.row ((zV acc).map .str))) (id:=id) (by rw[List.getElem?_set_self jl]) (by rw[m6];omega) (Hw qJ);rw[m6]at hb;change av Tryz.prog 102 [.ms id 0 acc.length] _ (bX (.ms id 0 (iB acc).length) _)at hb;obtain⟨tl,Rr⟩:∃tl,zp (zV acc)=iB acc++tl:=⟨_,rfl⟩;rw[Rr]at hb;generalize iB acc=nl at*;have lX:fz ((H.set id (ak.row ((zV acc).map V.str))).set id (ak.row ((nl++tl).map V.str))) 20 (.ms id 0 nl.length)=some (.fs (nl.map .str)):=by
    have e4:∀(H:List ak) (l:List ByteArray),eI (fz H 19) (l.map V.str)=some (l.map V.str):=fun H l=>dg _ _ (fun x=>dN _ _ x) l
    rw[iu,List.getElem?_set_self (by simpa using jl),ef];have e2:(((nl++tl).map V.str).drop 0).take nl.length=nl.map V.str:=by simp
    rw[e2,e4,if_pos (by simp)];rfl
   simp -implicitDefEqProofs only[h3,h7,h8,h9,aI ao,go_sem];repeat' (first | ((first | (with_reducible first | refine bR ha ?_ | refine bR hb ?_) | (with_reducible refine aD ?_));simp -implicitDefEqProofs only[h3,h7,h8,h9,go_sem]) | (with_reducible refine aA.mk ?_ ?_) | (with_reducible refine And.intro ?_ ?_) | ((with_reducible refine bz ?_);simp -implicitDefEqProofs only[G2,push_cast,go_sem_proc]) | intro _)
   rw[iu]at lX;exact⟨_,lX,rfl⟩
theorem OV.KW {H:List ak} {v:V} {l:List ByteArray} (h:OV H v (l.map .str)):∃D,Av.fz (cQ D H) 20 v=some (.fs (l.map .str))/\∀i,a7 v i->(bO D H)[i]? =H[i]? :=by
 have e4:∀(H:List ak) (l:List ByteArray),eI (Av.fz H 19) (l.map V.str)=some (l.map V.str):=fun H l=>dg _ _ (fun x=>dN _ _ x) l
 rcases h with⟨h1,rfl⟩ | ⟨_,id,rfl,h2⟩
 ·refine⟨[],by rw[fQ,h1],fun i _=>rfl⟩
 ·refine⟨[id],?_,fun i hi=> ?_⟩
  ·have hk:(cQ [id] H)[id]? =some (.row (l.map .str)):=by rw[cg,h2];simp
   rw[iu,hk,ef,if_pos (by simp),List.drop_zero,List.take_of_length_le (by simp),e4];rfl
  ·rw[de,if_neg];rintro⟨hc,_⟩;have:i=id:=by simpa using hc
   exact hi 0 (l.map V.str).length (by rw[this])
theorem Wg (xs:List St) (hc:ai xs<=1000000)
 (h:∀k r t v l e a b p ps,St.mk k r t v l e a b p ps∈xs->af Tryz.prog 80 [.fs (a.map encS)] (·=.int .i64 (ai a))/\af Tryz.prog 80 [.fs (b.map encS)] (·=.int .i64 (ai b))):
 af Tryz.prog 80 [.fs (xs.map encS)] (·=.int .i64 (ai xs)):=by
 refine af.intro c252 300 (by simp) 20 ?_;simp -implicitDefEqProofs only[U3,go_sem];intro hlen;refine aL (fun m e H=>∃pre post,xs=pre++post/\m=post.length/\e 3=.int .i64 (ai pre:Nat)/\e 6=.fs (xs.map encS)/\e 7=.int .i64 xs.length/\e 8=.int .i64 pre.length) xs.length ⟨[],xs,by simp[az,aC,ai]⟩ ?_;rintro m e H ⟨pre,post,ao,rfl,h3,h8,h9,eb⟩;cases post with
 | nil=>
  simp -implicitDefEqProofs only[h3,h8,h9,eb,aI ao,go_sem];simp -implicitDefEqProofs only[Pf,push_cast,go_sem_proc];rw[ao,aX];simp[ai]
 | cons y post=>
  have hg:=aO encS ao;have FQ:ai xs=ai pre+(dA y+ai post):=by rw[ao,aX,ai]
  rcases y with⟨k,r,t,v,l,⟨ek,en,es,aR⟩,a,b,p,ps⟩
  simp only[dA]at FQ;obtain⟨ha,hb⟩:=h k r t v l (.mk ek en es aR) a b p ps (by rw[ao];simp);rw[ay]at hg;have w1:=bP (x:=1+(ai a:Int)) (by omega) (by omega);have w2:=bP (x:=1+(ai a:Int)+ai b) (by omega) (by omega);have w3:=bP (x:=(ai pre:Int)+(1+(ai a:Int)+ai b)) (by omega) (by omega);simp -implicitDefEqProofs only[h3,h8,h9,eb,hg,an ao,aa ao hlen,go_sem];repeat' (first | ((first | ((with_reducible first | refine bj ha ?_ ?_ | refine bj hb ?_ ?_);(·simp[ae,al,cm])) | ((with_reducible apply cj);(·simp -implicitDefEqProofs only[List.map_cons,List.map_nil,push_cast,go_sem_proc]<;>rfl);(with_reducible first | exact ha | exact hb);(·rfl)) | (with_reducible refine aD ?_));simp -implicitDefEqProofs only[h3,h8,h9,eb,hg,an ao,aa ao hlen,w1,w2,w3,go_sem]) | (with_reducible refine aA.mk ?_ ?_) | (with_reducible refine And.intro ?_ ?_) | ((with_reducible refine bz ?_);simp -implicitDefEqProofs only[Pf,push_cast,go_sem_proc]) | intro _)
  refine⟨_,Nat.lt_succ_self _,pre++ [_],post,by simp[ao];rfl,rfl,?_,by simp⟩;rw[aX];simp only[ai,dA];congr 1<;>omega
theorem t252:∀(n:Nat) (xs:List St),SizeOf.sizeOf xs<n->ai xs<=1000000->af Tryz.prog 80 [.fs (xs.map encS)] (·=.int .i64 (ai xs))
 | 0,xs,h,_=>absurd h (Nat.not_lt_zero _)
 | n+1,xs,hn,hc=>Wg xs hc (fun k r t v l e a b p ps hm=>by
  have hs:=List.sizeOf_lt_of_mem hm;have lA:dA (.mk k r t v l e a b p ps)<=ai xs:=by
   obtain⟨p1,p2,rfl⟩:=List.append_of_mem hm;rw[aX,ai];omega
  simp only[dA]at lA;simp only[St.mk.sizeOf_spec]at hs;exact⟨t252 n a (by omega) (by omega),t252 n b (by omega) (by omega)⟩)
end Go.Proofs.YtdgoeblpcnjlbaaGreatDoor.Av

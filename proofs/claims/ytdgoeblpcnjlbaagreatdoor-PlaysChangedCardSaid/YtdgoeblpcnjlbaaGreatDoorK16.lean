/- Proved: for every list of numbers the law PlaysChanged answers true and leaves its argument as it was (the tied card); no condition beyond the row's own. Text 16 of 17. -/
import Derived.Test.YtdgoeblpcnjlbaaGreatDoorProg
import Derived.Test.YtdgoeblpcnjlbaaGreatDoorK15
set_option linter.all false
set_option maxRecDepth 100000
set_option maxHeartbeats 64000000
namespace Go.Proofs.YtdgoeblpcnjlbaaGreatDoor.Av
open Go.RowKit List
def dd (X:List Pr) (i:Nat):List ByteArray:=match X[i]? with | some q=>q.au | none=> []
mutual
def IC (X:List Pr) (Rs:ByteArray->Prop):St->Prop
 | .mk k r t v l e a b p ps=>(r=⟨#[]⟩\/Rs r)/\(t=⟨#[]⟩\/Rs t)/\(∀s∈ps,Rs s/\s≠⟨#[]⟩)/\(k=5->a=[]/\b=[]/\0<=bq X p/\(bq X p).toNat<X.length/\(dd X (bq X p).toNat).length=ps.length)/\qz X Rs a/\qz X Rs b
def qz (X:List Pr) (Rs:ByteArray->Prop):List St->Prop
 | []=>True
 | x::l=>IC X Rs x/\qz X Rs l
end
theorem lj {X:List Pr} {Rs:ByteArray->Prop}:∀{a b:List St},qz X Rs (a++b)↔qz X Rs a/\qz X Rs b
 | [],b=>by simp[qz]
 | x::a,b=>by rw[cons_append,qz,qz,lj (a:=a),and_assoc]
def V5 (X:List Pr) (Rs:ByteArray->Prop):St->Prop
 | .mk k r t v l e a b p ps=>(r=⟨#[]⟩\/Rs r)/\(t=⟨#[]⟩\/Rs t)/\(∀s∈ps,Rs s/\s≠⟨#[]⟩)/\(k=5->a=[]/\b=[]/\0<=bq X p/\(bq X p).toNat<X.length/\(dd X (bq X p).toNat).length=ps.length)
mutual
theorem PR {X:List Pr} {Rs:ByteArray->Prop}:∀(s:St) (pr:Int) (la:Bool),(∀y∈nu s pr la,V5 X Rs y.1)->IC X Rs s
 | .mk k r t v l e a b p ps,pr,la,h=>by
  have h0:=h (.mk k r t v l e a b p ps,pr,la) (by simp[nu]);simp only[V5]at h0;rw[IC];exact⟨h0.1,h0.2.1,h0.2.2.1,h0.2.2.2,uB a pr la (fun y hy=>h y (by simp[nu,hy])),uB b pr la (fun y hy=>h y (by simp[nu,hy]))⟩
theorem uB {X:List Pr} {Rs:ByteArray->Prop}:∀(l:List St) (pr:Int) (la:Bool),(∀y∈gC l pr la,V5 X Rs y.1)->qz X Rs l
 | [],pr,la,h=>by simp[qz]
 | s::l,pr,la,h=>by
  rw[qz];exact⟨PR s pr _ (fun y hy=>h y (by simp only[gC,mem_append];exact .inl hy)),uB l pr la (fun y hy=>h y (by simp only[gC,mem_append];exact .inr hy))⟩
end
theorem zr {P:bH} (h:lK P=0) {y:mV} (hy:y∈cw P) (Rs:ByteArray->Prop) (Ml:∀z∈uA y.1,Rs z):V5 P.procs Rs y.1:=by
 obtain⟨d,hd⟩:=PQ h y hy;have hw:=Xm h y hy;obtain⟨⟨k,r,t,v,l,⟨ek,en,es,aR⟩,a,b,p,ps⟩,pr,la⟩:=y;simp only[kq]at hd;simp only[uA,dS]at Ml;rw[V5];rcases A6 hd with⟨hk,hr,ht,jA,_⟩ | ⟨rfl,hr,ht,jA,_⟩ | ⟨rfl,hr,ht,jA,_⟩ | ⟨rfl,hr,ht,_,_,ha,hb,_,_,jA⟩
 ·have h5:k≠5:=by omega
  rw[if_neg h5,if_pos hk]at Ml;subst jA;exact⟨.inr (Ml r (by simp)),.inr (Ml t (by simp)),by simp,fun h=>absurd h h5⟩
 ·subst jA ht;exact⟨.inr (Ml r (by simp)),.inl rfl,by simp,fun h=>absurd h (by decide)⟩
 ·subst jA ht;exact⟨.inr (Ml r (by simp)),.inl rfl,by simp,fun h=>absurd h (by decide)⟩
 ·subst hr ht;simp only[if_true]at Ml;have hc:=hw.call;simp only at hc;obtain⟨h1,h2,q,h3,h4⟩:=hc (by trivial);refine⟨.inl rfl,.inl rfl,fun s hs=>⟨Ml s hs,jV (jA s hs)⟩,fun _=>⟨eq_nil_of_length_eq_zero ha,eq_nil_of_length_eq_zero hb,h1,(List.getElem?_eq_some_iff.1 h3).1,?_⟩⟩;rw[dd,h3];exact h4
theorem CN {P:bH} (h:lK P=0):qz P.procs (fun _=>True) P.main:=
 uB _ (-1) true (fun y hy=>zr h (by simp only[cw,mem_append];exact .inl hy) _ (fun _ _=>trivial))
theorem qf {P:bH} (h:lK P=0) (i:Nat):qz P.procs (·∈dd P.procs i) (aK P.procs i):=by
 rw[aK];cases hq:P.procs[i]? with
 | none=>simp[qz]
 | some q=>
  refine uB _ (i:Int) true (fun y hy=> ?_);have BU:y∈cw P:=by
   simp only[cw,mem_append];exact .inr (xl (i:=0) (j:=i) hq y (by simpa using hy))
  refine zr h BU _ (fun z hz=> ?_);have Cu:=fp _ _ _ y hy;obtain⟨q',h1,h2⟩:=(Xm h y BU).au i Cu;rw[hq]at h1;cases h1;rw[dd,hq];obtain⟨⟨k,r,t,v,l,e,a,b,p,ps⟩,pr,la⟩:=y;exact h2 z hz
mutual
def zW (X:List Pr) (g:Nat->Bool) (B:Nat->List St):St->List St
 | .mk k r t v l e a b p ps=>if 0<=kI X k p/\g (kI X k p).toNat=false then ep (dT ((dd X (kI X k p).toNat).zip ps)) (B (kI X k p).toNat)else[.mk k r t v l e (lO X g B a) (lO X g B b) p ps]
def lO (X:List Pr) (g:Nat->Bool) (B:Nat->List St):List St->List St
 | []=> []
 | x::l=>zW X g B x++lO X g B l
end
theorem eL (X:List Pr) (g:Nat->Bool) (B:Nat->List St):∀a b,lO X g B (a++b)=lO X g B a++lO X g B b
 | [],b=>by simp[lO]
 | x::a,b=>by rw[cons_append,lO,lO,eL X g B a,append_assoc]
mutual
theorem Em {X:List Pr} {g:Nat->Bool} {B B':Nat->List St}:∀s:St,(∀c∈AX X s,g c.toNat=false->B c.toNat=B' c.toNat)->zW X g B s=zW X g B' s
 | .mk k r t v l e a b p ps,h=>by
  simp only[AX,mem_append]at h;rw[zW,zW,m8 a (fun c hc=>h c (.inr (.inl hc))),m8 b (fun c hc=>h c (.inr (.inr hc)))];split
  ·rename_i hc;rw[h (kI X k p) (.inl (by rw[if_pos hc.1];simp)) hc.2]
  ·rfl
theorem m8 {X:List Pr} {g:Nat->Bool} {B B':Nat->List St}:∀l:List St,(∀c∈oV X l,g c.toNat=false->B c.toNat=B' c.toNat)->lO X g B l=lO X g B' l
 | [],_=>by rw[lO,lO]
 | s::l,h=>by
  simp only[oV,mem_append]at h;rw[lO,lO,Em s (fun c hc=>h c (.inl hc)),m8 l (fun c hc=>h c (.inr hc))]
end
noncomputable def dV (X:List Pr) (c:Nat):Bool:=LX X c c
noncomputable def ET (X:List Pr):Nat->Nat->List St
 | 0,_=> []
 | f+1,c=>lO X (dV X) (ET X f) (aK X c)
noncomputable def j9 (X:List Pr):Nat->List St:=ET X (X.length+1)
noncomputable def x4 (X:List Pr) (c:Nat):Nat:=((List.range X.length).filter fun j=>LX X c j).length
theorem CO {α:Type} {p q:α->Bool}:∀{l:List α},(∀i∈l,p i=true->q i=true)->(l.filter p).length<=(l.filter q).length
 | [],_=>by simp
 | x::l,h=>by
  have ih:=CO (l:=l) (fun i hi=>h i (by simp[hi]));by_cases hp:p x=true
  ·have hq:=h x (by simp) hp;simp[hp,hq,ih]
  ·by_cases hq:q x=true
   ·simp[hp,hq];omega
   ·simp[hp,hq,ih]
theorem CP {α:Type} {p q:α->Bool}:∀{l:List α},(∀i∈l,p i=true->q i=true)->(∃i∈l,q i=true/\p i=false)->(l.filter p).length<(l.filter q).length
 | [],_,h=>by obtain⟨i,hi,_⟩:=h;cases hi
 | x::l,h,h2=>by
  obtain⟨i,hi,h3,h4⟩:=h2;rcases List.mem_cons.1 hi with rfl | hi
  ·have:=CO (l:=l) (fun i hi=>h i (by simp[hi]));simp[h3,h4];omega
  ·have ih:=CP (l:=l) (fun i hi=>h i (by simp[hi])) ⟨i,hi,h3,h4⟩;by_cases hp:p x=true
   ·have hq:=h x (by simp) hp;simp[hp,hq,ih]
   ·by_cases hq:q x=true
    ·simp[hp,hq];omega
    ·simp[hp,hq,ih]
theorem rh (X:List Pr) (c:Nat):x4 X c<=X.length:=by
 rw[x4];exact Nat.le_trans (length_filter_le _ _) (by simp)
theorem A7 {X:List Pr} {c:Nat} {d:Int} (hd:d∈oV X (aK X c)) (hg:dV X d.toNat=false):x4 X d.toNat<x4 X c:=by
 obtain⟨h0,h1⟩:=q8 _ d hd;have hdn:((d.toNat:Nat):Int)=d:=by omega
 have h2:LT X c d:=.one (by simpa[mE]using hd);refine CP (fun i hi h=> ?_) ⟨d.toNat,by simp;omega,?_,hg⟩
 ·rw[oD,hdn]at h;exact oD.2 (h2.trans h)
 ·rw[oD,hdn];exact h2
theorem uC {X:List Pr}:∀(f c:Nat),x4 X c<f->ET X f c=ET X (f+1) c
 | 0,c,h=>by omega
 | f+1,c,h=>by
  rw[ET];show _=lO X (dV X) (ET X (f+1)) (aK X c);exact m8 _ (fun d hd hg=>uC f d.toNat (by have:=A7 hd hg;omega))
theorem uD (X:List Pr) (c:Nat):j9 X c=lO X (dV X) (j9 X) (aK X c):=by
 rw[j9,uC _ c (by have:=rh X c;omega)];rfl
noncomputable abbrev cE (X:List Pr) (l:List St):List St:=lO X (dV X) (j9 X) l
mutual
theorem KP (f:ByteArray->ByteArray):∀s,dA (oX f s)=dA s
 | .mk k r t v l e a b p ps=>by simp only[oX,dA,gx f a,gx f b]
theorem gx (f:ByteArray->ByteArray):∀l,ai (ep f l)=ai l
 | []=>by simp[ep]
 | x::l=>by simp only[ep,ai,KP f x,gx f l]
end
theorem Hz {l:List St} (h:ai l=0):l=[]:=by
 cases l with
 | nil=>rfl
 | cons x l=>have:=BS x;simp only[ai]at h;omega
theorem uE {Rs:ByteArray->Prop}:∀{a b:List St},oH Rs (a++b)↔oH Rs a/\oH Rs b
 | [],b=>by simp[oH]
 | x::a,b=>by rw[cons_append,oH,oH,uE (a:=a),and_assoc]
theorem HA {Rs Mm:ByteArray->Prop} {f:ByteArray->ByteArray} (hf:∀r,Rs r->Mm (f r)) {r:ByteArray} (h:r=⟨#[]⟩\/Rs r):vr f r=⟨#[]⟩\/Mm (vr f r):=by
 rw[vr];split
 ·rename_i h;exact .inl h
 ·rename_i h0;rcases h with h | h
  ·exact absurd h h0
  ·exact .inr (hf r h)
mutual
theorem PS {Rs Mm:ByteArray->Prop} {f:ByteArray->ByteArray} (hf:∀r,Rs r->Mm (f r)):∀s,CE Rs s->CE Mm (oX f s)
 | .mk k r t v l e a b p ps,h=>by
  rw[CE]at h;rw[oX,CE];refine⟨HA hf h.1,HA hf h.2.1,fun s hs=> ?_,xy hf a h.2.2.2.1,xy hf b h.2.2.2.2⟩;obtain⟨r',rV,rfl⟩:=List.mem_map.1 hs;exact hf r' (h.2.2.1 r' rV)
theorem xy {Rs Mm:ByteArray->Prop} {f:ByteArray->ByteArray} (hf:∀r,Rs r->Mm (f r)):∀l,oH Rs l->oH Mm (ep f l)
 | [],_=>by simp[ep,oH]
 | x::l,h=>by
  rw[oH]at h;rw[ep,oH];exact⟨PS hf x h.1,xy hf l h.2⟩
end
theorem zt {Rs:ByteArray->Prop} {f g h:ByteArray->ByteArray} (hg:∀r,Rs r->g r≠⟨#[]⟩) (hf:∀r,Rs r->f (g r)=h r) {r:ByteArray} (hr:r=⟨#[]⟩\/Rs r):vr f (vr g r)=vr h r:=by
 by_cases h0:r=⟨#[]⟩
 ·simp[vr,h0]
 ·rcases hr with hr | hr
  ·exact absurd hr h0
  ·simp[vr,h0,hg r hr,hf r hr]
mutual
theorem HC {Rs:ByteArray->Prop} {f g h:ByteArray->ByteArray} (hg:∀r,Rs r->g r≠⟨#[]⟩) (hf:∀r,Rs r->f (g r)=h r):∀s,CE Rs s->oX f (oX g s)=oX h s
 | .mk k r t v l e a b p ps,hr=>by
  rw[CE]at hr;rw[oX,oX,oX,zt hg hf hr.1,zt hg hf hr.2.1,qg hg hf a hr.2.2.2.1,qg hg hf b hr.2.2.2.2,map_map];congr 1
  exact map_congr_left (fun s hs=>hf s (hr.2.2.1 s hs))
theorem qg {Rs:ByteArray->Prop} {f g h:ByteArray->ByteArray} (hg:∀r,Rs r->g r≠⟨#[]⟩) (hf:∀r,Rs r->f (g r)=h r):∀l,oH Rs l->ep f (ep g l)=ep h l
 | [],_=>by simp[ep]
 | x::l,hr=>by
  rw[oH]at hr;rw[ep,ep,ep,HC hg hf x hr.1,qg hg hf l hr.2]
end
theorem qh:∀{rs ps:List ByteArray},rs.length=ps.length->∀r∈rs,∃s∈ps,lf (rs.zip ps) r=some s
 | [],ps,_,r,h=>by cases h
 | x::rs,[],h,r,_=>by simp at h
 | x::rs,y::ps,h,r,hr=>by
  by_cases hx:r=x
  ·exact⟨y,by simp,by simp[lf,hx]⟩
  ·have rV:r∈rs:=by rcases List.mem_cons.1 hr with h | h;exact absurd h hx;exact h
   obtain⟨s,hs,h2⟩:=qh (rs:=rs) (ps:=ps) (by simpa using h) r rV;exact⟨s,by simp[hs],by simpa[lf,hx]using h2⟩
theorem zip_map (f:ByteArray->ByteArray) (r:ByteArray):∀rs ps:List ByteArray,lf (rs.zip (ps.map f)) r=(lf (rs.zip ps) r).map f
 | [],ps=>by simp[lf]
 | x::rs,[]=>by simp[lf]
 | x::rs,y::ps=>by
  have ih:=zip_map f r rs ps;simp only[map_cons,zip_cons_cons,lf];split
  ·rfl
  ·exact ih
theorem CR {rs ps:List ByteArray} (h:rs.length=ps.length) {r:ByteArray} (hr:r∈rs):dT (rs.zip ps) r∈ps:=by
 obtain⟨s,hs,h2⟩:=qh h r hr;rw[dT,h2];exact hs
theorem HE {rs ps:List ByteArray} (h:rs.length=ps.length) (f:ByteArray->ByteArray) {r:ByteArray} (hr:r∈rs):f (dT (rs.zip ps) r)=dT (rs.zip (ps.map f)) r:=by
 obtain⟨s,hs,h2⟩:=qh h r hr;rw[dT,dT,zip_map,h2];rfl
mutual
theorem PT {X:List Pr} {g:Nat->Bool} {B:Nat->List St} {Rs:ByteArray->Prop}:∀s,IC X Rs s->(∀c∈AX X s,g c.toNat=false->oH (·∈dd X c.toNat) (B c.toNat))->oH Rs (zW X g B s)
 | .mk k r t v l e a b p ps,h,hB=>by
  rw[IC]at h;simp only[AX,mem_append]at hB;rw[zW];split
  ·rename_i hc;have h5:k=5:=by
    refine Classical.byContradiction fun h5=> ?_
    have:=hc.1;simp[kI,h5]at this
   obtain⟨_,_,_,_,hlen⟩:=h.2.2.2.1 h5;have hk:kI X k p=bq X p:=by rw[kI,if_pos h5]
   rw[<-hk]at hlen;exact xy (fun r hr=>(h.2.2.1 _ (CR hlen hr)).1) _ (hB _ (.inl (by rw[if_pos hc.1];simp)) hc.2)
  ·rw[oH,CE,oH];exact⟨⟨h.1,h.2.1,fun s hs=>(h.2.2.1 s hs).1,xz a h.2.2.2.2.1 (fun c hc=>hB c (.inr (.inl hc))),xz b h.2.2.2.2.2 (fun c hc=>hB c (.inr (.inr hc)))⟩,trivial⟩
theorem xz {X:List Pr} {g:Nat->Bool} {B:Nat->List St} {Rs:ByteArray->Prop}:∀l,qz X Rs l->(∀c∈oV X l,g c.toNat=false->oH (·∈dd X c.toNat) (B c.toNat))->oH Rs (lO X g B l)
 | [],_,_=>by simp[lO,oH]
 | s::l,h,hB=>by
  rw[qz]at h;simp only[oV,mem_append]at hB;rw[lO,uE];exact⟨PT s h.1 (fun c hc=>hB c (.inl hc)),xz l h.2 (fun c hc=>hB c (.inr hc))⟩
end
theorem A8 {P:bH} (h:lK P=0):∀(f c:Nat),oH (·∈dd P.procs c) (ET P.procs f c)
 | 0,c=>by simp[ET,oH]
 | f+1,c=>by
  rw[ET];exact xz _ (qf h c) (fun d _ _=>A8 h f d.toNat)
theorem KQ {P:bH} (h:lK P=0) {c:Nat} {ps:List ByteArray} (hlen:(dd P.procs c).length=ps.length) (dr:∀s∈ps,s≠⟨#[]⟩) (f:ByteArray->ByteArray):
 ep f (ep (dT ((dd P.procs c).zip ps)) (j9 P.procs c))=ep (dT ((dd P.procs c).zip (ps.map f))) (j9 P.procs c):=
 qg (fun r hr=>dr _ (CR hlen hr)) (fun r hr=>HE hlen f hr) _ (A8 h _ c)
noncomputable def rS (X:List Pr) (c:Nat):Nat:=min (ai (j9 X c)) 2001
noncomputable def nP (X:List Pr) (l:List St):Nat:=min (ai (cE X l)) 2001
mutual
def HF (X:List Pr) (g:Nat->Bool) (G:Nat->List Int->List Int):St->List Int->List Int
 | .mk k r t v l e a b p ps,S=>if 0<=kI X k p/\g (kI X k p).toNat=false then(if S.getD (kI X k p).toNat 0<0 then G (kI X k p).toNat S else S)else qF X g G b (qF X g G a S)
def qF (X:List Pr) (g:Nat->Bool) (G:Nat->List Int->List Int):List St->List Int->List Int
 | [],S=>S
 | x::l,S=>qF X g G l (HF X g G x S)
end
theorem uF (X:List Pr) (g:Nat->Bool) (G:Nat->List Int->List Int):∀(a b:List St) (S:List Int),qF X g G (a++b) S=qF X g G b (qF X g G a S)
 | [],b,S=>by simp[qF]
 | x::a,b,S=>by rw[cons_append,qF,qF,uF X g G a b]
mutual
theorem En {X:List Pr} {g:Nat->Bool} {G G':Nat->List Int->List Int}:∀(s:St) (S:List Int),(∀c∈AX X s,g c.toNat=false->G c.toNat=G' c.toNat)->HF X g G s S=HF X g G' s S
 | .mk k r t v l e a b p ps,S,h=>by
  simp only[AX,mem_append]at h;rw[HF,HF,m9 a S (fun c hc=>h c (.inr (.inl hc))),m9 b _ (fun c hc=>h c (.inr (.inr hc)))];split
  ·rename_i hc;rw[h (kI X k p) (.inl (by rw[if_pos hc.1];simp)) hc.2]
  ·rfl
theorem m9 {X:List Pr} {g:Nat->Bool} {G G':Nat->List Int->List Int}:∀(l:List St) (S:List Int),(∀c∈oV X l,g c.toNat=false->G c.toNat=G' c.toNat)->qF X g G l S=qF X g G' l S
 | [],S,_=>by rw[qF,qF]
 | s::l,S,h=>by
  simp only[oV,mem_append]at h;rw[qF,qF,En s S (fun c hc=>h c (.inl hc)),m9 l _ (fun c hc=>h c (.inr hc))]
end
noncomputable def ID (X:List Pr):Nat->Nat->List Int->List Int
 | 0,_,S=>S
 | f+1,c,S=>(qF X (dV X) (ID X f) (aK X c) S).set c (rS X c:Int)
noncomputable def HG (X:List Pr):Nat->List Int->List Int:=ID X (X.length+1)
theorem uG {X:List Pr}:∀(f c:Nat),x4 X c<f->ID X f c=ID X (f+1) c
 | 0,c,h=>by omega
 | f+1,c,h=>by
  funext S
  rw[ID];show _=(qF X (dV X) (ID X (f+1)) (aK X c) S).set c (rS X c:Int);rw[m9 _ S (fun d hd hg=>uG f d.toNat (by have:=A7 hd hg;omega))]
theorem PU (X:List Pr) (c:Nat) (S:List Int):HG X c S=(qF X (dV X) (HG X) (aK X c) S).set c (rS X c:Int):=by
 rw[HG,uG _ c (by have:=rh X c;omega)];rfl
noncomputable abbrev nc (X:List Pr) (l:List St) (S:List Int):List Int:=qF X (dV X) (HG X) l S
mutual
def EU (X:List Pr) (g:Nat->Bool):St->List Nat
 | .mk k r t v l e a b p ps=>if 0<=kI X k p/\g (kI X k p).toNat=false then[(kI X k p).toNat]else iC X g a++iC X g b
def iC (X:List Pr) (g:Nat->Bool):List St->List Nat
 | []=> []
 | x::l=>EU X g x++iC X g l
end
mutual
theorem PV {X:List Pr} {g:Nat->Bool}:∀(s:St) (c:Nat),c∈EU X g s->g c=false/\∃d∈AX X s,d.toNat=c
 | .mk k r t v l e a b p ps,c,h=>by
  simp only[EU]at h;simp only[AX,mem_append];split at h
  ·rename_i hc;simp at h;subst h;exact⟨hc.2,_,.inl (by rw[if_pos hc.1];simp),rfl⟩
  ·rw[mem_append]at h;rcases h with h | h
   ·obtain⟨h1,d,h2,h3⟩:=uH a c h;exact⟨h1,d,.inr (.inl h2),h3⟩
   ·obtain⟨h1,d,h2,h3⟩:=uH b c h;exact⟨h1,d,.inr (.inr h2),h3⟩
theorem uH {X:List Pr} {g:Nat->Bool}:∀(l:List St) (c:Nat),c∈iC X g l->g c=false/\∃d∈oV X l,d.toNat=c
 | [],c,h=>by simp[iC]at h
 | x::l,c,h=>by
  simp only[iC,mem_append]at h;simp only[oV,mem_append];rcases h with h | h
  ·obtain⟨h1,d,h2,h3⟩:=PV x c h;exact⟨h1,d,.inl h2,h3⟩
  ·obtain⟨h1,d,h2,h3⟩:=uH l c h;exact⟨h1,d,.inr h2,h3⟩
end
theorem j4 {X:List Pr} {l:List St} {c:Nat} (h:c∈iC X (dV X) l):dV X c=false/\c<X.length:=by
 obtain⟨h1,d,h2,rfl⟩:=uH l c h;exact⟨h1,by have:=q8 _ d h2;omega⟩
theorem xA {X:List Pr} {c d:Nat} (h:d∈iC X (dV X) (aK X c)):x4 X d<x4 X c:=by
 obtain⟨h1,e,h2,rfl⟩:=uH _ d h;exact A7 h2 h1
structure iL (X:List Pr) (S:List Int):Prop where
 len:S.length=X.length
 val:∀c,c<X.length->S.getD c (-1)= -1\/(dV X c=false/\S.getD c (-1)=(rS X c:Int))
 cl:∀c,0<=S.getD c (-1)->∀d∈iC X (dV X) (aK X c),0<=S.getD d (-1)
def HI (S S':List Int):Prop:=∀c,0<=S.getD c (-1)->0<=S'.getD c (-1)
def PG (X:List Pr) (G:Nat->List Int->List Int) (c:Nat):Prop:=∀S,iL X S->iL X (G c S)/\HI S (G c S)/\0<=(G c S).getD c (-1)
theorem xB {S:List Int} {c:Nat} (h:c<S.length):S.getD c 0=S.getD c (-1):=by simp[List.getD,h]
mutual
theorem KS {X:List Pr} {G:Nat->List Int->List Int}:∀(s:St),(∀c∈EU X (dV X) s,PG X G c)->∀S,iL X S->
 iL X (HF X (dV X) G s S)/\HI S (HF X (dV X) G s S)/\∀c∈EU X (dV X) s,0<=(HF X (dV X) G s S).getD c (-1)
 | .mk k r t v l e a b p ps,h,S,hS=>by
  simp only[EU]at h⊢;rw[HF];split
  ·rename_i hc;rw[if_pos hc]at h;have oO:=G5 (X:=X) (.mk k r t v l e [] [] p ps) (kI X k p) (by simp[AX,hc.1]);have hG:=h (kI X k p).toNat (by simp) S hS;have ct:(kI X k p).toNat<S.length:=by rw[hS.len];omega
   have h01:=xB ct;split
   ·exact⟨hG.1,hG.2.1,fun c lA=>by simp at lA;subst lA;exact hG.2.2⟩
   ·rename_i h0;exact⟨hS,fun c h=>h,fun c lA=>by simp at lA;subst lA;rw[<-h01];omega⟩
  ·rename_i hc;rw[if_neg hc]at h;obtain⟨a1,a2,a3⟩:=qj a (fun c hc=>h c (List.mem_append.2 (.inl hc))) S hS;obtain⟨b1,b2,b3⟩:=qj b (fun c hc=>h c (List.mem_append.2 (.inr hc))) _ a1;refine⟨b1,fun c hk=>b2 c (a2 c hk),fun c lA=> ?_⟩;rcases List.mem_append.1 lA with lA | lA
   ·exact b2 _ (a3 c lA)
   ·exact b3 c lA
theorem qj {X:List Pr} {G:Nat->List Int->List Int}:∀(l:List St),(∀c∈iC X (dV X) l,PG X G c)->∀S,iL X S->
 iL X (qF X (dV X) G l S)/\HI S (qF X (dV X) G l S)/\∀c∈iC X (dV X) l,0<=(qF X (dV X) G l S).getD c (-1)
 | [],_,S,hS=>by
  rw[qF];exact⟨hS,fun c h=>h,fun c h=>by simp[iC]at h⟩
 | s::l,h,S,hS=>by
  simp only[iC,mem_append]at h⊢;rw[qF];obtain⟨a1,a2,a3⟩:=KS s (fun c hc=>h c (.inl hc)) S hS;obtain⟨b1,b2,b3⟩:=qj l (fun c hc=>h c (.inr hc)) _ a1;refine⟨b1,fun c hk=>b2 c (a2 c hk),fun c lA=> ?_⟩;rcases lA with lA | lA
  ·exact b2 _ (a3 c lA)
  ·exact b3 c lA
end
theorem CS {X:List Pr}:∀(f c:Nat),dV X c=false->c<X.length->x4 X c<f->PG X (ID X f) c
 | 0,c,_,_,h=>by omega
 | f+1,c,hg,hc,h=>fun S hS=>by
  rw[ID];obtain⟨a1,a2,a3⟩:=qj (G:=ID X f) (aK X c) (fun d hd=>CS f d (j4 hd).1 (j4 hd).2 (by have:=xA hd;omega)) S hS;generalize qF X (dV X) (ID X f) (aK X c) S=S1 at*;have iI:∀d,(S1.set c (rS X c:Int)).getD d (-1)=if d=c then(rS X c:Int)else S1.getD d (-1):=by
   intro d;simp only[getD_eq_getElem?_getD,getElem?_set];by_cases hd:c=d
   ·subst hd;simp[a1.len,hc]
   ·simp[hd,Ne.symm hd]
  have fI:HI S1 (S1.set c (rS X c:Int)):=fun d hd=>by
   rw[iI];split
   ·omega
   ·exact hd
  refine⟨⟨by simp[a1.len],fun d hd=> ?_,fun d hd e he=> ?_⟩,fun d hd=>fI d (a2 d hd),by rw[iI];simp⟩
  ·rw[iI];split
   ·rename_i e;subst e;exact .inr ⟨hg,rfl⟩
   ·exact a1.val d hd
  ·rw[iI]at hd;split at hd
   ·rename_i e';subst e';exact fI _ (a3 e he)
   ·exact fI _ (a1.cl d hd e he)
theorem KT {X:List Pr} {c:Nat} (hg:dV X c=false) (hc:c<X.length):PG X (HG X) c:=CS _ c hg hc (by have:=rh X c;omega)
theorem qk {X:List Pr} (l:List St) {S:List Int} (hS:iL X S):iL X (nc X l S)/\HI S (nc X l S)/\∀c∈iC X (dV X) l,0<=(nc X l S).getD c (-1):=
 qj l (fun c hc=>KT (j4 hc).1 (j4 hc).2) S hS
end Go.Proofs.YtdgoeblpcnjlbaaGreatDoor.Av
namespace Go.Proofs.YtdgoeblpcnjlbaaGreatDoor.Av
open Go.RowKit List
def PW:aB:=(.seq (.region [aQ 4 (.ag),aQ 5 (.bool false)]) (.seq (.seq (.region [ab 11 0,⟨some 12,.b5 (sT 11),none⟩,aN 13 3 12,aH 14 13,ab 15 1,⟨some 16,.eu (false,[false]) true (.ag) (sT 14) (sT 15),none⟩,ab 10 16,⟨some 17,.extract (sT 10) 0,none⟩,⟨some 18,.extract (sT 10) 1,none⟩,ab 6 17,ab 7 18]) (.seq (.region [ab 19 7]) (.cond (sT 19) (.seq (.qregion [⟨ab 20 6,false,0,0,0⟩,⟨ab 21 0,false,0,0,0⟩,⟨⟨some 22,.b5 (sT 21),none⟩,false,0,0,2⟩,⟨aN 23 4 22,false,0,0,6⟩,⟨aH 24 23,false,0,0,14⟩,⟨ab 25 1,false,0,0,0⟩,⟨⟨some 26,.eu (false,[false]) false (.bool false) (sT 24) (sT 25),none⟩,false,0,0,62⟩,⟨⟨some 27,.un .not (sT 26),none⟩,false,0,0,126⟩,⟨ab 4 20,false,0,0,1⟩,⟨ab 5 27,false,0,0,511⟩])
 .ret) .skip))) (.seq (.region [ab 29 0,ab 30 0,⟨some 31,.b5 (sT 30),none⟩,aN 32 0 31,aN 33 0 32,aH 34 33,ab 35 1,cM 36 3 34 35,aN 37 2 36,aH 38 37,bw 39 79 [.tmp 29,.tmp 38],ab 28 39,⟨some 40,.extract (sT 28) 0,none⟩,⟨some 41,.extract (sT 28) 1,none⟩,ab 8 40,ab 9 41]) (.seq (.qregion [⟨ab 42 0,false,0,0,0⟩,⟨⟨some 43,.b5 (sT 42),none⟩,false,0,0,1⟩,⟨aN 44 3 43,false,0,0,3⟩,⟨aH 45 44,false,0,0,7⟩,⟨ab 46 1,false,0,0,0⟩,⟨ab 47 0,false,0,0,0⟩,⟨⟨some 48,.b5 (sT 47),none⟩,false,0,0,32⟩,⟨aN 49 4 48,false,0,0,96⟩,⟨aH 50 49,false,0,0,224⟩,⟨ab 51 1,false,0,2,0⟩,⟨ab 52 8,false,0,1,0⟩,⟨ab 53 9,false,0,3,0⟩,⟨⟨some 54,.un .not (sT 53),none⟩,false,0,3,2048⟩,⟨⟨some 55,.uY (false,[false]) (.ag) (sT 45) (sT 46),none⟩,true,0,0,511⟩,⟨⟨some 56,.extract (sT 55) 1,none⟩,false,1,1,8703⟩,⟨⟨none,.uZ (sT 45) (sT 56) (sT 52),none⟩,true,0,0,26111⟩,⟨⟨some 57,.uY (false,[false]) (.bool false) (sT 50) (sT 51),none⟩,true,0,0,59391⟩,⟨⟨some 58,.extract (sT 57) 1,none⟩,false,3,3,124927⟩,⟨⟨none,.uZ (sT 50) (sT 58) (sT 54),none⟩,true,0,0,262143⟩]) (.seq (.region [ab 59 8,ab 60 9,ab 4 59,ab 5 60])
 .ret)))))
def PX:List a8:=[.tmp 4,.tmp 5]
theorem V6:aG Tryz.prog 156 PW PX 61:=codeOk Tryz.func156 rfl rfl
end Go.Proofs.YtdgoeblpcnjlbaaGreatDoor.Av
namespace Go.Proofs.YtdgoeblpcnjlbaaGreatDoor.Av
open Go.RowKit List
def V7:aB:=(.seq (.region [⟨some 1,.box (sT 0),none⟩,⟨some 2,.alloc (.agg [.ag,.ag]),none⟩,aQ 3 (.int .i64 0)]) (.seq (.region [bU 14 2 1,bw 15 77 [.tmp 14],⟨none,.store 2 (sT 1) (sT 15),none⟩]) (.seq (.pregion [⟨bU 16 2 1,false,0,1,0⟩,⟨bU 17 2 1,false,0,1,0⟩,⟨bw 18 78 [.tmp 17],false,0,1,2⟩,⟨⟨some 19,.gm,none⟩,true,0,0,0⟩,⟨⟨some 20,.du,none⟩,false,0,1,0⟩] 20 4 none [⟨some 21,.build [.ag,.ag,.ag,.cG,.cG] [(0,2,.tmp 16),(2,1,.tmp 18),(3,1,.tmp 19),(4,1,.tmp 20)],none⟩,⟨some 22,.box (sT 21),none⟩,ab 4 22]) (.seq (.region [ab 24 4,aN 25 1 1,aH 26 25,bw 27 79 [.tmp 24,.tmp 26],ab 23 27,⟨some 28,.extract (sT 23) 0,none⟩,⟨some 29,.extract (sT 23) 1,none⟩,ab 5 28,ab 6 29]) (.seq (.region [ab 30 5,⟨some 31,.build [.ag,.ag] [(1,1,.tmp 30)],none⟩,ab 32 5,bw 33 80 [.tmp 32],⟨some 7,.alloc (.agg [.ag,.ag]),none⟩,⟨none,.store 2 (sT 7) (sT 31),none⟩,ab 8 33]) (.seq (.seq (.region [aN 34 0 1,aH 35 34,cJ 36 35,aQ 37 (.int .i64 0)]) (.block 0 (.loop (.seq (.region [cL 38 .lss 37 36]) (.seq (.cond (sT 38) .skip (.exit 0)) (.seq (.block 1 (.seq (.region [ab 39 37,cM 40 3 35 37,bU 41 3 40,⟨some 10,.alloc (.agg [.str ⟨#[]⟩,.ag,.ag]),none⟩,ab 9 39,⟨none,.store 3 (sT 10) (sT 41),none⟩]) (.seq (.seq (.region [ab 42 4,⟨some 43,.b5 (sT 42),none⟩,aN 44 2 43,aH 45 44,ab 46 9,cM 47 1 45 46,aH 48 47,ab 49 9,⟨some 50,.eu (false,[false]) false (.bool false) (sT 48) (sT 49),none⟩,⟨some 51,.un .not (sT 50),none⟩]) (.cond (sT 51) (.exit 1) .skip)) (.seq (.region [ab 53 4,aN 54 2 10,aH 55 54,bw 56 79 [.tmp 53,.tmp 55],ab 52 56,⟨some 57,.extract (sT 52) 0,none⟩,⟨some 58,.extract (sT 52) 1,none⟩,ab 11 57,ab 12 58]) (.seq (.region [ab 59 6,ab 60 59,fD 61 12 60 true,⟨some 62,.pick (sT 60) (sT 61) (.val (.bool false)),none⟩,ab 63 8,ab 64 11,bw 65 80 [.tmp 64],cL 66 .add 63 65,ab 6 62,ab 8 66]) (.region [aN 67 0 7,aH 68 67,aN 69 0 10,aH 70 69,aN 71 1 10,aH 72 71,ab 73 11,⟨some 74,.build [.str ⟨#[]⟩,.ag,.ag] [(0,1,.tmp 70),(1,1,.tmp 72),(2,1,.tmp 73)],none⟩,⟨some 75,.aJ 3 [.tmp 74],none⟩,⟨some 76,.append 3 64 (sT 68) (sT 75),none⟩,aN 77 0 7,⟨none,.store 1 (sT 77) (sT 76),none⟩])))))) (.region [bC 78 .add 37 (.int .i64 1),ab 37 78]))))))) (.seq (.seq (.region [ab 79 6,⟨some 80,.un .not (sT 79),none⟩,ab 81 80,fD 82 8 81 false,⟨some 83,.bin .gtr (sT 82) (.val (.int .i64 2000)),(some (81,false))⟩,⟨some 84,.pick (sT 81) (.val (.bool true)) (sT 83),none⟩]) (.cond (sT 84) (.seq (.region [⟨some 85,.build [.ag,.ag] [],none⟩,⟨none,.store 2 (sT 2) (sT 85),none⟩,aQ 3 (.int .i64 12)])
 .ret) .skip)) (.seq (.seq (.region [bU 86 2 7,bw 87 46 [.tmp 86],ab 13 87]) (.seq (.region [ab 88 13,bC 89 .neq 88 (.int .i64 0)]) (.cond (sT 89) (.seq (.region [⟨some 90,.build [.ag,.ag] [],none⟩,ab 91 13,⟨none,.store 2 (sT 2) (sT 90),none⟩,ab 3 91])
 .ret) .skip))) (.seq (.region [bU 92 2 7,⟨none,.store 2 (sT 2) (sT 92),none⟩,aQ 3 (.int .i64 0)])
 .ret)))))))))
def xC:List a8:=[.cell true 2 2,.tmp 3]
theorem c218:aG Tryz.prog 25 V7 xC 93:=codeOk Tryz.func25 rfl rfl
structure XS (P:bH) (E:List Bool) (F:List Int) (sP ids N:Nat) (kv:V) (T:List Int->List ak):Prop where
 tok:me N T
 hx:∀S l,(T S++l)[sP]? =some (.row [.agg [.bc (fy P E),.fs (F.map (.int .i64)),kv]])
 hs:0<P.procs.length->∀S l,(T S++l)[ids]? =some (.row (S.map (.int .i64)))
 st:0<P.procs.length->∀S S' l,(T S++l).set ids (.row (S'.map (.int .i64)))=T S'++l
 hk:0<P.procs.length->kv=.ms ids 0 P.procs.length
 one:aw kv=[kv]
theorem XS.row {P:bH} {E:List Bool} {F:List Int} {sP ids N:Nat} {kv:V} {T:List Int->List ak} (h:XS P E F sP ids N kv T) (S S':List Int) (J:List ak):∀(i:Nat) b,(T S'++J)[i]? =some b->(T S++J)[i]? =some b\/b.nr=true:=
 (h.tok.app J).row S S'
theorem PY (X:List Pr) (c:Nat):nP X (aK X c)=rS X c:=by rw[nP,rS,uD]
theorem ik {S:List Int} {c:Nat} (h:c<S.length):(S.map (V.int .i64)).getD c .any=.int .i64 (S.getD c 0):=by simp[List.getD,h]
theorem V8 {P:bH} (ew:P.procs.length<=1000000) {E:List Bool} {F:List Int} {sP ids N:Nat} {kv:V} {T:List Int->List ak} (hT:XS P E F sP ids N kv T) (c:Nat) (hc:c<P.procs.length) (hg:dV P.procs c=false) (S:List Int) (hS:iL P.procs S) (J:List ak)
 (hm:∀J,av Tryz.prog 67 [.ptr sP 0 0,.fs ((num (aK P.procs c) (dc P c)).map (cb P.procs))] (T S++J) (bX (.int .i64 (nP P.procs (aK P.procs c))) (T (nc P.procs (aK P.procs c) S)++J))):
 av Tryz.prog 140 [.ptr sP 0 0,.int .i64 c] (T S++J) (bX (.int .i64 (rS P.procs c)) (T (if S.getD c 0<0 then HG P.procs c S else S)++J)):=by
 have hx:=hT.hx;have hs:=hT.hs (by omega);have xS:=hT.st (by omega);have hk:=hT.hk (by omega);subst hk;have tW:=mX P c hc;have l6:=cT P.procs P.procs (ai P.main);have Iq:=hS.len;have Q5:=ik (S:=S) (c:=c) (by omega);have A9:=hS.val c hc;rw[<-xB (by omega)]at A9;simp only[fy,lE]at hx;generalize DM:eF P.procs P.procs (ai P.main)=BL at*;by_cases h0:S.getD c 0<0
 ·rw[if_pos h0];have hm:=hm J;rw[PY]at hm;have Xx:=qk (aK P.procs c) hS;have uN:=Xx.1.len;have Ix:=PU P.procs c S;change HG P.procs c S=(nc P.procs (aK P.procs c) S).set c (rS P.procs c:Int)at Ix;generalize nc P.procs (aK P.procs c) S=S1 at*;have hgS1:((S1.set c (rS P.procs c:Int)).map (V.int .i64)).getD c .any=.int .i64 (rS P.procs c):=by rw[ik (by simp;omega)];simp[List.getD,show c<S1.length by omega]
  have hgS2:=ik (S:=S1) (c:=c) (by omega);have EP:(S1.map (V.int .i64)).set c (.int .i64 (rS P.procs c:Int))=(S1.set c (rS P.procs c:Int)).map (V.int .i64):=by rw[map_set]
  refine av.intro Pm 300 (by simp) ?_;simp -implicitDefEqProofs only[Kk,hx,hs,xS,tW,l6,hc,Q5,h0,Iq,Nat.le_refl,decide_true,go_sem];refine aD ?_;simp -implicitDefEqProofs only[hx,hs,xS,tW,l6,hc,Q5,h0,Iq,Nat.le_refl,go_sem];refine bR hm ?_;simp -implicitDefEqProofs only[hx,hs,xS,tW,l6,hc,Iq,uN,Nat.le_refl,EP,hgS1,hgS2,length_set,go_sem];simp -implicitDefEqProofs only[Kl,push_cast,go_sem_proc];rw[Ix]
 ·rw[if_neg h0];have hv:S.getD c 0=(rS P.procs c:Int):=by
   rcases A9 with h | h
   ·omega
   ·exact h.2
  refine av.intro Pm 300 (by simp) ?_;simp -implicitDefEqProofs only[Kk,hx,hs,xS,tW,l6,hc,Q5,h0,Iq,Nat.le_refl,decide_false,go_sem];simp -implicitDefEqProofs only[Kl,push_cast,go_sem_proc];rw[hv]
theorem et (X:List Pr) (g:Nat->Bool):∀a b,iC X g (a++b)=iC X g a++iC X g b
 | [],b=>by simp[iC]
 | x::a,b=>by rw[cons_append,iC,iC,et X g a,append_assoc]
theorem CT (p a b:Nat):(if(2001:Int)<(p:Int)+(1+(a:Int)+(b:Int))then(2001:Int)else(p:Int)+(1+(a:Int)+(b:Int)))=((min (p+(1+a+b)) 2001:Nat):Int):=by split<;>omega
theorem KU (a b:Nat):min (min a 2001+min b 2001) 2001=min (a+b) 2001:=by omega
theorem V9 {P:bH} (ew:P.procs.length<=1000000) {E:List Bool} {F:List Int} {sP ids N:Nat} {kv:V} {T:List Int->List ak} (hT:XS P E F sP ids N kv T) (jU:F.length=P.procs.length) (nf:∀c,c<P.procs.length->(F.getD c 0<0↔dV P.procs c=false))
 (l:List St) (eT:ai l<=1000000)
 (mI:∀c∈iC P.procs (dV P.procs) l,∀S J,iL P.procs S->av Tryz.prog 140 [.ptr sP 0 0,.int .i64 (c:Nat)] (T S++J) (bX (.int .i64 (rS P.procs c)) (T (if S.getD c 0<0 then HG P.procs c S else S)++J)))
 (pg:∀k r t v lb e a b p ps,St.mk k r t v lb e a b p ps∈l->¬(0<=kI P.procs k p/\dV P.procs (kI P.procs k p).toNat=false)->∀(n:Int) S J,iL P.procs S->
   av Tryz.prog 67 [.ptr sP 0 0,.fs ((num a n).map (cb P.procs))] (T S++J) (bX (.int .i64 (nP P.procs a)) (T (nc P.procs a S)++J))/\
   av Tryz.prog 67 [.ptr sP 0 0,.fs ((num b n).map (cb P.procs))] (T S++J) (bX (.int .i64 (nP P.procs b)) (T (nc P.procs b S)++J)))
 (n0:Int) (S:List Int) (hS:iL P.procs S) (J:List ak):
 av Tryz.prog 67 [.ptr sP 0 0,.fs ((num l n0).map (cb P.procs))] (T S++J) (bX (.int .i64 (nP P.procs l)) (T (nc P.procs l S)++J)):=by
 have hx:=hT.hx;have lL:=hT.tok.len;have ba:=hT.one;refine av.trim ?_;refine av.intro c242 400 (by simp) ?_;simp -implicitDefEqProofs only[US,go_sem];intro hlen;refine aL (fun m e H=>∃lp post J',l=lp++post/\m=post.length/\e 0=.ptr sP 0 0/\e 5=.int .i64 (nP P.procs lp:Nat)/\e 8=.fs ((num l n0).map (cb P.procs))/\e 9=.int .i64 (num l n0).length/\e 10=.int .i64 (num lp n0).length/\
  H=T (nc P.procs lp S)++(J++J')) l.length
  ⟨[],l,[],rfl,rfl,by simp[az,aC],by simp[az,aC,nP,cE,lO,ai],by simp[az,aC],by simp[az,aC],by simp[az,aC,num],by simp[nc,qF]⟩ ?_
 rintro m e H ⟨lp,post,J',hl,rfl,h0,h5,h8,h9,eb,rfl⟩;have Xo:=(qk lp hS).1;cases post with
 | nil=>
  have ev:lp=l:=by rw[hl];simp
  subst ev;simp -implicitDefEqProofs only[h0,h5,h8,h9,eb,go_sem];have ct:¬(((num lp n0).length:Int)<((num lp n0).length:Int)):=by omega
  simp -implicitDefEqProofs only[h0,h5,h8,h9,eb,ct,go_sem];simp -implicitDefEqProofs only[UT,push_cast,go_sem_proc];exact⟨T (nc P.procs lp S)++J,J',by rw[append_assoc],by simp[lL],hT.row S _ J,rfl⟩
 | cons s rest=>
  have ao:num l n0=num lp n0++(s,n0+ai lp)::num rest (n0+ai lp+dA s):=by rw[hl,gS,num]
  have hg:=aO (cb P.procs) ao;have da:s∈l:=by rw[hl];simp
  have lI:dA s<=ai l:=by rw[hl,aX,ai];omega
  have PZ:nc P.procs (lp++ [s]) S=nc P.procs [s] (nc P.procs lp S):=uF _ _ _ lp [s] S;have zu:nP P.procs (lp++ [s])=min (nP P.procs lp+min (ai (cE P.procs [s])) 2001) 2001:=by rw[nP,nP,cE,eL,aX,KU]
  have rT:num (lp++ [s]) n0=num lp n0++ [(s,n0+ai lp)]:=by rw[gS];simp[num]
  have hmle:nP P.procs lp<=2001:=Nat.min_le_right _ _;have j6:∀c∈iC P.procs (dV P.procs) [s],c∈iC P.procs (dV P.procs) l:=fun c hc=>by
   rw[hl,show lp++s::rest=lp++([s]++rest) by simp,et,et];simp only[mem_append];exact .inr (.inl hc)
  rcases s with⟨k,r,t,v,lb,⟨ek,en,es,aR⟩,a,b,p,ps⟩
  rw[ic]at hg;simp only[dA]at lI;generalize n0+(ai lp:Int)=n' at*;have Ci:0<=kI P.procs k p->(kI P.procs k p).toNat<P.procs.length:=fun h=>by
   by_cases h5:k=5
   ·simp only[kI,h5,if_true]at h⊢;exact fO h
   ·simp only[kI,h5,if_false]at h;omega
  by_cases cH:0<=kI P.procs k p/\dV P.procs (kI P.procs k p).toNat=false
  ·have oO:cE P.procs [.mk k r t v lb (.mk ek en es aR) a b p ps]=ep (dT ((dd P.procs (kI P.procs k p).toNat).zip ps)) (j9 P.procs (kI P.procs k p).toNat):=by
    simp only[cE,lO,zW,if_pos cH,append_nil]
   have OL:nc P.procs [.mk k r t v lb (.mk ek en es aR) a b p ps] (nc P.procs lp S)=if(nc P.procs lp S).getD (kI P.procs k p).toNat 0<0 then HG P.procs (kI P.procs k p).toNat (nc P.procs lp S)else nc P.procs lp S:=by
    simp only[nc,qF,HF,if_pos cH]
   have mI:=mI (kI P.procs k p).toNat (j6 _ (by simp[iC,EU,cH])) (nc P.procs lp S);rw[oO,gx]at zu;change nP P.procs _=min (nP P.procs lp+rS P.procs (kI P.procs k p).toNat) 2001 at zu;have Wc:rS P.procs (kI P.procs k p).toNat<=2001:=Nat.min_le_right _ _;have dF:=Ci cH.1;have P0:=(nf _ dF).2 cH.2;obtain⟨ci,HJ⟩:∃ci:Nat,kI P.procs k p=ci:=⟨(kI P.procs k p).toNat,by omega⟩;rw[HJ]at hg dF P0 mI OL zu Wc cH;simp only[Int.toNat_natCast]at dF P0 mI OL zu Wc;have xZ:=ik (S:=F) (c:=ci) (by omega);have w1:=bP (x:=(nP P.procs lp:Int)+(rS P.procs ci:Int)) (by omega) (by omega);have ct:=(an ao).1;have vt:(0:Int)<=(ci:Int):=by omega
   have gB:∀(S:List Int) (L:List ak),(T S++(J++(J'++L)))[N+(J.length+J'.length)]? =L[0]? :=fun S L=>hT.tok.Dw S J J' L
   have lz:∀(S:List Int) (L:List ak) (b:ak),(T S++(J++(J'++L))).set (N+(J.length+J'.length)) b=T S++(J++(J'++L.set 0 b)):=fun S L b=>by
    rw[set_append_right _ _ (by rw[lL];omega),lL,set_append_right _ _ (by omega),set_append_right _ _ (by omega)];congr 4;omega
   have zx:F.getD ci 0<0:=P0;simp -implicitDefEqProofs only[h0,h5,h8,h9,eb,an ao,aa ao hlen,hg,lL,gB,lz,go_sem];refine aD ?_;simp -implicitDefEqProofs only[h0,h5,h8,h9,eb,an ao,aa ao hlen,hg,lL,gB,lz,hx,ba,vt,decide_true,xZ,zx,jU,dF,go_sem];refine bR (mI _ Xo) ?_;simp -implicitDefEqProofs only[h0,h5,h8,h9,eb,an ao,aa ao hlen,hg,lL,gB,lz,w1,go_sem];refine⟨rest.length,Nat.lt_succ_self _,lp++ [.mk k r t v lb (.mk ek en es aR) a b p ps],rest,?gJ0,by simp[hl],rfl,?ga0,?gb0,?gc0⟩
   case gc0=>rw[PZ,OL]
   case ga0=>rw[zu];congr 1;split<;>omega
   case gb0=>rw[rT];simp
  ·have oO:ai (cE P.procs [.mk k r t v lb (.mk ek en es aR) a b p ps])=1+ai (cE P.procs a)+ai (cE P.procs b):=by
    simp only[cE,lO,zW,if_neg cH,append_nil,ai,dA];omega
   have OL:nc P.procs [.mk k r t v lb (.mk ek en es aR) a b p ps] (nc P.procs lp S)=nc P.procs b (nc P.procs a (nc P.procs lp S)):=by
    simp only[nc,qF,HF,if_neg cH]
   obtain⟨ha,_⟩:=pg k r t v lb (.mk ek en es aR) a b p ps da cH (n'+1) (nc P.procs lp S) (J++(J'++ [ak.row [V.agg [.int .i64 n',.int .i64 k,.str r,.str t,.str v,.str lb,.int .i64 ek,.int .i64 en,.str es,.fs (aR.map bu),.fs (a.map encS),.fs (b.map encS),.str p,.fs (ps.map .str),.int .i64 (kI P.procs k p),.fs ((num a (n'+1)).map (cb P.procs)),.fs ((num b (n'+1+ai a)).map (cb P.procs))]]])) Xo;have hSa:=(qk a Xo).1;obtain⟨_,hb⟩:=pg k r t v lb (.mk ek en es aR) a b p ps da cH (n'+1+ai a) (nc P.procs a (nc P.procs lp S)) (J++(J'++ [ak.row [V.agg [.int .i64 n',.int .i64 k,.str r,.str t,.str v,.str lb,.int .i64 ek,.int .i64 en,.str es,.fs (aR.map bu),.fs (a.map encS),.fs (b.map encS),.str p,.fs (ps.map .str),.int .i64 (kI P.procs k p),.fs ((num a (n'+1)).map (cb P.procs)),.fs ((num b (n'+1+ai a)).map (cb P.procs))]]])) hSa;rw[oO]at zu;have hma:nP P.procs a<=2001:=Nat.min_le_right _ _;have hmb:nP P.procs b<=2001:=Nat.min_le_right _ _;have w1:=bP (x:=1+(nP P.procs a:Int)) (by omega) (by omega);have w2:=bP (x:=1+(nP P.procs a:Int)+(nP P.procs b:Int)) (by omega) (by omega);have w3:=bP (x:=(nP P.procs lp:Int)+(1+(nP P.procs a:Int)+(nP P.procs b:Int))) (by omega) (by omega);have gB:∀(S:List Int) (L:List ak),(T S++(J++(J'++L)))[N+(J.length+J'.length)]? =L[0]? :=fun S L=>hT.tok.Dw S J J' L
   have lz:∀(S:List Int) (L:List ak) (b:ak),(T S++(J++(J'++L))).set (N+(J.length+J'.length)) b=T S++(J++(J'++L.set 0 b)):=fun S L b=>by
    rw[set_append_right _ _ (by rw[lL];omega),lL,set_append_right _ _ (by omega),set_append_right _ _ (by omega)];congr 4;omega
   by_cases dW:0<=kI P.procs k p
   ·obtain⟨ci,HJ⟩:∃ci:Nat,kI P.procs k p=ci:=⟨(kI P.procs k p).toNat,by omega⟩;have dF:=Ci dW;rw[HJ]at hg dF cH ha hb;simp only[Int.toNat_natCast]at dF cH;have vt:(0:Int)<=(ci:Int):=by omega
    have zx:¬F.getD ci 0<0:=fun h=>cH ⟨vt,(nf ci dF).1 h⟩
    have xZ:=ik (S:=F) (c:=ci) (by omega);simp -implicitDefEqProofs only[h0,h5,h8,h9,eb,an ao,aa ao hlen,hg,lL,gB,lz,go_sem];refine aD ?_;simp -implicitDefEqProofs only[h0,h5,h8,h9,eb,an ao,aa ao hlen,hg,lL,gB,lz,hx,ba,vt,decide_true,xZ,zx,jU,dF,decide_false,go_sem];refine aD ?_;simp -implicitDefEqProofs only[h0,h5,h8,h9,eb,an ao,aa ao hlen,hg,lL,gB,lz,go_sem];refine bR ha ?_;simp -implicitDefEqProofs only[h0,h5,h8,h9,eb,an ao,aa ao hlen,hg,lL,gB,lz,w1,go_sem];refine bR hb ?_;simp -implicitDefEqProofs only[h0,h5,h8,h9,eb,an ao,aa ao hlen,hg,lL,gB,lz,w1,w2,w3,go_sem];refine⟨rest.length,Nat.lt_succ_self _,lp++ [.mk k r t v lb (.mk ek en es aR) a b p ps],rest,?gJ1,by simp[hl],rfl,?ga1,?gb1,?gc1⟩
    case gc1=>rw[PZ,OL]
    case ga1=>rw[zu,CT];congr 2;simp only[nP];omega
    case gb1=>rw[rT];simp
   ·simp -implicitDefEqProofs only[h0,h5,h8,h9,eb,an ao,aa ao hlen,hg,lL,gB,lz,go_sem];refine aD ?_;simp -implicitDefEqProofs only[h0,h5,h8,h9,eb,an ao,aa ao hlen,hg,lL,gB,lz,dW,decide_false,go_sem];refine aD ?_;simp -implicitDefEqProofs only[h0,h5,h8,h9,eb,an ao,aa ao hlen,hg,lL,gB,lz,go_sem];refine bR ha ?_;simp -implicitDefEqProofs only[h0,h5,h8,h9,eb,an ao,aa ao hlen,hg,lL,gB,lz,w1,go_sem];refine bR hb ?_;simp -implicitDefEqProofs only[h0,h5,h8,h9,eb,an ao,aa ao hlen,hg,lL,gB,lz,w1,w2,w3,go_sem];refine⟨rest.length,Nat.lt_succ_self _,lp++ [.mk k r t v lb (.mk ek en es aR) a b p ps],rest,?gJ2,by simp[hl],rfl,?ga2,?gb2,?gc2⟩
    case gc2=>rw[PZ,OL]
    case ga2=>rw[zu,CT];congr 2;simp only[nP];omega
    case gb2=>rw[rT];simp
theorem t242 {P:bH} (ew:P.procs.length<=1000000) {E:List Bool} {F:List Int} {sP ids N:Nat} {kv:V} {T:List Int->List ak} (hT:XS P E F sP ids N kv T) (jU:F.length=P.procs.length) (nf:∀c,c<P.procs.length->(F.getD c 0<0↔dV P.procs c=false)) (f:Nat)
 (mI:∀c,dV P.procs c=false->c<P.procs.length->x4 P.procs c<f->∀S J,iL P.procs S->av Tryz.prog 140 [.ptr sP 0 0,.int .i64 (c:Nat)] (T S++J) (bX (.int .i64 (rS P.procs c)) (T (if S.getD c 0<0 then HG P.procs c S else S)++J))):
 ∀(m:Nat) (l:List St),SizeOf.sizeOf l<m->ai l<=1000000->(∀c∈iC P.procs (dV P.procs) l,x4 P.procs c<f)->∀(n0:Int) (S:List Int),iL P.procs S->∀(J:List ak),
  av Tryz.prog 67 [.ptr sP 0 0,.fs ((num l n0).map (cb P.procs))] (T S++J) (bX (.int .i64 (nP P.procs l)) (T (nc P.procs l S)++J))
 | 0,l,h=>absurd h (Nat.not_lt_zero _)
 | m+1,l,hm=>fun eT sm n0 S hS J=>V9 ew hT jU nf l eT (fun c hc S J hS=>mI c (j4 hc).1 (j4 hc).2 (sm c hc) S J hS) (fun k r t v lb e a b p ps da cH n S J hS=>by
  have hs:=sizeOf_lt_of_mem da;simp only[St.mk.sizeOf_spec]at hs;obtain⟨p1,p2,rfl⟩:=append_of_mem da;have Dv:ai (p1++St.mk k r t v lb e a b p ps::p2)=ai p1+(1+ai a+ai b+ai p2):=by rw[aX,ai,dA]
  have j6:∀c,c∈iC P.procs (dV P.procs) a\/c∈iC P.procs (dV P.procs) b->c∈iC P.procs (dV P.procs) (p1++St.mk k r t v lb e a b p ps::p2):=fun c hc=>by
   rw[et,iC,EU,if_neg cH];simp only[mem_append];exact .inr (.inl hc)
  exact⟨t242 ew hT jU nf f mI m a (by omega) (by omega) (fun c hc=>sm c (j6 c (.inl hc))) n S hS J,t242 ew hT jU nf f mI m b (by omega) (by omega) (fun c hc=>sm c (j6 c (.inr hc))) n S hS J⟩) n0 S hS J
theorem wv {P:bH} (hc:total P<=1000000) (c:Nat):ai (aK P.procs c)<=1000000:=by
 have:total P=ai P.main+bD P.procs:=rfl;rw[aK];cases hq:P.procs[c]? with
 | none=>simp[ai]
 | some q=>
  obtain⟨p1,p2,h⟩:=append_of_mem (mem_of_getElem? hq);rw[h,bE,bD]at this;simp only;omega
theorem t291 {P:bH} (hc:total P<=1000000) (ew:P.procs.length<=1000000) {E:List Bool} {F:List Int} {sP ids N:Nat} {kv:V} {T:List Int->List ak} (hT:XS P E F sP ids N kv T) (jU:F.length=P.procs.length) (nf:∀c,c<P.procs.length->(F.getD c 0<0↔dV P.procs c=false)):
 ∀(f c:Nat),dV P.procs c=false->c<P.procs.length->x4 P.procs c<f->∀S J,iL P.procs S->av Tryz.prog 140 [.ptr sP 0 0,.int .i64 (c:Nat)] (T S++J) (bX (.int .i64 (rS P.procs c)) (T (if S.getD c 0<0 then HG P.procs c S else S)++J))
 | 0,c,_,_,h=>absurd h (Nat.not_lt_zero _)
 | f+1,c,hg,eT,sm=>fun S J hS=>V8 ew hT c eT hg S hS J (fun J=>t242 ew hT jU nf f (t291 hc ew hT jU nf f) _ _ (Nat.lt_succ_self _) (wv hc c) (fun d hd=>by have:=xA hd;omega) _ S hS J)
theorem Mn {P:bH} (hc:total P<=1000000) (ew:P.procs.length<=1000000) {E:List Bool} {F:List Int} {sP ids N:Nat} {kv:V} {T:List Int->List ak} (hT:XS P E F sP ids N kv T) (jU:F.length=P.procs.length) (nf:∀c,c<P.procs.length->(F.getD c 0<0↔dV P.procs c=false))
 (l:List St) (eT:ai l<=1000000) (n0:Int) (S:List Int) (hS:iL P.procs S) (J:List ak):
 av Tryz.prog 67 [.ptr sP 0 0,.fs ((num l n0).map (cb P.procs))] (T S++J) (bX (.int .i64 (nP P.procs l)) (T (nc P.procs l S)++J)):=
 t242 ew hT jU nf (P.procs.length+1) (t291 hc ew hT jU nf _) _ l (Nat.lt_succ_self _) eT (fun c _=>by have:=rh P.procs c;omega) n0 S hS J
theorem OV.KW {H:List ak} {v:V} {l:List ByteArray} (h:OV H v (l.map .str)):∃D,Av.fz (cQ D H) 20 v=some (.fs (l.map .str))/\∀i,a7 v i->(bO D H)[i]? =H[i]? :=by
 have e4:∀(H:List ak) (l:List ByteArray),eI (Av.fz H 19) (l.map V.str)=some (l.map V.str):=fun H l=>dg _ _ (fun x=>dN _ _ x) l
 rcases h with⟨h1,rfl⟩ | ⟨_,id,rfl,h2⟩
 ·refine⟨[],by rw[fQ,h1],fun i _=>rfl⟩
 ·refine⟨[id],?_,fun i hi=> ?_⟩
  ·have hk:(cQ [id] H)[id]? =some (.row (l.map .str)):=by rw[cg,h2];simp
   rw[iu,hk,ef,if_pos (by simp),drop_zero,take_of_length_le (by simp),e4];rfl
  ·rw[de,if_neg];rintro⟨hc,_⟩;have:i=id:=by simpa using hc
   exact hi 0 (l.map V.str).length (by rw[this])
theorem xD (r:ByteArray):∀M:List Pa,(lf M r).isSome=M.any fun y=>decide (y.1=r)
 | []=>by simp[lf]
 | x::M=>by
  rw[lf,any_cons];by_cases h:r=x.1
  ·simp[h]
  ·simp[h,Ne.symm h,xD r M]
theorem HK (r:ByteArray) (M:List Pa):((M.map (·.2)).any fun y=>decide (r=y))=M.any fun y=>decide (y.2=r):=by
 rw[any_map];congr 1;funext y
 simp[eq_comm]
theorem CU {α:Type} (p q:α->Bool):∀l:List α,(l.any p || l.any q)=l.any fun y=>p y || q y
 | []=>rfl
 | x::l=>by
  rw[any_cons,any_cons,any_cons,<-CU p q l];cases p x<;>cases q x<;>cases l.any p<;>simp
noncomputable def Eo (P:bH) (M:List Pa):V:=if sO (lv P) M≠0 then .dJ [aP ⟨[],[]⟩,.int .i64 (sO (lv P) M)]else .dJ [aP ⟨P.procs,ep (dT M) P.main⟩,.int .i64 0]
theorem zy {r:ByteArray}:∀{M:List Pa},lf M r=none->∀x∈M,x.1≠r
 | [],_,x,hx=>by cases hx
 | y::M,h,x,hx=>by
  rw[lf]at h;split at h
  ·cases h
  ·rename_i hy;rcases List.mem_cons.1 hx with rfl | hx
   ·exact fun e=>hy e.symm
   ·exact zy h x hx
theorem t219 (P:bH) (hc:total P<=1000000) (hw:iE P<=1000000) (ew:P.procs.length<=1000000) (V3:(rR (cw P)).length<=1000000000) (M:List Pa):af Tryz.prog 26 [aP P,.fs (M.map cC)] (·=Eo P M):=by
 have P1:=t253 P hc V3;have Ba:=t249 P hw ew;rw[Eo];generalize lv P=R at*;rcases P with⟨xs,main⟩
 simp only[aP]at P1 Ba⊢;simp only[iE]at hw;have hlm:=jQ main;refine af.intro c219 900 (by simp) 20 ?_;simp -implicitDefEqProofs only[UN,go_sem];intro hlen;repeat' (first | ((with_reducible refine aD ?_);simp -implicitDefEqProofs only[go_sem]) | (with_reducible refine aA.mk ?_ ?_) | (with_reducible refine And.intro ?_ ?_) | ((with_reducible refine bz ?_);simp -implicitDefEqProofs only[xn,push_cast,go_sem_proc]) | intro _)
 ·rename_i h;have:12<M.length:=by simp at h;omega
  simp[sO,this]
 rename_i h;have dU:¬12<M.length:=by simp at h;omega
 repeat' (first | ((first | ((with_reducible refine bj P1 ?_ ?_);(·simp[ae,al,cm,aq,ah])) | ((with_reducible apply cj);(·simp -implicitDefEqProofs only[map_cons,map_nil,aq,ah,push_cast,go_sem_proc]<;>rfl);(with_reducible exact P1);(·rfl)) | (with_reducible refine aD ?_));simp -implicitDefEqProofs only[go_sem]) | (with_reducible refine aA.mk ?_ ?_) | (with_reducible refine And.intro ?_ ?_) | ((with_reducible refine bz ?_);simp -implicitDefEqProofs only[xn,push_cast,go_sem_proc]) | intro _)
 generalize hZ:ak.row [V.agg [.ag,.ag]]=ZB;generalize hPB:ak.row [V.agg [.fs (xs.map aF),.fs (main.map encS)]]=PB;refine aL (fun m e H=>∃pre post kv J,M=pre++post/\m=post.length/\oK R [] M=oK R pre post/\(pre.map (·.1)).Nodup/\e 1=.fs (M.map cC)/\e 2=.ptr 0 0 0/\e 4=.ptr 1 0 0/\e 6=.fs (R.map .str)/\e 7=.ptr 3 0 0/\e 8=kv/\e 27=.fs (M.map cC)/\e 28=.int .i64 M.length/\e 29=.int .i64 pre.length/\
  H=PB::ZB:: .mp (iA pre) (iX pre)::ak.row [.map 2]::J/\OV H kv ((pre.map (·.2)).map .str)/\a7 kv 0/\a7 kv 1/\a7 kv 2/\a7 kv 3) M.length
  ⟨[],M,.ag,[],rfl,rfl,rfl,by simp,by simp[az,aC],by simp[az,aC],by simp[az,aC],by simp[az,aC],by simp[az,aC],by simp[az,aC],by simp[az,aC],by simp[az,aC],by simp[az,aC],by simp[iA,iX],.inl ⟨rfl,rfl⟩,(fun a b h=>by cases h),(fun a b h=>by cases h),(fun a b h=>by cases h),(fun a b h=>by cases h)⟩ ?_
 rintro m e H ⟨pre,post,kv,J,ao,rfl,se,AQ,h1,h2,h4,h6,h7,h8,j0,vT,oR,rfl,bm,dW,iT,ir,vn⟩;have cP:=bm.one;have ba:=bm.cS;simp only[V.one]at ba;have cR:pre.length<=M.length:=by rw[ao];simp
 cases post with
 | cons q post=>
  have hg:=aO cC ao;simp only[cC]at hg;have Bb:=t29 R q.1;have Xy:=t54 q.2;have P2:=t29 (pre.map (·.2)) q.2;rw[HK]at P2;have kE:=lg q.1 pre;have uk:=mH pre q.1;have hz:=dw (f:=V.str) (n:=18) (fun H x=>dN _ _ x) (bm.app [ak.row [.agg [.str q.1,.str q.2]]]);simp only[cons_append]at hz;have eB:=xD q.1 pre;rw[oK,<-CU]at se;cases vS:lf pre q.1 with
  | some z=>
   rw[vS]at kE eB;simp only[Option.map_some,Option.isSome_some]at kE eB;rw[<-eB]at se;subst hZ;simp -implicitDefEqProofs only[h1,h2,h4,h6,h7,h8,j0,vT,oR,an ao,aa ao hlen,hg,uk,kE,fT,Option.getD_some,Option.isSome_some,go_sem];repeat' (first | ((first | ((with_reducible first | refine bj Bb ?_ ?_ | refine bj Xy ?_ ?_);(·simp[ae,al,cm,aE])) | ((with_reducible apply cj);(·simp -implicitDefEqProofs only[map_cons,map_nil,aE,push_cast,go_sem_proc]<;>rfl);(with_reducible first | exact Bb | exact Xy);(·rfl)) | (with_reducible refine aD ?_));simp -implicitDefEqProofs only[h1,h2,h4,h6,h7,h8,j0,vT,oR,an ao,aa ao hlen,hg,uk,kE,fT,Option.getD_some,Option.isSome_some,go_sem]) | (with_reducible refine aA.mk ?_ ?_) | (with_reducible refine And.intro ?_ ?_) | ((with_reducible refine bz ?_);simp -implicitDefEqProofs only[xn,h4,push_cast,go_sem_proc]) | intro _)
   ·rename_i f1;have e:oK R [] M=5:=by rw[se];simp only[f1];simp
    rw[sO,if_neg dU,e];rfl
   ·rename_i f1 f2;have e:oK R [] M=5:=by rw[se];simp only[f1,f2];simp
    rw[sO,if_neg dU,e];rfl
   ·rename_i f1 f2;have e:oK R [] M=6:=by rw[se];simp only[f1,f2];simp
    rw[sO,if_neg dU,e];rfl
  | none=>
   rw[vS]at kE eB;simp only[Option.map_none,Option.isSome_none]at kE eB;rw[<-eB]at se;have dr:=zy vS;have KX:=ux q.1 q.2 pre dr;have Wd:=qd q.1 q.2 pre dr;subst hZ;simp -implicitDefEqProofs only[h1,h2,h4,h6,h7,h8,j0,vT,oR,an ao,aa ao hlen,hg,uk,kE,fT,Option.getD_none,Option.isSome_none,KX,Wd,go_sem];repeat' (first | ((first | ((with_reducible first | refine bj Bb ?_ ?_ | refine bj Xy ?_ ?_ | refine bj P2 ?_ ?_);(·simp[ae,al,cm,aE,hz])) | ((with_reducible apply cj);(·simp -implicitDefEqProofs only[map_cons,map_nil,aE,hz,push_cast,go_sem_proc]<;>rfl);(with_reducible first | exact Bb | exact Xy | exact P2);(·rfl)) | (with_reducible refine aD ?_));simp -implicitDefEqProofs only[h1,h2,h4,h6,h7,h8,j0,vT,oR,an ao,aa ao hlen,hg,uk,kE,fT,Option.getD_none,Option.isSome_none,KX,Wd,go_sem]) | (with_reducible refine aA.mk ?_ ?_) | (with_reducible refine And.intro ?_ ?_) | ((with_reducible refine bz ?_);simp -implicitDefEqProofs only[xn,h4,push_cast,go_sem_proc]) | intro _)
   ·rename_i f1;have e:oK R [] M=5:=by rw[se];simp only[f1];simp
    rw[sO,if_neg dU,e];rfl
   ·rename_i f1 f2;have e:oK R [] M=5:=by rw[se];simp only[f1,f2];simp
    rw[sO,if_neg dU,e];rfl
   ·rename_i f1 f2 f3;have e:oK R [] M=6:=by rw[se];simp only[f1,f2,f3];simp
    rw[sO,if_neg dU,e];rfl
   rename_i f1 f2 f3;have hA:oK R [] M=oK R (pre++ [q]) post:=by rw[se];simp only[f1,f2,f3];simp
   have bJ:=(bm.set (x:=.mp (iA (pre++ [(q.1,q.2)])) (iX (pre++ [(q.1,q.2)]))) ir).app [ak.row [.agg [.str q.1,.str q.2]]];simp only[set_cons_succ,set_cons_zero,cons_append]at bJ;refine cu bJ (fun i o l h=>by cases h) (bV _) (by simp only[length_map,length_cons,length_nil];omega) ?_;rintro bN H' bo hle cp;obtain⟨pO,lV⟩:=cp 0 (by simp) dW;obtain⟨ky,pn⟩:=cp 1 (by simp) iT;obtain⟨jO,nY⟩:=cp 2 (by simp) ir;obtain⟨F4,QZ⟩:=cp 3 (by simp) vn;simp only[getElem?_cons_zero,getElem?_cons_succ]at pO ky jO F4;obtain⟨J',rfl⟩:=m5 pO ky jO F4;simp -implicitDefEqProofs only[h1,h2,h4,h6,h7,h8,j0,vT,oR,aa ao hlen,go_sem];refine⟨post.length,Nat.lt_succ_self _,pre++ [q],post,bN,J',by simp[ao],rfl,hA,?_,rfl,by simp,rfl,by simpa using bo,lV,pn,nY,QZ⟩;rw[map_append,nodup_append];refine⟨AQ,by simp,fun a ha b hb=> ?_⟩;simp at hb;subst hb;obtain⟨x,hx,rfl⟩:=List.mem_map.1 ha;exact dr x hx
 | nil=>
  have ev:pre=M:=by rw[ao];simp
  subst ev;have hA:oK R [] pre=0:=by rw[se,oK]
  have hN:sO R pre=CM R pre pre:=by rw[sO,if_neg dU,hA];rfl
  rw[hN];simp -implicitDefEqProofs only[h1,h2,h4,h6,h7,h8,j0,vT,oR,aI ao,go_sem];obtain⟨D,IA,Eg⟩:=bm.KW;refine⟨D,_,IA,?_⟩;have d0:=Eg 0 dW;have d1:=Eg 1 iT;have d2:=Eg 2 ir;have d3:=Eg 3 vn;simp only[getElem?_cons_zero,getElem?_cons_succ]at d0 d1 d2 d3;obtain⟨J1,Q0⟩:=m5 d0 d1 d2 d3;rw[Q0];clear Q0 d0 d1 d2 d3 IA Eg bm dW iT ir vn cP ba j0 vT oR h8 ao cR;rw[map_map,show(V.str∘fun(x:Pa)=>x.2)=(fun x:Pa=>V.str x.2) from rfl];simp -implicitDefEqProofs only[h1,h2,h4,h6,h7,go_sem];intro _;generalize pre=M at*;refine aL (fun m e H=>∃pre post J,M=pre++post/\m=post.length/\CM R M M=CM R M post/\e 2=.ptr 0 0 0/\e 4=.ptr 1 0 0/\e 6=.fs (R.map .str)/\e 7=.ptr 3 0 0/\e 71=.fs (M.map fun x=>V.str x.2)/\e 72=.int .i64 M.length/\e 73=.int .i64 pre.length/\
   H=PB::ZB:: .mp (iA M) (iX M)::ak.row [.map 2]::J) M.length
   ⟨[],M,J1,rfl,rfl,rfl,by simp[az,h2],by simp[az,h4],by simp[az,h6],by simp[az,h7],by simp[az],by simp[az],by simp[az],rfl⟩ ?_
  clear h1 h2 h4 h6 h7 J1 J;rintro m e H ⟨pre,post,J,ao,rfl,DH,h2,h4,h6,h7,We,Mk,Il,rfl⟩;cases post with
  | cons q post=>
   have hg:=aO (fun x:Pa=>V.str x.2) ao;have Bb:=t29 R q.2;have kE:=lg q.2 M;have uk:=mH M q.2;have eB:=xD q.2 M;rw[CM]at DH;subst hZ;cases vS:lf M q.2 with
   | some z=>
    rw[vS]at kE eB;simp only[Option.map_some,Option.isSome_some]at kE eB;rw[<-eB]at DH;simp -implicitDefEqProofs only[h2,h4,h6,h7,We,Mk,Il,an ao,aa ao hlen,hg,uk,kE,fT,Option.getD_some,Option.isSome_some,go_sem];exact⟨post.length,Nat.lt_succ_self _,pre++ [q],post,_,by simp[ao],rfl,by rw[DH];simp,by simp,rfl⟩
   | none=>
    rw[vS]at kE eB;simp only[Option.map_none,Option.isSome_none]at kE eB;rw[<-eB]at DH;simp -implicitDefEqProofs only[h2,h4,h6,h7,We,Mk,Il,an ao,aa ao hlen,hg,uk,kE,fT,Option.getD_none,Option.isSome_none,go_sem];repeat' (first | ((first | ((with_reducible refine bj Bb ?_ ?_);(·simp[ae,al,cm,aE])) | ((with_reducible apply cj);(·simp -implicitDefEqProofs only[map_cons,map_nil,aE,push_cast,go_sem_proc]<;>rfl);(with_reducible exact Bb);(·rfl)) | (with_reducible refine aD ?_));simp -implicitDefEqProofs only[h2,h4,h6,h7,We,Mk,Il,an ao,aa ao hlen,hg,uk,kE,fT,Option.getD_none,Option.isSome_none,go_sem]) | (with_reducible refine aA.mk ?_ ?_) | (with_reducible refine And.intro ?_ ?_) | ((with_reducible refine bz ?_);simp -implicitDefEqProofs only[xn,h4,push_cast,go_sem_proc]) | intro _)
    ·rename_i f1;have e:CM R M M=13:=by rw[DH];simp only[f1];simp
     rw[e];rfl
    ·rename_i f1;exact⟨post.length,Nat.lt_succ_self _,pre++ [q],post,_,by simp[ao],rfl,by rw[DH];simp only[f1];simp,by simp,rfl⟩
  | nil=>
   have PE:CM R M M=0:=by rw[DH,CM]
   rw[PE];subst hPB hZ;simp -implicitDefEqProofs only[h2,h4,h6,h7,We,Mk,Il,aI ao,go_sem];clear ao;have Xw:fz (cQ [3,2] (ak.row [V.agg [V.fs (xs.map aF),V.fs (main.map encS)]]::ak.row [V.agg [.ag,.ag]]:: .mp (iA M) (iX M)::ak.row [.map 2]::J)) 20 (.ptr 3 0 0)=some (.bc [.db (iA M) (iX M)]):=by
    have h3:∀b0 b1 b2 b3:ak,(cQ [3,2] (b0::b1::b2::b3::J))[3]? =some b3:=fun b0 b1 b2 b3=>by rw[cg];simp
    have h2:∀b0 b1 b2 b3:ak,(cQ [3,2] (b0::b1::b2::b3::J))[2]? =some b2:=fun b0 b1 b2 b3=>by rw[cg];simp
    have e1:∀H n,eI (fz H (n+1)) (iA M)=some (iA M):=fun H n=>dg _ _ (fun x=>by simp[dN]) M
    have e2:∀H n,eI (fz H (n+1)) (iX M)=some (iX M):=fun H n=>dg _ _ (fun x=>by simp[dN]) M
    rw[l9,h3,jK];simp[aw,b7,cN,mr,h2,mw,e1,e2,Dn]
   refine⟨[3,2],_,Xw,[0],.bc [.fs (xs.map aF),.fs (main.map encS)],?_,?_⟩
   ·rw[show bO [3,2] (ak.row [V.agg [V.fs (xs.map aF),V.fs (main.map encS)]]::ak.row [V.agg [.ag,.ag]]:: .mp (iA M) (iX M)::ak.row [.map 2]::J)=ak.row [V.agg [V.fs (xs.map aF),V.fs (main.map encS)]]::ak.row [V.agg [.ag,.ag]]:: .dead:: .dead::J from rfl,l9,cg];simp[jK,aw,b7,cN,jL,aq,ah,Dn]
   rw[show bO [0] (bO [3,2] (ak.row [V.agg [V.fs (xs.map aF),V.fs (main.map encS)]]::ak.row [V.agg [.ag,.ag]]:: .mp (iA M) (iX M)::ak.row [.map 2]::J))=.dead::ak.row [V.agg [.ag,.ag]]:: .dead:: .dead::J from rfl];simp -implicitDefEqProofs only[h4,go_sem];repeat' (first | ((first | ((with_reducible refine bj Ba ?_ ?_);(·simp[ae,al,cm,aq,ah])) | ((with_reducible apply cj);(·simp -implicitDefEqProofs only[map_cons,map_nil,aq,ah,push_cast,go_sem_proc]<;>rfl);(with_reducible exact Ba);(·rfl)) | (with_reducible refine aD ?_));simp -implicitDefEqProofs only[h4,go_sem]) | (with_reducible refine aA.mk ?_ ?_) | (with_reducible refine And.intro ?_ ?_) | ((with_reducible refine bz ?_);simp -implicitDefEqProofs only[xn,push_cast,go_sem_proc]) | intro _)
   rename_i cX;have lI:ae [V.bc [V.db (iA M) (iX M)]]=true:=by simp[ae,al,dB,dC]
   generalize hq:J.length+4=qi;have hq:=hq.symm;refine aL (fun m e H=>∃pre post kv,main=pre++post/\m=post.length/\e 4=.ptr 1 0 0/\e 7=.bc [.db (iA M) (iX M)]/\e 17=.ptr qi 0 0/\e 97=.fs (main.map encS)/\e 98=.int .i64 main.length/\e 99=.int .i64 pre.length/\
    H[1]? =some (ak.row [V.agg [.ag,.ag]])/\H[qi]? =some (ak.row [V.agg [.fs (xs.map aF),kv]])/\OV H kv ((ep (dT M) pre).map encS)/\a7 kv 1/\a7 kv qi) main.length
    ⟨[],main,.ag,rfl,rfl,by simp[az,h4],by simp[az],by simp[az],by simp[az],by simp[az],by simp[az],by simp,by simp[hq],.inl ⟨by simp[ep],rfl⟩,(fun a b h=>by cases h),(fun a b h=>by cases h)⟩ ?_
   have jB:1≠qi:=by omega
   clear h2 h4 h6 h7 We Mk Il Xw e;rintro m e H ⟨pre,post,kv,ao,rfl,h4,h7,ea,Xz,XA,XB,vI,hHq,bm,iT,Ie⟩;have cP:=bm.one;have ba:=bm.cS;simp only[V.one]at ba;have Hx:=(List.getElem?_eq_some_iff.1 vI).1;have Qs:=(List.getElem?_eq_some_iff.1 hHq).1;cases post with
   | cons q post=>
    have hg:=aO encS ao;have Xr:wS q<=dn main:=by rw[ao,cB,dn];omega
    have Bc:=t254 (dT M) 84 [.bc [.db (iA M) (iX M)]] lI (fun _=>True) (fun r _=>t255 M r) _ q (Nat.lt_succ_self _) (by omega) (uv q);have cR:(ep (dT M) pre).length<=main.length:=by rw[qb,ao];simp
    have LQ:ep (dT M) (pre++ [q])=ep (dT M) pre++ [oX (dT M) q]:=by rw[gW];simp[ep]
    generalize oX (dT M) q=q2 at*;rcases q with⟨k',r',t',v',l',⟨ek',en',wz,PH⟩,a',b',p',ps'⟩
    rcases q2 with⟨k2,r2,t2,v2,l2,⟨ek2,en2,es2,PI⟩,a2,b2,p2,ps2⟩
    rw[ay,ay]at Bc;rw[ay]at hg;have LF:∀L:List ak,(H++L)[1]? =some (ak.row [V.agg [.ag,.ag]]):=fun L=>by rw[getElem?_append_left Hx];exact vI
    have XC:∀L:List ak,(H++L)[qi]? =some (ak.row [V.agg [.fs (xs.map aF),kv]]):=fun L=>by rw[getElem?_append_left Qs];exact hHq
    simp -implicitDefEqProofs only[h4,h7,ea,Xz,XA,XB,an ao,aa ao cX,hg,LF,XC,ba,cP,go_sem];repeat' (first | ((first | ((with_reducible refine bj Bc ?_ ?_);(·simp[ae,al,cm,dB,dC,bf,ah,aE])) | ((with_reducible apply cj);(·simp -implicitDefEqProofs only[map_cons,map_nil,dB,dC,bf,ah,aE,push_cast,go_sem_proc]<;>rfl);(with_reducible exact Bc);(·rfl)) | (with_reducible refine aD ?_));simp -implicitDefEqProofs only[h4,h7,ea,Xz,XA,XB,an ao,aa ao cX,hg,LF,XC,ba,cP,go_sem]) | (with_reducible refine aA.mk ?_ ?_) | (with_reducible refine And.intro ?_ ?_) | ((with_reducible refine bz ?_);simp -implicitDefEqProofs only[xn,push_cast,go_sem_proc]) | intro _)
    refine cu (bm.app _) (fun i o l h=>by cases h) (cx _) (by simp only[length_map,length_cons,length_nil];omega) ?_;rintro bN H' bo hle cp;obtain⟨ky,pn⟩:=cp 1 (by simp;omega) iT;obtain⟨SS,T4⟩:=cp qi (by simp;omega) Ie;rw[LF]at ky;rw[XC]at SS;have hql':=(List.getElem?_eq_some_iff.1 SS).1;have ej:V.one bN=true:=bo.cS;simp only[V.one]at ej;have gQ:=bo.one;simp -implicitDefEqProofs only[h4,h7,ea,Xz,XA,XB,an ao,aa ao cX,hg,LF,XC,ba,cP,ky,SS,ej,gQ,go_sem];refine⟨post.length,Nat.lt_succ_self _,pre++ [_],post,bN,by simp[ao];rfl,rfl,by simp,?_,?_,?_,pn,T4⟩
    ·rw[getElem?_set_ne (Ne.symm jB)];exact ky
    ·rw[getElem?_set_self hql']
    ·rw[LQ,map_append,map_singleton,ay];exact bo.set T4
   | nil=>
    have ev:pre=main:=by rw[ao];simp
    rw[ev]at bm;simp -implicitDefEqProofs only[h4,h7,ea,Xz,XA,XB,aI ao,vI,hHq,ba,cP,go_sem];have hz:fz _ 18 kv=_:=dw (f:=encS) (n:=16) (fun H x=>eg H 15 x) (bm.set (x:=ak.row [V.agg [.fs (xs.map aF),kv]]) iT);have u5:(H.set 1 (ak.row [V.agg [.fs (xs.map aF),kv]]))[1]? =some (ak.row [V.agg [.fs (xs.map aF),kv]]):=getElem?_set_self Hx;simp -implicitDefEqProofs only[xn,h4,u5,hz,push_cast,go_sem_proc];rw[if_neg (by simp)]
def sf:List ByteArray:=[⟨#[97]⟩,⟨#[98]⟩,⟨#[99]⟩]
def HL:List ByteArray:=[⟨#[107]⟩,⟨#[108]⟩,⟨#[98]⟩,⟨#[97]⟩,⟨#[99]⟩,⟨#[109]⟩]
def HM:List ByteArray:=[⟨#[97]⟩,⟨#[122,122]⟩]
def HN:List ByteArray:=[⟨#[65]⟩,⟨#[109,97,105,110]⟩,⟨#[110]⟩]
def XD (L:List Int) (s:Nat×List Pa) (r:ByteArray):Nat×List Pa:=if dz L s.1 2=0 then(s.1+2,s.2++ [(r,HL.getD (dz L (s.1+1) 6).toNat ⟨#[]⟩)])else(s.1+1,s.2)
def x5 (L:List Int) (a:Nat):Nat->Nat×List Pa
 | 0=>(a,[])
 | j+1=>XD L (x5 L a j) (sf.getD j ⟨#[]⟩)
def Wf (L:List Int) (s:Nat×List Pa):Nat×List Pa:=if dz L s.1 15=0 then(s.1+3,s.2++ [(HM.getD (dz L (s.1+1) 2).toNat ⟨#[]⟩,HN.getD (dz L (s.1+2) 3).toNat ⟨#[]⟩)])else(s.1+1,s.2)
theorem HO (L:List Int) (a:Nat):∀j,(x5 L a j).1<=a+2*j/\(x5 L a j).2.length<=j
 | 0=>by simp[x5]
 | j+1=>by
  have ih:=HO L a j;rw[x5,XD];split
  ·simp;omega
  ·simp;omega
theorem zz (H:List ak) (n:Nat) (x:Pa):fz H (n+2) (cC x)=some (cC x):=by
 simp[cC,ma,b7,cN,dN,dR]
theorem t213 (L:List Int) (a:Nat) (ha:a<=100000):MC 20 L a [] (.fs ((Wf L (x5 L a 3)).2.map cC)) (Wf L (x5 L a 3)).1:=by
 intro ca N T hT;refine hT.rF (by simp only[al];exact cn _) ?_;refine av.intro c213 600 (by simp) ?_;simp -implicitDefEqProofs only[UH,go_sem];intro _;refine aL (fun q e H=>∃j kv J,q=3 - j/\j<=3/\e 0=.ptr ca 0 0/\e 3=kv/\e 6=.fs (sf.map .str)/\e 7=.int .i64 3/\e 8=.int .i64 (j:Nat)/\
  H=T (x5 L a j).1++J/\OV H kv ((x5 L a j).2.map cC)/\∀i,i<N->a7 kv i) 3 ⟨0,.ag,[],rfl,by omega,by simp[az,aC],by simp[az,aC],by simp[az,aC,sf],by simp[az,aC],by simp[az,aC],by simp[x5],.inl ⟨rfl,rfl⟩,(fun i _ a b h=>by cases h)⟩ ?_
 rintro q e H ⟨j,kv,J,rfl,hj,e0,e3,e6,e7,e8,rfl,bm,fI⟩;have hle:=HO L a j;have ba:=bm.cS;simp only[V.one]at ba;have cP:=bm.one;have hlen:=hT.tok.len;by_cases Ds:j=3
 ·subst Ds;have j6:¬(((3:Nat):Int)<3):=by omega
  have f1:=t14 L (x5 L a 3).1 15 (by omega);generalize x5 L a 3=s at*;rw[Wf];cases hb:decide (dz L s.1 15=0)with
  | false=>
   rw[hb]at f1;have IY:¬dz L s.1 15=0:=by simpa using hb
   rw[if_neg IY];simp -implicitDefEqProofs only[e0,e3,e6,e7,e8,j6,hT.tok.len,hT.tok.bW,hT.tok.bT,hT.tok.aZ,hT.tok.aW,hT.tok.get,go_sem];repeat' (first | ((first | (with_reducible refine bR ((f1.at hT _)) ?_) | (with_reducible refine aD ?_));simp -implicitDefEqProofs only[e0,e3,e6,e7,e8,j6,hT.tok.len,hT.tok.bW,hT.tok.bT,hT.tok.aZ,hT.tok.aW,hT.tok.get,go_sem]) | (with_reducible refine aA.mk ?_ ?_) | (with_reducible refine And.intro ?_ ?_) | ((with_reducible refine bz ?_);simp -implicitDefEqProofs only[D5,hT.tok.len,hT.tok.bW,hT.tok.bT,hT.tok.aZ,hT.tok.aW,hT.tok.get,push_cast,go_sem_proc]) | intro _)
   have bJ:=bm.tail (hT.tok.len _) fI (hT.tok.len (s.1+1));have nv:=bm.tail (hT.tok.len _) fI (B:=List.replicate N .dead) (by simp);have hz:=dw (f:=cC) (n:=18) (fun H x=>zz H 17 x) nv;exact⟨J,rfl,_,hz,rfl⟩
  | true=>
   rw[hb]at f1;have IY:dz L s.1 15=0:=by simpa using hb
   rw[if_pos IY];have f2:=t41 L (s.1+1) HM (by omega) (by decide) (by decide);have f3:=t41 L (s.1+2) HN (by omega) (by decide) (by decide);have n2:(HM.length:Int)=2:=rfl;have n3:(HN.length:Int)=3:=rfl;rw[n2]at f2;rw[n3]at f3;generalize HM.getD (dz L (s.1+1) 2).toNat ⟨#[]⟩=x2 at*;generalize HN.getD (dz L (s.1+2) 3).toNat ⟨#[]⟩=x3 at*;simp only[HM,HN,map_cons,map_nil]at f2 f3;simp -implicitDefEqProofs only[e0,e3,e6,e7,e8,j6,hT.tok.len,hT.tok.bW,hT.tok.bT,hT.tok.aZ,hT.tok.aW,hT.tok.get,go_sem];repeat' (first | ((first | (with_reducible first | refine bR ((f1.at hT _)) ?_ | refine bR ((f2.at hT _)) ?_ | refine bR ((f3.at hT _)) ?_) | (with_reducible refine aD ?_));simp -implicitDefEqProofs only[e0,e3,e6,e7,e8,j6,hT.tok.len,hT.tok.bW,hT.tok.bT,hT.tok.aZ,hT.tok.aW,hT.tok.get,go_sem]) | (with_reducible refine aA.mk ?_ ?_) | (with_reducible refine And.intro ?_ ?_) | ((with_reducible refine bz ?_);simp -implicitDefEqProofs only[D5,hT.tok.len,hT.tok.bW,hT.tok.bT,hT.tok.aZ,hT.tok.aW,hT.tok.get,push_cast,go_sem_proc]) | intro _)
   have bJ:=bm.tail (hT.tok.len _) fI (hT.tok.len (s.1+3));refine kU hT.tok (by simpa using bJ) fI (fun i o l h=>by cases h) (rf _) (by simp;omega) ?_;intro bN J' bo fG;simp -implicitDefEqProofs only[e0,e3,e6,e7,e8,go_sem];simp -implicitDefEqProofs only[D5,hT.tok.len,hT.tok.bW,hT.tok.bT,hT.tok.aZ,hT.tok.aW,hT.tok.get,push_cast,go_sem_proc];have nv:=bo.tail (hT.tok.len _) fG (B:=List.replicate N .dead) (by simp);have hov4:OV (List.replicate N .dead++J') bN ((s.2++ [(x2,x3)]).map cC):=by simpa[cC]using nv
   have hz:=dw (f:=cC) (n:=18) (fun H x=>zz H 17 x) hov4;exact⟨J',rfl,_,hz,rfl⟩
 ·have ct:((j:Int)<3):=by omega
  have fS:IntKind.i64.wrap ((j:Int)+1)=((j+1:Nat):Int):=bG (by omega);have gj:iD (j:Int) sf.length=True:=by simp[iD,sf];omega
  have hg:(sf.map V.str).getD j .any=.str (sf.getD j ⟨#[]⟩):=by
   have h3:j<sf.length:=by simp[sf];omega
   simp[List.getD,h3]
  have f1:=t14 L (x5 L a j).1 2 (by omega);have hS:x5 L a (j+1)=XD L (x5 L a j) (sf.getD j ⟨#[]⟩):=rfl;rw[XD]at hS;generalize hs:x5 L a j=s at*;generalize sf.getD j ⟨#[]⟩=r at*;have KY:sf.length=3:=rfl;have oN:j<3:=by omega
  cases hb:decide (dz L s.1 2=0)with
  | false=>
   rw[hb]at f1;have IY:¬dz L s.1 2=0:=by simpa using hb
   rw[if_neg IY]at hS;simp -implicitDefEqProofs only[e0,e3,e6,e7,e8,ct,gj,hg,KY,oN,hT.tok.len,hT.tok.bW,hT.tok.bT,hT.tok.aZ,hT.tok.aW,hT.tok.get,go_sem];repeat' (first | ((first | (with_reducible refine bR ((f1.at hT _)) ?_) | (with_reducible refine aD ?_));simp -implicitDefEqProofs only[e0,e3,e6,e7,e8,ct,gj,hg,fS,KY,oN,hT.tok.len,hT.tok.bW,hT.tok.bT,hT.tok.aZ,hT.tok.aW,hT.tok.get,go_sem]) | (with_reducible refine aA.mk ?_ ?_) | (with_reducible refine And.intro ?_ ?_) | ((with_reducible refine bz ?_);simp -implicitDefEqProofs only[D5,hT.tok.len,hT.tok.bW,hT.tok.bT,hT.tok.aZ,hT.tok.aW,hT.tok.get,push_cast,go_sem_proc]) | intro _)
   have bJ:=bm.tail (hT.tok.len _) fI (hT.tok.len (s.1+1));exact⟨3 - (j+1),by omega,j+1,kv,J,rfl,by omega,rfl,rfl,by rw[hS],by rw[hS];exact bJ,fI⟩
  | true=>
   rw[hb]at f1;have IY:dz L s.1 2=0:=by simpa using hb
   rw[if_pos IY]at hS;have f2:=t41 L (s.1+1) HL (by omega) (by decide) (by decide);have n2:(HL.length:Int)=6:=rfl;rw[n2]at f2;generalize HL.getD (dz L (s.1+1) 6).toNat ⟨#[]⟩=x2 at*;simp only[HL,map_cons,map_nil]at f2;simp -implicitDefEqProofs only[e0,e3,e6,e7,e8,ct,gj,hg,KY,oN,hT.tok.len,hT.tok.bW,hT.tok.bT,hT.tok.aZ,hT.tok.aW,hT.tok.get,go_sem];repeat' (first | ((first | (with_reducible first | refine bR ((f1.at hT _)) ?_ | refine bR ((f2.at hT _)) ?_) | (with_reducible refine aD ?_));simp -implicitDefEqProofs only[e0,e3,e6,e7,e8,ct,gj,hg,fS,KY,oN,hT.tok.len,hT.tok.bW,hT.tok.bT,hT.tok.aZ,hT.tok.aW,hT.tok.get,go_sem]) | (with_reducible refine aA.mk ?_ ?_) | (with_reducible refine And.intro ?_ ?_) | ((with_reducible refine bz ?_);simp -implicitDefEqProofs only[D5,hT.tok.len,hT.tok.bW,hT.tok.bT,hT.tok.aZ,hT.tok.aW,hT.tok.get,push_cast,go_sem_proc]) | intro _)
   have bJ:=bm.tail (hT.tok.len _) fI (hT.tok.len (s.1+2));refine kU hT.tok (by simpa using bJ) fI (fun i o l h=>by cases h) (rf _) (by simp;omega) ?_;intro bN J' bo fG;simp -implicitDefEqProofs only[e0,e3,e6,e7,e8,fS,go_sem];refine⟨3 - (j+1),by omega,j+1,bN,J',rfl,by omega,rfl,rfl,by rw[hS],?_,fG⟩;rw[hS];simpa[cC]using bo
theorem Wg (xs:List St) (hc:ai xs<=1000000)
 (h:∀k r t v l e a b p ps,St.mk k r t v l e a b p ps∈xs->af Tryz.prog 80 [.fs (a.map encS)] (·=.int .i64 (ai a))/\af Tryz.prog 80 [.fs (b.map encS)] (·=.int .i64 (ai b))):
 af Tryz.prog 80 [.fs (xs.map encS)] (·=.int .i64 (ai xs)):=by
 refine af.intro c252 300 (by simp) 20 ?_;simp -implicitDefEqProofs only[U3,go_sem];intro hlen;refine aL (fun m e H=>∃pre post,xs=pre++post/\m=post.length/\e 3=.int .i64 (ai pre:Nat)/\e 6=.fs (xs.map encS)/\e 7=.int .i64 xs.length/\e 8=.int .i64 pre.length) xs.length ⟨[],xs,by simp[az,aC,ai]⟩ ?_;rintro m e H ⟨pre,post,ao,rfl,h3,h8,h9,eb⟩;cases post with
 | nil=>
  simp -implicitDefEqProofs only[h3,h8,h9,eb,aI ao,go_sem];simp -implicitDefEqProofs only[Pf,push_cast,go_sem_proc];rw[ao,aX];simp[ai]
 | cons y post=>
  have hg:=aO encS ao;have FQ:ai xs=ai pre+(dA y+ai post):=by rw[ao,aX,ai]
  rcases y with⟨k,r,t,v,l,⟨ek,en,es,aR⟩,a,b,p,ps⟩
  simp only[dA]at FQ;obtain⟨ha,hb⟩:=h k r t v l (.mk ek en es aR) a b p ps (by rw[ao];simp);rw[ay]at hg;have w1:=bP (x:=1+(ai a:Int)) (by omega) (by omega);have w2:=bP (x:=1+(ai a:Int)+ai b) (by omega) (by omega);have w3:=bP (x:=(ai pre:Int)+(1+(ai a:Int)+ai b)) (by omega) (by omega);simp -implicitDefEqProofs only[h3,h8,h9,eb,hg,an ao,aa ao hlen,go_sem];repeat' (first | ((first | ((with_reducible first | refine bj ha ?_ ?_ | refine bj hb ?_ ?_);(·simp[ae,al,cm])) | ((with_reducible apply cj);(·simp -implicitDefEqProofs only[map_cons,map_nil,push_cast,go_sem_proc]<;>rfl);(with_reducible first | exact ha | exact hb);(·rfl)) | (with_reducible refine aD ?_));simp -implicitDefEqProofs only[h3,h8,h9,eb,hg,an ao,aa ao hlen,w1,w2,w3,go_sem]) | (with_reducible refine aA.mk ?_ ?_) | (with_reducible refine And.intro ?_ ?_) | ((with_reducible refine bz ?_);simp -implicitDefEqProofs only[Pf,push_cast,go_sem_proc]) | intro _)
  refine⟨_,Nat.lt_succ_self _,pre++ [_],post,by simp[ao];rfl,rfl,?_,by simp⟩;rw[aX];simp only[ai,dA];congr 1<;>omega
theorem t252:∀(n:Nat) (xs:List St),SizeOf.sizeOf xs<n->ai xs<=1000000->af Tryz.prog 80 [.fs (xs.map encS)] (·=.int .i64 (ai xs))
 | 0,xs,h,_=>absurd h (Nat.not_lt_zero _)
 | n+1,xs,hn,hc=>Wg xs hc (fun k r t v l e a b p ps hm=>by
  have hs:=sizeOf_lt_of_mem hm;have lA:dA (.mk k r t v l e a b p ps)<=ai xs:=by
   obtain⟨p1,p2,rfl⟩:=append_of_mem hm;rw[aX,ai];omega
  simp only[dA]at lA;simp only[St.mk.sizeOf_spec]at hs;exact⟨t252 n a (by omega) (by omega),t252 n b (by omega) (by omega)⟩)
theorem zA {r:ByteArray}:∀(rs ps:List ByteArray) (i:Int),rs.length=ps.length->r∈rs->∃j:Nat,oc (fun y=>decide (r=y)) rs i=i+j/\j<ps.length/\ps.getD j ⟨#[]⟩=dT (rs.zip ps) r
 | [],ps,i,_,h=>by cases h
 | x::rs,[],i,h,_=>by simp at h
 | x::rs,y::ps,i,h,hr=>by
  by_cases hx:r=x
  ·exact⟨0,by simp[oc,hx],by simp,by simp[dT,lf,hx]⟩
  ·have rV:r∈rs:=by rcases List.mem_cons.1 hr with h | h;exact absurd h hx;exact h
   obtain⟨j,h1,h2,h3⟩:=zA rs ps (i+1) (by simpa using h) rV;refine⟨j+1,?_,by simpa using h2,?_⟩
   ·simp only[oc,hx,decide_false,Bool.false_eq_true,if_false,h1];omega
   ·have:dT ((x::rs).zip (y::ps)) r=dT (rs.zip ps) r:=by
     obtain⟨s,hs,hz⟩:=qh (by simpa using h) r rV;simp[dT,lf,hx,hz]
    rw[this,<-h3];simp
noncomputable def XE (X:List Pr) (k:Nat):Bool:=decide (ai (j9 X k)<=2000)
noncomputable def doV (X:List Pr) (k:Nat):List St:=if ai (j9 X k)<=2000 then j9 X k else[]
def dk (k:Nat):V:=.int .i64 k
noncomputable def dv (X:List Pr) (k:Nat):V:=.fs ((doV X k).map encS)
noncomputable def bv (X:List Pr) (k:Nat):V:=.bool (!XE X k)
noncomputable def OT (P:bH) (A:List (List Int)) (b0 b1:ak) (D:List Nat):List ak:=
 [b0,b1,.mp (D.map dk) (D.map (dv P.procs)),.mp (D.map dk) (D.map (bv P.procs)),.row [.agg [.fs (P.procs.map aF),.fs (P.main.map encS),.fs (A.map dE),.map 2,.map 3]]]
theorem wx (D:List Nat):ae (D.map dk)=true:=bS (fun x=>by simp[dk,al]) D
theorem Ep (X:List Pr) (D:List Nat):ae (D.map (dv X))=true:=bS (fun x=>by simp[dv,al,ah]) D
theorem Er (X:List Pr) (D:List Nat):ae (D.map (bv X))=true:=bS (fun x=>by simp[bv,al]) D
theorem Wh {P:bH} {A:List (List Int)} {b0 b1:ak} {D D':List Nat} (J:List ak):∀(i:Nat) b,(OT P A b0 b1 D'++J)[i]? =some b->(OT P A b0 b1 D++J)[i]? =some b\/b.nr=true:=by
 intro i b h;rcases i with _ | _ | _ | _ | _ | i
 ·left;simpa[OT]using h
 ·left;simpa[OT]using h
 ·simp[OT]at h;subst h;right;simp[ak.nr,wx,Ep]
 ·simp[OT]at h;subst h;right;simp[ak.nr,wx,Er]
 ·left;simpa[OT]using h
 ·left;simpa[OT]using h
theorem HP (D:List Nat) (k:Nat):ya (false,[false]) (D.map dk) (.int .i64 k)=true:=by
 simp[ya,o8,iN,gE,fF,dk]
theorem xE (f:Nat->V) (k:Nat):∀D:List Nat,gG (D.map dk) (D.map f) (.int .i64 k)=if k∈D then some (f k)else none
 | []=>by simp[gG]
 | d::D=>by
  have ih:=xE f k D;simp only[map_cons,gG,dk,gE,fF,mem_cons];change gG (D.map dk) (D.map f) (.int .i64 k)=_ at ih;by_cases h:k=d
  ·subst h;simp
  ·have h2:¬(k:Int)=(d:Int):=by omega
   simp[h,h2,ih]
def uI (D:List Nat) (k:Nat):List Nat:=if k∈D then D else D++ [k]
theorem Bd (k:Nat) (D:List Nat):((D.map dk).any fun q=>gE (.int .i64 k) q==some true)=decide (k∈D):=by
 induction D with
 | nil=>simp
 | cons d D ih=>
  rw[map_cons,any_cons,ih];by_cases h:k=d
  ·subst h;simp[dk,gE,fF]
  ·have h2:¬(k:Int)=(d:Int):=by omega
   simp[dk,gE,fF,h,h2]
theorem HQ (D:List Nat) (k:Nat):ja (D.map dk) (.int .i64 k)=(uI D k).map dk:=by
 rw[ja,Bd,uI];by_cases h:k∈D
 ·simp[h]
 ·simp[h,dk]
theorem CV (k:Nat):∀D:List Nat,nT (D.map dk) (.int .i64 k)<(uI D k).length/\∀(f:Nat->V) (z:V),(lR (D.map dk) (D.map f) (.int .i64 k) z).set (nT (D.map dk) (.int .i64 k)) (f k)=(uI D k).map f
 | []=>by simp[nT,uI,lR]
 | d::D=>by
  obtain⟨h1,h2⟩:=CV k D;by_cases h:k=d
  ·subst h;have e0:nT ((k::D).map dk) (.int .i64 k)=0:=by simp[nT,dk,gE,fF,findIdx_cons]
   rw[e0];refine⟨by simp[uI],fun f z=> ?_⟩;rw[lR,Bd];simp[uI]
  ·have h3:¬(k:Int)=(d:Int):=by omega
   have e0:nT ((d::D).map dk) (.int .i64 k)=nT (D.map dk) (.int .i64 k)+1:=by simp[nT,dk,gE,fF,findIdx_cons,h3]
   have e1:uI (d::D) k=d::uI D k:=by
    simp only[uI,mem_cons,h,false_or];split<;>rfl
   rw[e0,e1];refine⟨by simpa using h1,fun f z=> ?_⟩;have:=h2 f z;rw[lR,Bd]at this⊢;simp only[mem_cons,h,false_or,map_cons];split
   ·rename_i h4;rw[if_pos h4]at this;rw[set_cons_succ,this]
   ·rename_i h4;rw[if_neg h4]at this;rw[cons_append,set_cons_succ,this]
theorem HR:∀{l seen:List ByteArray},pG seen l=0->∀x∈l,dt x=true
 | [],seen,_,x,hx=>by cases hx
 | y::l,seen,h,x,hx=>by
  simp only[pG]at h;split at h
  ·cases h
  rename_i hn;split at h
  ·cases h
  rcases List.mem_cons.1 hx with rfl | hx
  ·simpa using hn
  ·exact HR h x hx
theorem P3 {P:bH} (h:lK P=0) {c:Nat}:(∀x∈dd P.procs c,dt x=true)/\(dd P.procs c).Nodup:=by
 rw[dd];cases hq:P.procs[c]? with
 | none=>simp
 | some q=>
  have hm:=mem_of_getElem? hq;refine⟨fun x hx=> ?_,(sJ h q hm).1⟩;have hc:=mD (y8 h);obtain⟨pre,hp⟩:=ui hc.1 q hm;rw[pF]at hp;split at hp;·cases hp
  split at hp;·cases hp
  split at hp;·cases hp
  split at hp;·cases hp
  split at hp
  ·rename_i h1;exact absurd hp h1
  rename_i h1;exact HR (by simpa using h1) x hx
theorem zB {r:ByteArray}:∀{rs ps:List ByteArray},r∉rs->lf (rs.zip ps) r=none
 | [],ps,_=>by simp[lf]
 | x::rs,[],_=>by simp[lf]
 | x::rs,y::ps,h=>by
  simp only[mem_cons,not_or]at h;simp only[zip_cons_cons,lf,if_neg h.1];exact zB h.2
theorem Wi (bk:List V) (GC:ae bk=true) (F S:List Int) (c:Nat) (hc:c<S.length) (h0:0<=S.getD c (-1)):af Tryz.prog 140 [.bc [.bc bk,.fs (F.map (.int .i64)),.fs (S.map (.int .i64))],.int .i64 (c:Nat)] (·=.int .i64 (S.getD c (-1))):=by
 have Q5:=ik (S:=S) (c:=c) hc;rw[xB hc]at Q5;have hn:¬S.getD c (-1)<0:=by omega
 refine af.intro Pm 300 (by simp) 20 ?_;simp -implicitDefEqProofs only[Kk,Q5,hc,hn,decide_false,go_sem];simp -implicitDefEqProofs only[Kl,push_cast,go_sem_proc]
theorem HS (rs ps:List ByteArray) (pre post:List ByteArray) (r:ByteArray) (h:rs=pre++r::post) (hl:rs.length=ps.length):pre.zip ps++ [(r,ps.getD pre.length ⟨#[]⟩)]=(pre++ [r]).zip ps:=by
 subst h;have:ps=ps.take pre.length++ps.getD pre.length ⟨#[]⟩::ps.drop (pre.length+1):=by
  have ct:pre.length<ps.length:=by simp at hl;omega
  have e:=take_append_drop pre.length ps;rw[drop_eq_getElem_cons ct]at e;simp only[getD_eq_getElem?_getD,getElem?_eq_getElem ct,Option.getD_some];exact e.symm
 generalize hx:ps.getD pre.length ⟨#[]⟩=x at*;have ct:(ps.take pre.length).length=pre.length:=by simp at hl;simp;omega
 rw[this,zip_append ct.symm];have e2:pre.zip (ps.take pre.length++x::ps.drop (pre.length+1))=pre.zip (ps.take pre.length):=by
  have:=zip_append (l₁:=pre) (r₁:=[]) (l₂:=ps.take pre.length) (r₂:=x::ps.drop (pre.length+1)) ct.symm;simpa using this
 rw[e2];simp
theorem KZ {H:List ak} {B1 B2:ak} (M:List Pa):fz (cQ [H.length+2] (H++ [B1,B2,.mp (iA M) (iX M)])) 20 (.map (H.length+2))=some (.db (iA M) (iX M))/\bO [H.length+2] (H++ [B1,B2,.mp (iA M) (iX M)])=H++ [B1,B2,.dead]:=by
 have hg:(H++ [B1,B2,ak.mp (iA M) (iX M)])[H.length+2]? =some (.mp (iA M) (iX M)):=by simp
 constructor
 ·have hk:(cQ [H.length+2] (H++ [B1,B2,.mp (iA M) (iX M)]))[H.length+2]? =some (.mp (iA M) (iX M)):=by rw[cg,hg];simp
  have e1:∀n H,eI (fz H (n+1)) (iA M)=some (iA M):=fun n H=>dg _ _ (fun x=>by simp[dN]) M
  have e2:∀n H,eI (fz H (n+1)) (iX M)=some (iX M):=fun n H=>dg _ _ (fun x=>by simp[dN]) M
  rw[mr,hk,mw,e1,e2]
 ·rw[bO];simp[bO]
def sQ (bk:List V) (F S:List Int):V:=.bc [.bc bk,.fs (F.map (.int .i64)),.fs (S.map (.int .i64))]
theorem Wj {P:bH} (cR:lK P=0) (ew:P.procs.length<=1000000) {E:List Bool} {F S:List Int} (jU:F.length=P.procs.length) (nf:∀c,c<P.procs.length->(F.getD c 0<0↔dV P.procs c=false)) (hS:iL P.procs S)
 (M:List Pa) (mv:V) (vl:al mv=true) (vq:∀x,wS x<=1000000->af Tryz.prog 76 [encS x,mv] (·=encS (Ee M x))) (Q6:lf M ⟨#[]⟩=none)
 (l:List St) (Rs:ByteArray->Prop) (vj:qz P.procs Rs l) (Mo:dn l<=1000000) (hk:∀c∈iC P.procs (dV P.procs) l,0<=S.getD c (-1)) (eW:ai (cE P.procs l)<=2000)
 (cH:∀c∈iC P.procs (dV P.procs) l,ai (j9 P.procs c)<=2000->∀M':List Pa,lf M' ⟨#[]⟩=none->
   af Tryz.prog 68 [sQ (fy P E) F S,.fs ((num (aK P.procs c) (dc P c)).map (cb P.procs)),.db (iA M') (iX M')] (·=.fs ((ep (dT M') (j9 P.procs c)).map encS)))
 (pg:∀k r t v lb e a b p ps,St.mk k r t v lb e a b p ps∈l->¬(0<=kI P.procs k p/\dV P.procs (kI P.procs k p).toNat=false)->∀(n:Int),
   af Tryz.prog 68 [sQ (fy P E) F S,.fs ((num a n).map (cb P.procs)),mv] (·=.fs ((ep (dT M) (cE P.procs a)).map encS))/\
   af Tryz.prog 68 [sQ (fy P E) F S,.fs ((num b n).map (cb P.procs)),mv] (·=.fs ((ep (dT M) (cE P.procs b)).map encS)))
 (n0:Int):af Tryz.prog 68 [sQ (fy P E) F S,.fs ((num l n0).map (cb P.procs)),mv] (·=.fs ((ep (dT M) (cE P.procs l)).map encS)):=by
 have GC:ae (fy P E)=true:=by
  simp[fy,lE,al,ae,aq,ah,aY,br,ee (eG _ _ _)]
 refine af.intro c243 900 (by simp) 20 ?_;simp -implicitDefEqProofs only[UU,go_sem];intro hlen;refine aL (fun m e H=>∃lp post kv,l=lp++post/\m=post.length/\e 0=sQ (fy P E) F S/\e 2=mv/\e 7=kv/\e 14=.fs ((num l n0).map (cb P.procs))/\e 15=.int .i64 (num l n0).length/\e 16=.int .i64 (num lp n0).length/\
  OV H kv ((ep (dT M) (cE P.procs lp)).map encS)) l.length
  ⟨[],l,.ag,rfl,rfl,by simp[az,aC],by simp[az,aC],by simp[az,aC],by simp[az,aC],by simp[az,aC],by simp[az,aC,num],.inl ⟨by simp[cE,lO,ep],rfl⟩⟩ ?_
 rintro m e H ⟨lp,post,kv,hl,rfl,h0,h2,h7,dG,gy,cZ,bm⟩;have cP:=bm.one;have ba:=bm.cS;simp only[V.one]at ba;cases post with
 | nil=>
  have ev:lp=l:=by rw[hl];simp
  subst ev;have ct:¬(((num lp n0).length:Int)<((num lp n0).length:Int)):=by omega
  simp -implicitDefEqProofs only[h0,h2,h7,dG,gy,cZ,ct,go_sem];have hz:=dw (f:=encS) (n:=18) (fun H x=>eg H 17 x) bm;simp -implicitDefEqProofs only[D6,hz,push_cast,go_sem_proc]
 | cons s rest=>
  have ao:num l n0=num lp n0++(s,n0+ai lp)::num rest (n0+ai lp+dA s):=by rw[hl,gS,num]
  have hg:=aO (cb P.procs) ao;have da:s∈l:=by rw[hl];simp
  have P4:cE P.procs l=cE P.procs lp++(cE P.procs [s]++cE P.procs rest):=by rw[hl,show lp++s::rest=lp++([s]++rest) by simp,cE,eL,eL]
  have zC:cE P.procs (lp++ [s])=cE P.procs lp++cE P.procs [s]:=eL _ _ _ lp [s];have HT:ep (dT M) (cE P.procs (lp++ [s]))=ep (dT M) (cE P.procs lp)++ep (dT M) (cE P.procs [s]):=by rw[zC,gW]
  have rT:num (lp++ [s]) n0=num lp n0++ [(s,n0+ai lp)]:=by rw[gS];simp[num]
  have OS:ai (cE P.procs lp)+ai (cE P.procs [s])<=2000:=by rw[P4,aX,aX]at eW;omega
  have Wk:(ep (dT M) (cE P.procs lp)).length<=2000:=by have:=eh (ep (dT M) (cE P.procs lp));rw[gx]at this;omega
  have j6:∀c∈iC P.procs (dV P.procs) [s],c∈iC P.procs (dV P.procs) l:=fun c hc=>by
   rw[hl,show lp++s::rest=lp++([s]++rest) by simp,et,et];simp only[mem_append];exact .inr (.inl hc)
  have XF:wS s<=1000000:=by rw[hl,cB,dn]at Mo;omega
  have eB:IC P.procs Rs s:=by rw[hl,lj,qz]at vj;exact vj.2.1
  have qn:=vq s XF;generalize n0+(ai lp:Int)=n' at*;rcases s with⟨k,r,t,v,lb,⟨ek,en,es,aR⟩,a,b,p,ps⟩
  rw[ic]at hg;rw[Ee,ay,ay]at qn;rw[IC]at eB;simp only[wS]at XF;have Ci:0<=kI P.procs k p->(kI P.procs k p).toNat<P.procs.length:=fun h=>by
   by_cases h5:k=5
   ·simp only[kI,h5,if_true]at h⊢;exact fO h
   ·simp only[kI,h5,if_false]at h;omega
  by_cases eT:0<=kI P.procs k p/\dV P.procs (kI P.procs k p).toNat=false
  ·have h5:k=5:=Classical.byContradiction fun h5=>by have:=eT.1;simp[kI,h5]at this
   have oO:cE P.procs [.mk k r t v lb (.mk ek en es aR) a b p ps]=ep (dT ((dd P.procs (kI P.procs k p).toNat).zip ps)) (j9 P.procs (kI P.procs k p).toNat):=by
    simp only[cE,lO,zW,if_pos eT,append_nil]
   obtain⟨_,_,_,_,lx⟩:=eB.2.2.2.1 h5;rw[<-show kI P.procs k p=bq P.procs p by rw[kI,if_pos h5]]at lx;have dF:=Ci eT.1;have P0:=(nf _ dF).2 eT.2;have XG:(kI P.procs k p).toNat∈iC P.procs (dV P.procs) l:=j6 _ (by simp[iC,EU,eT]);have dW:=hk _ XG;have P5:=cH _ XG;obtain⟨ci,HJ⟩:∃ci:Nat,kI P.procs k p=ci:=⟨(kI P.procs k p).toNat,by omega⟩;rw[HJ]at hg dF P0 oO lx dW P5;simp only[Int.toNat_natCast]at dF P0 oO lx dW P5;have hSv:S.getD ci (-1)=(rS P.procs ci:Int):=by
    rcases hS.val ci dF with h | h
    ·omega
    ·exact h.2
   have vt:(0:Int)<=(ci:Int):=by omega
   have xZ:=ik (S:=F) (c:=ci) (by omega);have mI:=Wi (fy P E) GC F S ci (by rw[hS.len];exact dF) dW;rw[hSv]at mI;rw[oO,gx]at OS;have VS:=KQ cR lx (fun s hs=>(eB.2.2.1 s hs).2) (dT M);rw[oO,VS]at HT;have DX:(P.procs.map aF).getD ci .any=aF P.procs[ci]:=by simp[List.getD,dF]
   have sv:P.procs[ci].au=dd P.procs ci:=by simp[dd,dF]
   simp only[aF,sv]at DX;have tW:=mX P ci dF;have l6:=cT P.procs P.procs (ai P.main);obtain⟨Jx,Wl⟩:=P3 cR (c:=ci);have Wm:=P5 (by omega) ((dd P.procs ci).zip (ps.map (dT M))) (zB (fun h=>jV (Jx _ h) rfl));simp only[sQ,fy,lE]at h0 mI Wm;have gi:ae (eF P.procs P.procs (ai P.main))=true:=ee (eG _ _ _);generalize DM:eF P.procs P.procs (ai P.main)=BL at*;have zx:F.getD ci 0<0:=P0;generalize VN:ak.row [V.agg [.int .i64 n',.int .i64 k,.str r,.str t,.str v,.str lb,.int .i64 ek,.int .i64 en,.str es,.fs (aR.map bu),.fs (a.map encS),.fs (b.map encS),.str p,.fs (ps.map .str),.int .i64 ci,.fs ((num a (n'+1)).map (cb P.procs)),.fs ((num b (n'+1+ai a)).map (cb P.procs))]]=B1;generalize BJ:ak.row [V.agg [.int .i64 k,.str (dT M r),.str (dT M t),.str v,.str lb,.int .i64 ek,.int .i64 en,.str es,.fs (aR.map bu),.fs (a.map encS),.fs (b.map encS),.str p,.fs ((ps.map (dT M)).map .str)]]=B2;by_cases hz:rS P.procs ci=0
   ·have Uk:j9 P.procs ci=[]:=Hz (by simp only[rS]at hz;omega);rw[Uk,ep,append_nil]at HT;rw[hz,show((0:Nat):Int)=0 from rfl]at mI;simp -implicitDefEqProofs only[h0,h2,h7,dG,gy,cZ,an ao,aa ao hlen,hg,go_sem];repeat' (first | ((first | ((with_reducible first | refine bj qn ?_ ?_ | refine bj mI ?_ ?_);(·simp[ae,al,cm,vl,bf,ah,aq,aE,aS,aY,br,gi])) | ((with_reducible apply cj);(·simp -implicitDefEqProofs only[map_cons,map_nil,vl,bf,ah,aq,aE,aS,aY,br,gi,push_cast,go_sem_proc]<;>rfl);(with_reducible first | exact qn | exact mI);(·rfl)) | (with_reducible refine aD ?_));simp -implicitDefEqProofs only[h0,h2,h7,dG,gy,cZ,an ao,aa ao hlen,hg,vt,xZ,zx,jU,dF,decide_true,go_sem]) | (with_reducible refine aA.mk ?_ ?_) | (with_reducible refine And.intro ?_ ?_) | ((with_reducible refine bz ?_);simp -implicitDefEqProofs only[D6,push_cast,go_sem_proc]) | intro _)
    refine⟨rest.length,Nat.lt_succ_self _,lp++ [.mk k r t v lb (.mk ek en es aR) a b p ps],rest,kv,by simp[hl],rfl,by simp only[sQ,fy,lE,DM],rfl,by rw[rT];simp,?_⟩;rw[HT];exact bm.app _
   ·have Jj:¬(rS P.procs ci:Int)=0:=by omega
    simp -implicitDefEqProofs only[h0,h2,h7,dG,gy,cZ,an ao,aa ao hlen,hg,go_sem];repeat' (first | ((first | ((with_reducible first | refine bj qn ?_ ?_ | refine bj mI ?_ ?_);(·simp[ae,al,cm,vl,bf,ah,aq,aE,aS,aY,br,gi])) | ((with_reducible apply cj);(·simp -implicitDefEqProofs only[map_cons,map_nil,vl,bf,ah,aq,aE,aS,aY,br,gi,push_cast,go_sem_proc]<;>rfl);(with_reducible first | exact qn | exact mI);(·rfl)) | (with_reducible refine aD ?_));simp -implicitDefEqProofs only[h0,h2,h7,dG,gy,cZ,an ao,aa ao hlen,hg,vt,xZ,zx,jU,dF,decide_true,decide_false,Jj,DX,go_sem]) | (with_reducible refine aA.mk ?_ ?_) | (with_reducible refine And.intro ?_ ?_) | ((with_reducible refine bz ?_);simp -implicitDefEqProofs only[D6,push_cast,go_sem_proc]) | intro _)
    have cX:(dd P.procs ci).length<=9223372036854775807:=by rw[lx];omega
    refine aL (fun m e H'=>∃pre post,dd P.procs ci=pre++post/\m=post.length/\e 0=sQ (fy P E) F S/\e 2=mv/\e 7=kv/\e 9=.ptr H.length 0 0/\e 10=.ptr (H.length+1) 0 0/\e 11=.map (H.length+2)/\e 14=.fs ((num l n0).map (cb P.procs))/\e 15=.int .i64 (num l n0).length/\e 16=.int .i64 (num lp n0).length/\
     e 56=.fs ((dd P.procs ci).map .str)/\e 57=.int .i64 (dd P.procs ci).length/\e 58=.int .i64 pre.length/\H'=H++ [B1,B2,.mp (iA (pre.zip (ps.map (dT M)))) (iX (pre.zip (ps.map (dT M))))]) (dd P.procs ci).length
     ⟨[],dd P.procs ci,rfl,rfl,by simp[az,h0,sQ,fy,lE,DM],by simp[az,h2],by simp[az,h7],by simp[az],by simp[az],by simp[az],by simp[az,dG],by simp[az,gy],by simp[az,cZ],by simp[az],by simp[az],by simp[az],by rw[VN,BJ];rfl⟩ ?_
    clear h0 h2 h7 dG gy cZ;rintro m e H' ⟨pre,post,jA,rfl,h0,h2,h7,h9,eb,ez,dG,gy,cZ,xF,p8,oU,rfl⟩;simp only[sQ,fy,lE,DM]at h0;cases post with
    | cons q post=>
     have vS:=aO V.str jA;have XH:(ps.map (dT M)).getD pre.length ⟨#[]⟩=(ps.map (dT M)).getD pre.length ⟨#[]⟩:=rfl;have cR:pre.length<(ps.map (dT M)).length:=by simp only[length_map];rw[<-lx,jA];simp
     have eB:((ps.map (dT M)).map V.str).getD pre.length .any=.str ((ps.map (dT M)).getD pre.length ⟨#[]⟩):=by simp only[getD_eq_getElem?_getD,getElem?_map,getElem?_eq_getElem cR,Option.map_some,Option.getD_some]
     have hzt:=HS _ (ps.map (dT M)) pre post q jA (by simpa using lx);have dr:∀x∈pre.zip (ps.map (dT M)),x.1≠q:=by
      intro x hx e;rw[jA,nodup_append]at Wl;exact Wl.2.2 x.1 (of_mem_zip hx).1 q (by simp) e
     have KX:=ux q ((ps.map (dT M)).getD pre.length ⟨#[]⟩) (pre.zip (ps.map (dT M))) dr;have Wd:=qd q ((ps.map (dT M)).getD pre.length ⟨#[]⟩) (pre.zip (ps.map (dT M))) dr;have uk:=mH (pre.zip (ps.map (dT M))) q;rw[hzt]at KX Wd;have hlt2:pre.length<ps.length:=by simpa using cR
     subst BJ;simp -implicitDefEqProofs only[h0,h2,h7,h9,eb,ez,dG,gy,cZ,xF,p8,oU,an jA,aa jA cX,vS,eB,uk,KX,Wd,hlt2,length_map,decide_true,go_sem];exact⟨post.length,Nat.lt_succ_self _,pre++ [q],post,by simp[jA],rfl,by simp only[sQ,fy,lE,DM],by simp,rfl⟩
    | nil=>
     have ev:pre=dd P.procs ci:=by rw[jA];simp
     subst ev;simp -implicitDefEqProofs only[h0,h2,h7,h9,eb,ez,dG,gy,cZ,xF,p8,oU,aI jA,go_sem];generalize hQ:(dd P.procs ci).zip (ps.map (dT M))=M' at*;obtain⟨ky,jO⟩:=KZ (H:=H) (B1:=B1) (B2:=B2) M';refine Ys [H.length+2] (by show fz _ 20 (e 11)=_;rw[ez];exact ky) ?_;rw[jO];subst VN BJ;simp -implicitDefEqProofs only[h0,h2,h7,h9,eb,ez,dG,gy,cZ,xF,p8,oU,tW,l6,dF,decide_true,dB,dC,bf,ah,aq,aE,aS,aY,br,gi,go_sem];refine sn (by simp[ae,al,gi,dB,dC,bf,ah,aq,aE,aS,aY,br]) Wm ?_;simp -implicitDefEqProofs only[h0,h2,h7,h9,eb,ez,dG,gy,cZ,go_sem];refine⟨mf _,?_⟩;have hcl3:(ep (dT M') (j9 P.procs ci)).length<=2000:=by have:=eh (ep (dT M') (j9 P.procs ci));rw[gx]at this;omega
     refine cu (bm.app _) (fun i o l h=>by cases h) (cx _) (by simp only[length_map];omega) ?_;rintro bN H2 bo hle cp;simp -implicitDefEqProofs only[h0,h2,h7,h9,eb,ez,dG,gy,cZ,aa ao hlen,go_sem];refine⟨rest.length,Nat.lt_succ_self _,lp++ [.mk k r t v lb (.mk ek en es aR) a b p ps],rest,bN,by simp[hl],rfl,by simp only[sQ,fy,lE,DM],rfl,by rw[rT];simp,?_⟩;rw[HT,map_append];exact bo
  ·have oO:cE P.procs [.mk k r t v lb (.mk ek en es aR) a b p ps]=[.mk k r t v lb (.mk ek en es aR) (cE P.procs a) (cE P.procs b) p ps]:=by
    simp only[cE,lO,zW,if_neg eT,append_nil]
   have Wn:ep (dT M) (cE P.procs (lp++ [.mk k r t v lb (.mk ek en es aR) a b p ps]))=ep (dT M) (cE P.procs lp)++ [.mk k (dT M r) (dT M t) v lb (.mk ek en es aR) (ep (dT M) (cE P.procs a)) (ep (dT M) (cE P.procs b)) p (ps.map (dT M))]:=by
    rw[HT,oO,ep,ep,oX,xu Q6,xu Q6]
   have ha:=(pg k r t v lb (.mk ek en es aR) a b p ps da eT (n'+1)).1;have hb:=(pg k r t v lb (.mk ek en es aR) a b p ps da eT (n'+1+ai a)).2;simp only[sQ]at h0 ha hb;have Xd:=fun H x=>eg H 17 x
   rw[oO]at OS;simp only[ai,dA]at OS;by_cases dW:0<=kI P.procs k p
   ·obtain⟨ci,HJ⟩:∃ci:Nat,kI P.procs k p=ci:=⟨(kI P.procs k p).toNat,by omega⟩;have dF:=Ci dW;rw[HJ]at hg dF eT;simp only[Int.toNat_natCast]at dF eT;have vt:(0:Int)<=(ci:Int):=by omega
    have zx:¬F.getD ci 0<0:=fun h=>eT ⟨vt,(nf ci dF).1 h⟩
    have xZ:=ik (S:=F) (c:=ci) (by omega);simp -implicitDefEqProofs only[h0,h2,h7,dG,gy,cZ,an ao,aa ao hlen,hg,go_sem];repeat' (first | ((first | ((with_reducible first | refine bj qn ?_ ?_ | refine bj ha ?_ ?_ | refine bj hb ?_ ?_);(·simp[ae,al,cm,vl,bf,ah,aq,aE,aS,aY,br,GC])) | ((with_reducible apply cj);(·simp -implicitDefEqProofs only[map_cons,map_nil,vl,bf,ah,aq,aE,aS,aY,br,GC,push_cast,go_sem_proc]<;>rfl);(with_reducible first | exact qn | exact ha | exact hb);(·rfl)) | (with_reducible refine aD ?_));simp -implicitDefEqProofs only[h0,h2,h7,dG,gy,cZ,an ao,aa ao hlen,hg,vt,xZ,zx,jU,dF,decide_true,decide_false,go_sem]) | (with_reducible refine aA.mk ?_ ?_) | (with_reducible refine And.intro ?_ ?_) | ((with_reducible refine bz ?_);simp -implicitDefEqProofs only[D6,push_cast,go_sem_proc]) | intro _)
    refine cu (bm.app _) (fun i o l h=>by cases h) (cx _) (by simp only[length_map,length_cons,length_nil];omega) ?_;rintro bN H2 bo hle cp;simp -implicitDefEqProofs only[h0,h2,h7,dG,gy,cZ,aa ao hlen,go_sem];refine⟨rest.length,Nat.lt_succ_self _,lp++ [.mk k r t v lb (.mk ek en es aR) a b p ps],rest,bN,by simp[hl],rfl,rfl,rfl,by rw[rT];simp,?_⟩;rw[Wn,map_append,map_singleton,ay];exact bo
   ·simp -implicitDefEqProofs only[h0,h2,h7,dG,gy,cZ,an ao,aa ao hlen,hg,go_sem];repeat' (first | ((first | ((with_reducible first | refine bj qn ?_ ?_ | refine bj ha ?_ ?_ | refine bj hb ?_ ?_);(·simp[ae,al,cm,vl,bf,ah,aq,aE,aS,aY,br,GC])) | ((with_reducible apply cj);(·simp -implicitDefEqProofs only[map_cons,map_nil,vl,bf,ah,aq,aE,aS,aY,br,GC,push_cast,go_sem_proc]<;>rfl);(with_reducible first | exact qn | exact ha | exact hb);(·rfl)) | (with_reducible refine aD ?_));simp -implicitDefEqProofs only[h0,h2,h7,dG,gy,cZ,an ao,aa ao hlen,hg,dW,decide_true,decide_false,go_sem]) | (with_reducible refine aA.mk ?_ ?_) | (with_reducible refine And.intro ?_ ?_) | ((with_reducible refine bz ?_);simp -implicitDefEqProofs only[D6,push_cast,go_sem_proc]) | intro _)
    refine cu (bm.app _) (fun i o l h=>by cases h) (cx _) (by simp only[length_map,length_cons,length_nil];omega) ?_;rintro bN H2 bo hle cp;simp -implicitDefEqProofs only[h0,h2,h7,dG,gy,cZ,aa ao hlen,go_sem];refine⟨rest.length,Nat.lt_succ_self _,lp++ [.mk k r t v lb (.mk ek en es aR) a b p ps],rest,bN,by simp[hl],rfl,rfl,rfl,by rw[rT];simp,?_⟩;rw[Wn,map_append,map_singleton,ay];exact bo
end Go.Proofs.YtdgoeblpcnjlbaaGreatDoor.Av

/- ReadsFound. Text 3 of 17. -/
import Derived.Test.YtdgoeblpcnjlbaaGreatDoorM2
set_option linter.all false
set_option maxRecDepth 100000
set_option maxHeartbeats 64000000
namespace Go.Proofs.YtdgoeblpcnjlbaaGreatDoor.Av
open Go.RowKit List
mutual
def plain:V->Bool
 | .bool _ | .int _ _ | .str _ | .kb | .ag | .emp | .cG | .qH | .x7 | .iP | .any=>true
 | .fs l=>l.isEmpty
 | .agg l | .dJ l=>wJ l
 | _=>false
def wJ:List V->Bool
 | []=>true
 | v::l=>plain v && wJ l
end
mutual
theorem eU {B B':List Pl} {I:IM}:∀{x:V} {v:Value},al x=true->aU B I x v->aU B' I x v
 | .any,_,_,h=>by simp[aU]
 | .iP,_,_,h=>by simpa[aU]using h
 | .bool _,_,_,h=>by simpa[aU]using h
 | .int _ _,_,_,h=>by simpa[aU]using h
 | .str _,_,_,h=>by simpa[aU]using h
 | .kb,_,_,h=>by simpa[aU]using h
 | .ptr _ _ _,_,hn,_=>by simp[al]at hn
 | .ms _ _ _,_,hn,_=>by simp[al]at hn
 | .map _,_,hn,_=>by simp[al]at hn
 | .bc cells,_,hn,h=>by
  simp only[aU,al]at*;obtain⟨b,o,h1,h2⟩:=h;exact⟨b,o,h1,jH hn h2⟩
 | .ag,_,_,h=>by simpa[aU]using h
 | .emp,_,_,h=>by simpa[aU]using h
 | .fs elems,_,hn,h=>by
  simp only[aU,al]at*;obtain⟨a,cap,h1,h2,h3,h4⟩:=h;refine⟨a,cap,h1,h2,h3,?_⟩;rcases h4 with h4 | ⟨b,o,sz,h5,h6⟩
  ·exact .inl h4
  ·exact .inr ⟨b,o,sz,h5,gf hn h6⟩
 | .cG,_,_,h=>by simpa[aU]using h
 | .db ks vs,_,hn,h=>by
  simp only[aU,al,Bool.and_eq_true]at*;obtain⟨b,es,clock,h1,h2,h0,h3,h4⟩:=h;exact⟨b,es,clock,h1,h2,h0,dD hn.1 h3,dD hn.2 h4⟩
 | .qH,_,_,h=>by simpa[aU]using h
 | .a6 f first bB,_,hn,h=>by
  simp only[aU,al,Bool.and_eq_true]at*;obtain⟨fs,cs,h1,h2,h3⟩:=h;exact⟨fs,cs,h1,dD hn.1 h2,dD hn.2 h3⟩
 | .agg cells,_,hn,h=>by
  simp only[aU,al]at*;obtain⟨cs,h1,h2⟩:=h;exact⟨cs,h1,dD hn h2⟩
 | .dJ cells,_,hn,h=>by
  simp only[aU,al]at*;obtain⟨cs,h1,h2⟩:=h;exact⟨cs,h1,dD hn h2⟩
 | .x7,_,_,h=>by simpa[aU]using h
 | .iface t x,_,hn,h=>by
  simp only[aU,al]at*;obtain⟨u,h1,h2⟩:=h;exact⟨u,h1,eU hn h2⟩
theorem dD {B B':List Pl} {I:IM}:∀{xs:List V} {l:List Value},ae xs=true->aV B I xs l->aV B' I xs l
 | [],_,_,h=>by simpa[aV]using h
 | c::cs,_,hn,h=>by
  simp only[aV,ae,Bool.and_eq_true]at*;obtain⟨v,vs,h1,h2,h3⟩:=h;exact⟨v,vs,h1,eU hn.1 h2,dD hn.2 h3⟩
theorem jH {B B':List Pl} {I:IM}:∀{xs:List V} {g:Nat->Option Value} {o:Nat},ae xs=true->cI B I xs g o->cI B' I xs g o
 | [],_,_,_,h=>by simp[cI]
 | c::cs,_,_,hn,h=>by
  simp only[cI,ae,Bool.and_eq_true]at*;obtain⟨⟨v,h1,h2⟩,h3⟩:=h;exact⟨⟨v,h1,eU hn.1 h2⟩,jH hn.2 h3⟩
theorem gf {B B':List Pl} {I:IM}:∀{xs:List V} {g:Nat->Option Value} {sz o:Nat},ae xs=true->bK B I xs g sz o->bK B' I xs g sz o
 | [],_,_,_,_,h=>by simp[bK]
 | .agg cs::es,_,_,_,hn,h=>by
  simp only[bK,ae,al,Bool.and_eq_true]at*;exact⟨h.1,jH hn.1 h.2.1,gf hn.2 h.2.2⟩
 | e::es,_,_,_,hn,h=>by
  simp only[ae,Bool.and_eq_true]at hn;have he:∀v,aU B I e v->aU B' I e v:=fun v hv=>eU hn.1 hv
  have ly:=fun g sz o=>gf (B:=B) (B':=B') (I:=I) (xs:=es) (g:=g) (sz:=sz) (o:=o) hn.2
  cases e with
  | agg cs=>
   simp only[bK,al]at*;exact⟨h.1,jH hn.1 h.2.1,ly _ _ _ h.2.2⟩
  | _=>
   simp only[bK]at*;obtain⟨h0,⟨v,h1,h2⟩,h3⟩:=h;exact⟨h0,⟨v,h1,he v h2⟩,ly _ _ _ h3⟩
end
mutual
theorem vD {B B':List Pl} {I I':IM}:∀{x:V} {v:Value},plain x=true->aU B I x v->aU B' I' x v
 | .any,_,_,h=>by simp[aU]
 | .iP,_,_,h=>by simpa[aU]using h
 | .bool _,_,_,h=>by simpa[aU]using h
 | .int _ _,_,_,h=>by simpa[aU]using h
 | .str _,_,_,h=>by simpa[aU]using h
 | .kb,_,_,h=>by simpa[aU]using h
 | .ag,_,_,h=>by simpa[aU]using h
 | .emp,_,_,h=>by simpa[aU]using h
 | .cG,_,_,h=>by simpa[aU]using h
 | .qH,_,_,h=>by simpa[aU]using h
 | .x7,_,_,h=>by simpa[aU]using h
 | .fs elems,_,hn,h=>by
  simp only[plain,List.isEmpty_iff]at hn;subst hn;simpa[aU]using h
 | .agg cells,_,hn,h=>by
  simp only[aU,plain]at*;obtain⟨cs,h1,h2⟩:=h;exact⟨cs,h1,nX hn h2⟩
 | .dJ cells,_,hn,h=>by
  simp only[aU,plain]at*;obtain⟨cs,h1,h2⟩:=h;exact⟨cs,h1,nX hn h2⟩
 | .ptr _ _ _,_,hn,_=>by simp[plain]at hn
 | .ms _ _ _,_,hn,_=>by simp[plain]at hn
 | .map _,_,hn,_=>by simp[plain]at hn
 | .bc _,_,hn,_=>by simp[plain]at hn
 | .db _ _,_,hn,_=>by simp[plain]at hn
 | .a6 _ _ _,_,hn,_=>by simp[plain]at hn
 | .iface _ _,_,hn,_=>by simp[plain]at hn
theorem nX {B B':List Pl} {I I':IM}:∀{xs:List V} {l:List Value},wJ xs=true->aV B I xs l->aV B' I' xs l
 | [],_,_,h=>by simpa[aV]using h
 | c::cs,_,hn,h=>by
  simp only[aV,wJ,Bool.and_eq_true]at*;obtain⟨v,vs,h1,h2,h3⟩:=h;exact⟨v,vs,h1,vD hn.1 h2,nX hn.2 h3⟩
end
theorem kj {g:V->Option V}:∀{l l':List V},eI g l=some l'->l'.length=l.length/\∀(j:Nat) x',l'[j]? =some x'->∃x,l[j]? =some x/\g x=some x'
 | [],l',h=>by simp[eI]at h;subst h;simp
 | v::l,l',h=>by
  simp only[eI]at h;split at h
  ·rename_i x xs h1 h2;cases h;obtain⟨h3,h4⟩:=kj h2;refine⟨by simp[h3],fun j x' hj=> ?_⟩;cases j with
   | zero=>simp at hj;subst hj;exact⟨v,by simp,h1⟩
   | succ j=>simpa using h4 j x' (by simpa using hj)
  ·cases h
theorem Aj {f:Fr} {B:List Pl} {I I2:IM} {w:World} {H:List ak} (hs:cD f B I w H) (hI:dY I I2)
 (Fi:∀(id:Nat) p b,B[id]? =some p->H[id]? =some b->b.live=true->I2 p.dI=w.heap[p.dI]?):∀(n:Nat) {v v':V} {x:Value},fz H n v=some v'->aU B I v x->aU [] I2 v' x:=by
 intro n;induction n with
 | zero=>intro v v' x h;simp[fz]at h
 | succ n ih=>
  have hl:∀{l l':List V} {xs:List Value},eI (fz H n) l=some l'->aV B I l xs->aV [] I2 l' xs:=by
   intro l l' xs h hr;obtain⟨h1,h2⟩:=kj h;rw[il]at hr⊢;refine⟨by rw[h1];exact hr.1,fun j c hj=> ?_⟩;obtain⟨y,h3,h4⟩:=h2 j c hj;obtain⟨u,h5,h6⟩:=hr.2 j y h3;exact⟨u,h5,ih h4 h6⟩
  have keep:∀{v v':V} {x:Value},(if al v then some v else none)=some v'->aU B I v x->aU [] I2 v' x:=by
   intro v v' x h hr;split at h
   ·rename_i hn;cases h;exact(eU hn hr).mono (eA.refl _) hI
   ·cases h
  intro v v' x h hr;cases v with
  | ag=>
   simp only[fz]at h;cases h;simp only[aU]at hr;subst hr;simp only[aU];exact⟨none,0,rfl,by simp,by simp,by simp⟩
  | emp=>
   simp only[fz]at h;cases h;simp only[aU]at hr;obtain⟨a,rfl⟩:=hr;simp only[aU];exact⟨a,0,rfl,by simp,by simp,by simp⟩
  | ptr id i c=>
   simp only[fz]at h;split at h
   ·rename_i es hH;split at h
    ·rename_i hc;cases hq:eI (fz H n) ((aw (es.getD i .any)).drop c)with
     | none=>rw[hq]at h;cases h
     | some l=>
      rw[hq]at h;cases h;simp only[aU]at hr⊢;obtain⟨p,hp,hv⟩:=hr;obtain⟨carr,tt,hh,_,_,_,cr⟩:=sX (c:=c) (n:=0) hs hp hH hc.1 (by omega);refine⟨_,_,hv,?_⟩;obtain⟨h1,h2⟩:=kj hq;rw[fg];intro j y hj;obtain⟨z,h3,h4⟩:=h2 j y hj;rw[List.getElem?_drop]at h3;obtain⟨u,h5,h6⟩:=cr _ z h3;refine⟨u,?_,ih h4 h6⟩;unfold jD
      rw[Fi id p _ hp hH rfl,hh];simp only;rw[<-h5];congr 1;omega
    ·cases h
   ·cases h
  | ms id off len=>
   simp only[fz]at h;split at h
   ·rename_i es hH;split at h
    ·rename_i hc;cases hq:eI (fz H n) ((es.drop off).take len)with
     | none=>rw[hq]at h;cases h
     | some l=>
      rw[hq]at h;cases h;simp only[aU]at hr⊢;obtain⟨p,ad,cap,hp,hv,s4,Ib,iQ,nD⟩:=hr;obtain⟨h1,h2⟩:=kj hq;have MD:l.length=len:=by rw[h1,List.length_take,List.length_drop];omega
      refine⟨ad,cap,by rw[MD];exact hv,by omega,iQ,?_⟩;by_cases hz:l=[]
      ·exact .inl hz
      ·right;have gp:0<l.length:=List.length_pos_iff.2 hz;have had:=s4 (by omega);refine⟨p.dI,p.base+off*p.esz,p.esz,had,?_⟩;obtain⟨carr,tt,hh,eW,hcf,IW⟩:=hs.ok id p _ hp hH;rw[ch]at IW⊢;intro i y hi;obtain⟨z,h3,h4⟩:=h2 i y hi;rw[List.getElem?_take]at h3;split at h3
       ·rw[List.getElem?_drop]at h3;obtain⟨h5,h6⟩:=IW _ z h3;have Fj:(aw y).length=(aw z).length/\∀(j:Nat) c',(aw y)[j]? =some c'->∃c,(aw z)[j]? =some c/\∀u,aU B I c u->aU [] I2 c' u:=by
         have one:∀{z y:V},fz H n z=some y->(∀cs,z≠ .agg cs)->(∀cs,y≠ .agg cs):=by
          intro z y h hz cs hy;subst hy;cases n with
          | zero=>simp[fz]at h
          | succ n=>
           cases z<;>simp only[fz]at h<;>first
            | exact hz _ rfl
            | (split at h<;>first | (split at h<;>first | (cases hq:eI (fz H n) _<;>rw[hq]at h<;>cases h) | cases h) | cases h)
            | (cases hq:eI (fz H n) _<;>rw[hq]at h<;>cases h)
            | (split at h<;>cases h)
            | cases h
         by_cases xQ:∃cs,z=.agg cs
         ·obtain⟨cs,rfl⟩:=xQ;cases n with
          | zero=>simp[fz]at h4
          | succ n=>
           simp only[fz]at h4;cases jI:eI (fz H n) cs with
           | none=>rw[jI]at h4;cases h4
           | some l2=>
            rw[jI]at h4;cases h4;obtain⟨h7,h8⟩:=kj jI;refine⟨h7,fun j c' hj=> ?_⟩;obtain⟨c,h9,eb⟩:=h8 j c' hj;refine⟨c,h9,fun u hu=> ?_⟩;have:fz H (n+1) (.agg [c])=some (.agg [c']):=by simp[fz,eI,eb]
            have ez:=ih (v:=.agg [c]) (v':=.agg [c']) (x:=.agg #[u]) this (by simp only[aU];exact⟨_,rfl,by simp only[aV];exact⟨u,[],rfl,hu,rfl⟩⟩);simp only[aU,aV]at ez;obtain⟨cs2,dU,v2,vs2,eV,dG,gy⟩:=ez;cases dU;simp at eV;obtain⟨rfl,_⟩:=eV;exact dG
         ·have qJ:∀cs,z≠ .agg cs:=fun cs h=>xQ ⟨cs,h⟩
          have hy':=one h4 qJ;have e1:aw z=[z]:=by cases z<;>first | rfl | exact absurd rfl (qJ _)
          have e2:aw y=[y]:=by cases y<;>first | rfl | exact absurd rfl (hy' _)
          rw[e1,e2];refine⟨rfl,fun j c' hj=> ?_⟩;cases j with
          | zero=>simp at hj;subst hj;exact⟨z,by simp,fun u hu=>ih h4 hu⟩
          | succ j=>simp at hj
        refine⟨by rw[Fj.1];exact h5,fun j c' hj=> ?_⟩;obtain⟨c,h7,h8⟩:=Fj.2 j c' hj;obtain⟨u,h9,eb⟩:=h6 j c h7;refine⟨u,?_,h8 u eb⟩;unfold jD
        rw[Fi id p _ hp hH rfl,hh];simp only;rw[<-h9];congr 1;rw[Nat.add_mul];omega
       ·cases h3
    ·cases h
   ·cases h
  | map id=>
   simp only[fz]at h;split at h
   ·rename_i ks vs hH;split at h
    ·rename_i a' b' ha hb;cases h;simp only[aU]at hr⊢;obtain⟨p,hp,hv⟩:=hr;obtain⟨es,clock,h1,h0,h2,h3⟩:=hs.ok id p _ hp hH;exact⟨p.dI,es,clock,hv,by rw[Fi id p _ hp hH rfl,h1],h0.bn,hl ha h2,hl hb h3⟩
    ·cases h
   ·cases h
  | agg cs=>
   simp only[fz]at h;cases hq:eI (fz H n) cs with
   | none=>rw[hq]at h;cases h
   | some l=>
    rw[hq]at h;cases h;simp only[aU]at hr⊢;obtain⟨vs,h1,h2⟩:=hr;exact⟨vs,h1,hl hq h2⟩
  | dJ cs=>
   simp only[fz]at h;cases hq:eI (fz H n) cs with
   | none=>rw[hq]at h;cases h
   | some l=>
    rw[hq]at h;cases h;simp only[aU]at hr⊢;obtain⟨vs,h1,h2⟩:=hr;exact⟨vs,h1,hl hq h2⟩
  | a6 g a b=>
   simp only[fz]at h;split at h
   ·rename_i a' b' ha hb;cases h;simp only[aU]at hr⊢;obtain⟨fs,cs,h1,h2,h3⟩:=hr;exact⟨fs,cs,h1,hl ha h2,hl hb h3⟩
   ·cases h
  | _=>simp only[fz]at h;exact keep h hr
theorem cg (D:List Nat) (H:List ak) (id:Nat):(cQ D H)[id]? =(H[id]?).map fun b=>if D.contains id then b else .dead:=by
 simp[cQ]
theorem gq:∀(D:List Nat) (H:List ak),(bO D H).length=H.length
 | [],H=>rfl
 | d::D,H=>by rw[bO,gq D];simp
theorem de:∀(D:List Nat) (H:List ak) (i:Nat),(bO D H)[i]? =if D.contains i=true/\i<H.length then some .dead else H[i]?
 | [],H,i=>by simp[bO]
 | d::D,H,i=>by
  rw[bO,de D,List.getElem?_set];by_cases hd:d=i
  ·subst hd;by_cases hl:d<H.length
   ·simp[hl]
   ·simp[hl]
  ·have sl:¬i=d:=fun h=>hd h.symm
   simp[hd,sl]
theorem cD.mask {f:Fr} {B:List Pl} {I:IM} {w:World} {H H':List ak} (h:cD f B I w H) (hl:H'.length=H.length) (hp:∀(i:Nat) b,H'[i]? =some b->b=.dead\/H[i]? =some b):cD f B I w H' where
 len:=by rw[hl];exact h.len
 lH:=h.lH
 wy:=h.wy
 dZ:=h.dZ
 os:=h.os
 tape:=h.tape
 output:=h.output
 size:=h.size
 keep:=h.keep
 ok i q c h1 h2:=by
  rcases hp i c h2 with rfl | h3
  ·trivial
  ·exact h.ok i q c h1 h3
 sep i j q r c d h1 h2 h3 h4 hc hd he:=by
  rcases hp i c h3 with rfl | h5
  ·cases hc
  ·rcases hp j d h4 with rfl | h6
   ·cases hd
   ·exact h.sep i j q r c d h1 h2 h5 h6 hc hd he
 own i q c h1 h2 hl:=by
  rcases hp i c h2 with rfl | h3
  ·cases hl
  ·exact h.own i q c h1 h3 hl
theorem cD.freeze {f:Fr} {B:List Pl} {I:IM} {w:World} {H:List ak} (hs:cD f B I w H) (D:List Nat):
 ∃I2,dY I I2/\cD f B I2 w (bO D H)/\∀(n:Nat) {v v':V} {x:Value},fz (cQ D H) n v=some v'->aU B I v x->aU [] I2 v' x:=by
 classical
 let S:Nat->Prop:=fun b=>∃(id:Nat) (p:Pl) (c:ak),D.contains id=true/\B[id]? =some p/\H[id]? =some c/\c.live=true/\p.dI=b
 let I2:IM:=fun b=>if S b then w.heap[b]? else I b
 have hIS:∀b,S b->I b=none/\(f.w0.heap.size<=b\/f.M b):=by
  rintro b ⟨id,p,es,_,hp,hH,hc,rfl⟩;obtain⟨h1,h2,_⟩:=hs.own id p _ hp hH hc;exact⟨h1,h2⟩
 have hI:dY I I2:=by
  intro b o hb;show(if S b then w.heap[b]? else I b)=some o;by_cases hS:S b
  ·rw[(hIS b hS).1]at hb;cases hb
  ·rw[if_neg hS];exact hb
 have u5:cD f B I w (bO D H):=hs.mask (gq D H) (fun i b hb=>by
  rw[de]at hb;split at hb
  ·cases hb;exact .inl rfl
  ·exact .inr hb)
 have z8:cD f B I w (cQ D H):=hs.mask (by simp[cQ]) (fun i b hb=>by
  rw[cg]at hb;cases hH:H[i]? with
  | none=>rw[hH]at hb;cases hb
  | some c=>
   rw[hH]at hb;simp only[Option.map_some,Option.some.injEq]at hb;split at hb
   ·subst hb;exact .inr rfl
   ·exact .inl hb.symm)
 refine⟨I2,hI,?_,?_⟩
 ·constructor
  ·exact u5.len
  ·intro b o hb;have hb:(if S b then w.heap[b]? else I b)=some o:=hb;split at hb
   ·exact hb
   ·exact hs.lH b o hb
  ·exact hs.wy.trans hI
  ·intro b h1 h2;have h2:(if S b then w.heap[b]? else I b)≠none:=h2;split at h2
   ·rename_i hS;exact(hIS b hS).2
   ·exact hs.dZ b h1 h2
  ·exact hs.os
  ·exact hs.tape
  ·exact hs.output
  ·exact hs.size
  ·exact hs.keep
  ·intro i p b h1 h2;exact(u5.ok i p b h1 h2).mono (eA.refl _) hI (fun _=>rfl)
  ·exact u5.sep
  ·intro i p c h1 h2 hl;obtain⟨h3,h4,h5⟩:=u5.own i p c h1 h2 hl;refine⟨?_,h4,h5⟩;show(if S p.dI then w.heap[p.dI]? else I p.dI)=none;rw[if_neg]
   ·exact h3
   ·rintro⟨id,q,es,hD,hq,hH,hc,he⟩;rw[de]at h2;split at h2
    ·cases h2;cases hl
    ·rename_i Yb;have:=hs.sep id i q p _ c hq h1 hH h2 hc hl he;subst this;exact Yb ⟨hD,(List.getElem?_eq_some_iff.1 hH).1⟩
 ·intro n v v' x hf hr;refine Aj z8 hI ?_ n hf hr;intro id p es hp hH eT;rw[cg]at hH;cases Yc:H[id]? with
  | none=>rw[Yc]at hH;cases hH
  | some c=>
   rw[Yc]at hH;simp only[Option.map_some,Option.some.injEq]at hH;split at hH
   ·rename_i hD;subst hH;show(if S p.dI then w.heap[p.dI]? else I p.dI)=w.heap[p.dI]?;rw[if_pos ⟨id,p,_,hD,hp,Yc,eT,rfl⟩]
   ·subst hH;cases eT
inductive fW where
 | post (K:Exit->Env->List ak->Prop)
 | seq (b:aB) (k:fW)
 | block (id:Nat) (k:fW)
 | loop (Inv:Nat->Env->List ak->Prop) (m:Nat) (k:fW)
inductive K9 where
 | code (c:aB) (e:Env) (H:List ak) (k:fW)
 | ops (l:List cK) (e:Env) (H:List ak) (k:fW)
 | app (k:fW) (x:Exit) (e:Env) (H:List ak)
def yz (G:K9->Prop) (rest:List cK) (d:Option Nat) (e:Env) (k:fW):V->List ak->Prop:=fun r H=>G (.ops rest (fh e d r) H k)
def yA (P:Program) (G:K9->Prop) (ss:List QO) (k:fW):List (Env×V)->List (List ak)->Env->List ak->Prop:=
 fun tr Hs e H=>pv P ss tr Hs/\G (.app k .normal e H)
def Fk:Option V->Nat->V
 | some _,n=> .ptr n 0 0
 | none,n=> .map n
def RA:Option V->ak
 | some z=> .row [z]
 | none=> .mp [] []
def Fl (P:Program) (G:K9->Prop) (ss:List QO) (t:Nat) (z:Option V) (tail:List cK) (k:fW):List (Env×V)->List (List ak)->Env->List ak->Prop:=
 fun tr Hs e H=>pv P ss tr Hs/\G (.ops tail (az e t (Fk z H.length)) (H++ [RA z]) k)
def F (P:Program):Nat->K9->Prop
 | 0=>fun _=>False
 | n+1=>fun cfg=>match cfg with
  | .code .skip e H k=>F P n (.app k .normal e H)
  | .code (.region l) e H k=>F P n (.ops l e H k)
  | .code (.qregion l) e H k=>kh P l e H [H] [] (yA P (F P n) l k)
  | .code (.fregion t l) e H k=>∃D v',fz (cQ D H) 20 (e t)=some v'/\kh P l (az e t v') (bO D H) [bO D H] [] (yA P (F P n) l k)
  | .code (.pregion l t ia z tail) e H k=>kh P l e H [H] [] (Fl P (F P n) l t z tail k)
  | .code (.seq a b) e H k=>F P n (.code a e H (.seq b k))
  | .code (.cond c t f) e H k=>match c,dp e c with
   | .tmp i,.bool b=>aA b (F P n (.code t (az e i (.bool true)) H k)) (F P n (.code f (az e i (.bool false)) H k))
   | .val _,.bool b=>aA b (F P n (.code t e H k)) (F P n (.code f e H k))
   | _,_=>False
  | .code (.block id c) e H k=>F P n (.code c e H (.block id k))
  | .code (.loop c) e H k=>∃(Inv:Nat->Env->List ak->Prop) (m:Nat),Inv m e H/\∀m e H,Inv m e H->F P n (.code c e H (.loop Inv m k))
  | .code (.exit id) e H k=>F P n (.app k (.exit id) e H)
  | .code .ret e H k=>F P n (.app k .ret e H)
  | .ops [] e H k=>F P n (.app k .normal e H)
  | .ops (o::rest) e H k=>match o.guard with
   | none=>bd P o.op e H (yz (F P n) rest o.dst e k)
   | some (t,want)=>match e t with
    | .bool b=>if want then aA b (bd P o.op (az e t (.bool true)) H (yz (F P n) rest o.dst (az e t (.bool true)) k)) (F P n (.ops rest (fh (az e t (.bool false)) o.dst .iP) H k))
       else aA b (F P n (.ops rest (fh (az e t (.bool true)) o.dst .iP) H k)) (bd P o.op (az e t (.bool false)) H (yz (F P n) rest o.dst (az e t (.bool false)) k))
    | .iP=>F P n (.ops rest (fh e o.dst .iP) H k)
    | _=>False
  | .app (.post K) x e H=>K x e H
  | .app (.seq b k) .normal e H=>F P n (.code b e H k)
  | .app (.seq b k) x e H=>F P n (.app k x e H)
  | .app (.block id k) (.exit i) e H=>if i=id then F P n (.app k .normal e H)else F P n (.app k (.exit i) e H)
  | .app (.block id k) x e H=>F P n (.app k x e H)
  | .app (.loop Inv m k) .normal e H=>∃m',m'<m/\Inv m' e H
  | .app (.loop Inv m k) x e H=>F P n (.app k x e H)
section
variable {P:Program} {n:Nat} {e:Env} {H:List ak} {k:fW}
theorem MZ:F P (n+1) (.code .skip e H k)=F P n (.app k .normal e H):=by rw[F]
theorem Fm {l:List cK}:F P (n+1) (.code (.region l) e H k)=F P n (.ops l e H k):=by rw[F]
theorem vE {l:List QO}:F P (n+1) (.code (.qregion l) e H k)=kh P l e H [H] [] (yA P (F P n) l k):=by rw[F]
theorem vF {t:Nat} {l:List QO}:F P (n+1) (.code (.fregion t l) e H k)=∃D v',fz (cQ D H) 20 (e t)=some v'/\kh P l (az e t v') (bO D H) [bO D H] [] (yA P (F P n) l k):=by rw[F]
theorem vG {l:List QO} {t ia:Nat} {z:Option V} {st:List cK}:F P (n+1) (.code (.pregion l t ia z st) e H k)=kh P l e H [H] [] (Fl P (F P n) l t z st k):=by rw[F]
theorem I6 {G:K9->Prop} {ss:List QO} {t:Nat} {z:V} {st:List cK} {tr:List (Env×V)} {Hs:List (List ak)}:Fl P G ss t (some z) st k tr Hs e H=(pv P ss tr Hs/\G (.ops st (az e t (.ptr H.length 0 0)) (H++ [.row [z]]) k)):=rfl
theorem I7 {G:K9->Prop} {ss:List QO} {tr:List (Env×V)} {Hs:List (List ak)}:yA P G ss k tr Hs e H=(pv P ss tr Hs/\G (.app k .normal e H)):=rfl
theorem RB {a b:aB}:F P (n+1) (.code (.seq a b) e H k)=F P n (.code a e H (.seq b k)):=by rw[F]
theorem Fp {i:Nat} {t f:aB}:F P (n+1) (.code (.cond (.tmp i) t f) e H k)=(match e i with
 | .bool b=>aA b (F P n (.code t (az e i (.bool true)) H k)) (F P n (.code f (az e i (.bool false)) H k))
 | _=>False):=by
 rw[F];show(match (SX.tmp i),dp e (.tmp i)with | .tmp i,.bool b=>_ | .val _,.bool b=>_ | _,_=>False)=_
 simp only[dp];cases e i<;>rfl
theorem I8 {id:Nat} {c:aB}:F P (n+1) (.code (.block id c) e H k)=F P n (.code c e H (.block id k)):=by rw[F]
theorem M0 {id:Nat}:F P (n+1) (.code (.exit id) e H k)=F P n (.app k (.exit id) e H):=by rw[F]
theorem RC:F P (n+1) (.code .ret e H k)=F P n (.app k .ret e H):=by rw[F]
theorem La:F P (n+1) (.ops [] e H k)=F P n (.app k .normal e H):=by rw[F]
theorem I9 {d:Option Nat} {o:o5} {rest:List cK}:F P (n+1) (.ops (⟨d,o,none⟩::rest) e H k)=bd P o e H (yz (F P n) rest d e k):=by rw[F]
theorem By {d:Option Nat} {o:o5} {rest:List cK} {t:Nat}:F P (n+1) (.ops (⟨d,o,some (t,true)⟩::rest) e H k)=(match e t with
 | .bool b=>aA b (bd P o (az e t (.bool true)) H (yz (F P n) rest d (az e t (.bool true)) k)) (F P n (.ops rest (fh (az e t (.bool false)) d .iP) H k))
 | .iP=>F P n (.ops rest (fh e d .iP) H k)
 | _=>False):=by
 rw[F];show(match e t with | .bool b=>_ | .iP=>_ | _=>False)=_
 cases e t<;>rfl
theorem Bz {d:Option Nat} {o:o5} {rest:List cK} {t:Nat}:F P (n+1) (.ops (⟨d,o,some (t,false)⟩::rest) e H k)=(match e t with
 | .bool b=>aA b (F P n (.ops rest (fh (az e t (.bool true)) d .iP) H k)) (bd P o (az e t (.bool false)) H (yz (F P n) rest d (az e t (.bool false)) k))
 | .iP=>F P n (.ops rest (fh e d .iP) H k)
 | _=>False):=by
 rw[F];show(match e t with | .bool b=>_ | .iP=>_ | _=>False)=_
 cases e t<;>rfl
theorem M1 {K:Exit->Env->List ak->Prop} {x:Exit}:F P (n+1) (.app (.post K) x e H)=K x e H:=by rw[F]
theorem M3 {b:aB}:F P (n+1) (.app (.seq b k) .normal e H)=F P n (.code b e H k):=by rw[F]
theorem M4 {b:aB}:F P (n+1) (.app (.seq b k) .ret e H)=F P n (.app k .ret e H):=by rw[F]
theorem M5 {b:aB} {i:Nat}:F P (n+1) (.app (.seq b k) (.exit i) e H)=F P n (.app k (.exit i) e H):=by rw[F]
theorem Fq {id:Nat}:F P (n+1) (.app (.block id k) .normal e H)=F P n (.app k .normal e H):=by rw[F]
theorem Fs {id:Nat}:F P (n+1) (.app (.block id k) .ret e H)=F P n (.app k .ret e H):=by rw[F]
theorem yB {id i:Nat}:F P (n+1) (.app (.block id k) (.exit i) e H)=if i=id then F P n (.app k .normal e H)else F P n (.app k (.exit i) e H):=by rw[F]
theorem wK {Inv:Nat->Env->List ak->Prop} {m:Nat}:F P (n+1) (.app (.loop Inv m k) .normal e H)=∃m',m'<m/\Inv m' e H:=by rw[F]
theorem Ja {Inv:Nat->Env->List ak->Prop} {m:Nat}:F P (n+1) (.app (.loop Inv m k) .ret e H)=F P n (.app k .ret e H):=by rw[F]
theorem Jb {Inv:Nat->Env->List ak->Prop} {m i:Nat}:F P (n+1) (.app (.loop Inv m k) (.exit i) e H)=F P n (.app k (.exit i) e H):=by rw[F]
theorem aL {c:aB} (Inv:Nat->Env->List ak->Prop) (m:Nat) (h0:Inv m e H) (h:∀m e H,Inv m e H->F P n (.code c e H (.loop Inv m k))):F P (n+1) (.code (.loop c) e H k):=⟨Inv,m,h0,h⟩
theorem py {G:K9->Prop} {rest:List cK} {d:Option Nat} {r:V}:yz G rest d e k r H=G (.ops rest (fh e d r) H k):=rfl
theorem Dd {p q:Prop}:aA true p q=p:=by simp[aA]
theorem Ak {p q:Prop}:aA false p q=q:=by simp[aA]
end
section
variable {P:Program} {f:Fr} {B:List Pl} {I:IM} {w:World} {H:List ak} {K:V->List ak->Prop} {a:Act} {env:Env} {o:Oper}
theorem Al {s:o5} (hc:bg P a.tmps.size o.op o.type s=true) (he:cy B I env a.tmps) (hs:cD f B I w H) (hk:bd P s env H K) (hn:∀g as,s≠ .call g as):
 Out f B I K ((execOp a.eval o).run P w):=by
 cases s with
 | H7 y=>
  cases ho:o.op<;>simp only[ho,bg,Bool.false_eq_true]at hc
  ·exact K7 (.inl ho) hc he hs hk
  ·exact K7 (.inr ho) hc he hs hk
 | pick c x y=>
  cases ho:o.op<;>simp only[ho,bg,Bool.false_eq_true,Bool.and_eq_true]at hc;exact MB ho hc.1.1 hc.1.2 hc.2 he hs hk
 | alloc z=>
  cases ho:o.op<;>(rw[ho]at hc;first | (simp only[bg,Bool.false_eq_true]at hc;done) | skip)
  exact IF ho hc hs hk
 | box x=>
  cases ho:o.op<;>simp only[ho,bg,Bool.false_eq_true]at hc;exact Ra ho hc he hs hk
 | build z ps=>
  cases ho:o.op<;>(rw[ho]at hc;first | (simp only[bg,Bool.false_eq_true]at hc;done) | skip)
  exact IS ho hc he hs hk
 | jW esz xs=>
  cases ho:o.op<;>(rw[ho]at hc;first | (simp only[bg,Bool.false_eq_true]at hc;done) | skip)
  exact E4 ho hc he hs hk
 | load g m x=>
  cases ho:o.op<;>(rw[ho]at hc;first | (simp only[bg,Bool.false_eq_true]at hc;done) | skip)
  exact ME ho hc he hs hk
 | store m x y=>
  cases ho:o.op<;>(rw[ho]at hc;first | (simp only[bg,Bool.false_eq_true]at hc;done) | skip)
  exact IG ho hc he hs hk
 | b5 x=>
  cases ho:o.op<;>simp only[ho,bg,Bool.false_eq_true]at hc;exact MF ho hc he hs hk
 | bin op x y=>
  cases ho:o.op<;>simp only[ho,bg,Bool.false_eq_true,Bool.and_eq_true,decide_eq_true_eq]at hc;obtain⟨⟨rfl,h1⟩,h2⟩:=hc;exact Rb ho h1 h2 he hs hk
 | beq neg x y=>
  cases ho:o.op<;>(rw[ho]at hc;first | (simp only[bg,Bool.false_eq_true]at hc;done) | skip)
  rename_i op t x' y' u;cases op<;>cases neg<;>simp only[bg,Bool.false_eq_true,Bool.and_eq_true]at hc<;>(
   obtain⟨⟨h1,h2⟩,h3⟩:=hc;split at h3
   ·rename_i ht;exact Rc (neg:=_) (by simpa using ho) h1 h2 ht he hs hk
   ·cases h3)
 | un op x=>
  cases ho:o.op<;>simp only[ho,bg,Bool.false_eq_true,Bool.and_eq_true,decide_eq_true_eq]at hc;obtain⟨rfl,h1⟩:=hc;exact XR ho h1 he hs hk
 | conv k x=>
  cases ho:o.op<;>simp only[ho,bg,Bool.false_eq_true,Bool.and_eq_true,beq_iff_eq]at hc;exact MH ho hc.1.1 hc.1.2 hc.2 he hs hk
 | sS x=>
  cases ho:o.op<;>simp only[ho,bg,Bool.false_eq_true,Bool.and_eq_true]at hc;obtain⟨⟨h1,h2⟩,h3⟩:=hc;split at h2
  ·rename_i hd;exact IH ho h1 hd h3 he hs hk
  ·cases h2
 | fC g fs cs=>
  cases ho:o.op<;>(rw[ho]at hc;first | (simp only[bg,Bool.false_eq_true]at hc;done) | skip)
  rename_i fn XU z7;cases fn<;>simp only[bg,Bool.false_eq_true,Bool.and_eq_true,beq_iff_eq]at hc;obtain⟨⟨rfl,h1⟩,h2⟩:=hc;exact MI ho h1 h2 he hs hk
 | slice esz x lo hi=>
  cases ho:o.op<;>(rw[ho]at hc;first | (simp only[bg,Bool.false_eq_true]at hc;done) | skip)
  rename_i t x' H9 xP mx;cases mx with
  | some _=>simp[bg]at hc
  | none=>exact IQ ho hc he hs hk
 | x9 x lo hi=>simp[bd]at hk
 | nB off x=>
  cases ho:o.op<;>(rw[ho]at hc;first | (simp only[bg,Bool.false_eq_true]at hc;done) | skip)
  exact II ho hc he hs hk
 | field g off n x=>
  cases ho:o.op<;>(rw[ho]at hc;first | (simp only[bg,Bool.false_eq_true]at hc;done) | skip)
  exact IJ ho hc he hs hk
 | gk esz x i=>
  cases ho:o.op<;>(rw[ho]at hc;first | (simp only[bg,Bool.false_eq_true]at hc;done) | skip)
  exact IK ho hc he hs hk
 | uX x i=>
  cases ho:o.op<;>simp only[ho,bg,Bool.false_eq_true,Bool.and_eq_true]at hc;obtain⟨⟨h1,h2⟩,h3⟩:=hc;split at h1
  ·rename_i hd;exact ML ho hd h2 h3 he hs hk
  ·cases h1
 | extract x i=>
  cases ho:o.op<;>simp only[ho,bg,Bool.false_eq_true,Bool.and_eq_true,beq_iff_eq]at hc;obtain⟨rfl,h1⟩:=hc;exact C5 ho h1 he hs hk
 | call g as=>exact absurd rfl (hn g as)
 | nS t=>cases ho:o.op<;>(rw[ho]at hc;simp only[bg,Bool.false_eq_true]at hc)
 | aJ esz xs=>
  cases ho:o.op<;>(rw[ho]at hc;first | (simp only[bg,Bool.false_eq_true]at hc;done) | skip)
  exact E6 ho hc he hs hk
 | du=>
  cases ho:o.op<;>(rw[ho]at hc;first | (simp only[bg,Bool.false_eq_true]at hc;done) | skip)
  ·exact E0 ho hc hs hk
  ·rename_i t rs;cases rs with
   | none=>exact Db ho hc hs hk
   | some r=>simp[bg]at hc
 | o6=>
  cases ho:o.op<;>(rw[ho]at hc;first | (simp only[bg,Bool.false_eq_true]at hc;done) | skip)
  exact IV ho hc hs hk
 | Eu z x=>
  cases ho:o.op<;>(rw[ho]at hc;first | (simp only[bg,Bool.false_eq_true]at hc;done) | skip)
  exact Rq ho hc he hs hk
 | gm=>
  cases ho:o.op<;>(rw[ho]at hc;first | (simp only[bg,Bool.false_eq_true]at hc;done) | skip)
  rename_i t rs;cases rs with
  | none=>exact IZ ho hc hs hk
  | some r=>simp[bg]at hc
 | eu sh ok z x k=>
  cases ho:o.op<;>(rw[ho]at hc;first | (simp only[bg,Bool.false_eq_true]at hc;done) | skip)
  exact I3 ho hc he hs hk
 | kG sh x k v=>
  cases ho:o.op<;>(rw[ho]at hc;first | (simp only[bg,Bool.false_eq_true]at hc;done) | skip)
  exact MW ho hc he hs hk
 | uY sh z x k=>
  cases ho:o.op<;>(rw[ho]at hc;first | (simp only[bg,Bool.false_eq_true]at hc;done) | skip)
  exact MX ho hc he hs hk
 | uZ x s v=>
  cases ho:o.op<;>(rw[ho]at hc;first | (simp only[bg,Bool.false_eq_true]at hc;done) | skip)
  exact MY ho hc he hs hk
 | Ev x=>
  cases ho:o.op<;>(rw[ho]at hc;first | (simp only[bg,Bool.false_eq_true]at hc;done) | skip)
  exact Rx ho hc he hs hk
 | Ew x=>
  cases ho:o.op<;>(rw[ho]at hc;first | (simp only[bg,Bool.false_eq_true]at hc;done) | skip)
  rename_i y b;cases b with
  | false=>exact Ry ho hc he hs hk
  | true=>simp[bg]at hc
 | Ey x=>
  cases ho:o.op<;>(rw[ho]at hc;first | (simp only[bg,Bool.false_eq_true]at hc;done) | skip)
  exact Rz ho hc he hs hk
 | mm mx x y=>
  cases ho:o.op<;>(rw[ho]at hc;first | (simp only[bg,Bool.false_eq_true]at hc;done) | skip)
  exact X9 ho hc he hs hk
 | rU neg x=>
  cases ho:o.op<;>(rw[ho]at hc;first | (simp only[bg,Bool.false_eq_true]at hc;done) | skip)
  exact MG ho hc he hs hk
 | len str x=>
  cases ho:o.op<;>(rw[ho]at hc;first | (simp only[bg,Bool.false_eq_true]at hc;done) | skip)
  exact Rf ho hc he hs hk
 | append esz bytes x y=>
  cases ho:o.op<;>(rw[ho]at hc;first | (simp only[bg,Bool.false_eq_true]at hc;done) | skip)
  exact E8 ho hc he hs hk
theorem BA {fx:SX} {as:List SX} (hc:bg P a.tmps.size o.op o.type (.call fx as)=true) (he:cy B I env a.tmps) (hs:cD f B I w H) (hk:bd P (.call fx as) env H K):
 ∃g args,(execOp a.eval o).run P w=.ok (.enter g args) w/\Calls P g args w (fun e w'=>∃r v H' B' I',e=.returned v/\K r H'/\cD f B' I' w' H'/\eA B B'/\dY I I'/\aU B' I' r v):=by
 cases ho:o.op<;>(rw[ho]at hc;first | (simp only[bg,Bool.false_eq_true]at hc;done) | skip)
 rename_i c;simp only[bg]at hc;split at hc
 ·rename_i g rW;simp only[Bool.and_eq_true]at hc;obtain⟨h1,h2⟩:=hc;have hg:=bh h1 he;have has:=mM he h2;simp only[bd]at hk;split at hk
  ·rename_i gid first bB e
   rw[e]at hg;simp only[aU]at hg;obtain⟨fs,cs,hv,hf,Am⟩:=hg;obtain⟨cH,hk⟩:=hk;refine⟨gid,(fs++c.args.map a.eval)++cs,?_,hk f B I w _ hs ?_⟩
   ·unfold lS at cH
    split at cH
    ·rename_i fn RD;simp only[Bool.and_eq_true,bne_iff_ne,ne_eq,Option.isSome_iff_exists]at cH;obtain⟨⟨b,hb⟩,RE⟩:=cH;simp only[execOp,ho,resolve,rW,hv,Deferred.ofValue,Sem.run_bind,Sem.run_pure,Result.andThen_ok,invoke,callFunc,run_program,RD];rw[if_neg (by simpa using RE),if_neg (by simp[hb])];simp
    ·cases cH
   ·simp only[Array.toList_append,Array.toList_map];exact(hf.append has).append Am
  ·exact hk.elim
 ·cases hc
def An (P:Program) (f:Fr) (B:List Pl) (I:IM) (nt:Nat) (k:fW) (Q:Exit->Act->World->Prop):Prop:=
 ∀n x e H B' I' a w,F P n (.app k x e H)->cD f B' I' w H->eA B B'->dY I I'->cy B' I' e a.tmps->a.defers=[]->a.tmps.size=nt->Q x a w
theorem An.mono {nt:Nat} {k:fW} {Q:Exit->Act->World->Prop} {B':List Pl} {I':IM} (h:An P f B I nt k Q) (hB:eA B B') (hI:dY I I'):An P f B' I' nt k Q:=
 fun n x e H B2 I2 a w h1 h2 h3 h4=>h n x e H B2 I2 a w h1 h2 (hB.trans h3) (hI.trans h4)
theorem upd_self {e:Env} {t:Nat} {b c:Bool} (h:e t=.bool b) (hb:b=c):az e t (.bool c)=e:=by
 funext i
 unfold az
 split
 ·rename_i hi;subst hi;rw[h,hb]
 ·rfl
theorem Jc:aU B I .iP undef:=by simp[aU]
theorem yC {e:Env} (he:cy B I e a.tmps) (d:Option Nat):cy B I (fh e d .iP) (a.put d undef).tmps:=he.put d Jc
theorem tp {all:Array Oper} {j t:Nat} (hj:(all[j]?).bind (·.dst)=some t) (ht:t<a.tmps.size) (he:cy B I env a.tmps):
 ∀{v:V},env t=v->(∀b,v=.bool b->yielded all a.tmps j=some b)/\(v=.iP->yielded all a.tmps j=none):=by
 intro v hv;have h1:=he t (a.tmps[t]) (by simp[ht]);rw[hv]at h1;constructor
 ·rintro b rfl;simp only[aU]at h1;simp[yielded,hj,ht,h1]
 ·rintro rfl;simp only[aU]at h1;simp[yielded,hj,ht,h1,undef]
theorem Fu {n:Nat} {ss:List cK} {t:Nat} {k:fW} (hF:F P (n+1) (.ops (⟨some t,.nS t,none⟩::ss) env H k)) (hs:cD f B I w H) (he:cy B I env a.tmps):
 ∃e' H' I2,F P n (.ops ss e' H' k)/\cD f B I2 w H'/\dY I I2/\cy B I2 e' a.tmps:=by
 rw[I9]at hF;simp only[bd,py]at hF;obtain⟨D,v',lX,hF⟩:=hF;obtain⟨I2,hI,lz,eN⟩:=hs.freeze D;refine⟨_,_,I2,hF,lz,hI,?_⟩;intro i v hv;have h1:=he i v hv;show aU B I2 (az env t v' i) v;unfold az
 split
 ·rename_i hi;subst hi;exact(eN 20 lX h1).mono (fun i p h=>by simp at h) (dY.refl _)
 ·exact h1.mono (eA.refl _) hI
theorem De {s:cK} (h:s.Bj=true):∃t,s=⟨some t,.nS t,none⟩:=by
 obtain⟨d,op,g⟩:=s;cases d<;>cases op<;>cases g<;>simp[cK.Bj]at h;subst h;exact⟨_,rfl⟩
theorem ko {all:Array Oper} {nt:Nat} {k:fW} {Q:Exit->Act->World->Prop}:∀{l:List Oper} {ss:List cK},fV P nt all l (strip ss)=true->∀{n:Nat} {e:Env} {H:List ak} {B:List Pl} {I:IM} {a:Act} {w:World},
 F P n (.ops ss e H k)->cD f B I w H->cy B I e a.tmps->a.defers=[]->a.tmps.size=nt->An P f B I nt k Q->wpList P all Q l a w
 | l,[],hc,n,e,H,B,I,a,w,hF,hs,he,hd,hn,hq=>by
  cases l with
  | cons _ _=>simp[fV,strip]at hc
  | nil=>
   cases n with
   | zero=>exact hF.elim
   | succ n=>exact hq n .normal e H B I a w hF hs (eA.refl _) (dY.refl _) he hd hn
 | l,s::ss,hc,n,e,H,B,I,a,w,hF,hs,he,hd,hn,hq=>by
  by_cases cp:s.Bj=true
  ·obtain⟨t,rfl⟩:=De cp;cases n with
   | zero=>exact hF.elim
   | succ n=>
    obtain⟨e',H',I2,h1,h2,h3,h4⟩:=Fu hF hs he;simp only[strip,cp,if_true]at hc;exact ko hc h1 h2 h4 hd hn (hq.mono (eA.refl _) h3)
  ·simp only[strip,cp,if_false]at hc;cases l with
   | nil=>simp[fV]at hc
   | cons o l=>
    simp only[Bool.false_eq_true,if_false,fV,jE,Bool.and_eq_true]at hc;obtain⟨⟨⟨yD,hg⟩,xR⟩,BB⟩:=hc;have BD:o.dst=s.dst:=by
     cases h1:o.dst<;>cases h2:s.dst<;>simp[h1,h2,wC]at yD⊢;exact yD.1
    have run:∀(e:Env) (G:Nat),cy B I e a.tmps->bd P s.op e H (yz (F P G) ss s.dst e k)->o.wp P a w (wpList P all Q l) Q:=by
     intro e G he hk;by_cases cH:∃fx as,s.op=.call fx as
     ·obtain⟨fx,as,M6⟩:=cH;rw[M6]at hk xR;obtain⟨g,args,cV,Ao⟩:=BA (by rw[hn];exact xR) he hs hk;unfold Oper.wp
      rw[cV,Oper.upon_enter];refine Ao.mono ?_;rintro en w' ⟨r,v,H',B',I',rfl,hr,eM,hB,hI,eN⟩;simp only;rw[py]at hr;rw[BD];exact ko BB hr eM ((he.mono hB hI).put _ eN) (by rw[put_defers];exact hd) (by rw[iq];exact hn) (hq.mono hB hI)
     ·have Ap:∀g as,s.op≠ .call g as:=fun g as h=>cH ⟨g,as,h⟩
      obtain⟨v,w',x,H',B',I',cV,hk,eM,hB,hI,eN⟩:=Al (by rw[hn];exact xR) he hs hk Ap;unfold Oper.wp
      rw[py]at hk;have Lb:wpList P all Q l (a.put o.dst v) w':=by
       rw[BD];exact ko BB hk eM ((he.mono hB hI).put _ eN) (by rw[put_defers];exact hd) (by rw[iq];exact hn) (hq.mono hB hI)
      rcases cV with cV | ⟨cV,rfl⟩
      ·rw[cV,Oper.upon_value];exact Lb
      ·rw[cV,Oper.upon_skip];exact Lb
    have skip:∀(e:Env) (G:Nat),cy B I e a.tmps->F P G (.ops ss (fh e s.dst .iP) H k)->wpList P all Q l (a.put o.dst undef) w:=by
     intro e G he hk;rw[BD];exact ko BB hk hs (yC he _) (by rw[put_defers];exact hd) (by rw[iq];exact hn) hq
    cases n with
    | zero=>exact hF.elim
    | succ n=>
     obtain⟨sd,sop,sg⟩:=s;cases Fv:o.guard with
     | none=>
      rw[Fv]at hg;cases sg with
      | some _=>simp[jd]at hg
      | none=>
       rw[I9]at hF;unfold wpList
       rw[if_pos (by simp[Region.wanted,Fv])];exact .inl (run e n he hF)
     | some jb=>
      obtain⟨j,want⟩:=jb;rw[Fv]at hg;cases sg with
      | none=>simp[jd]at hg
      | some tb=>
       obtain⟨t,RF⟩:=tb;simp only[jd,Bool.and_eq_true,beq_iff_eq,decide_eq_true_eq]at hg;obtain⟨⟨rfl,hj⟩,ht⟩:=hg;have hy:=tp (a:=a) (env:=e) hj (by omega) he (v:=e t) rfl;have RG:∀b,e t=.bool b->(Region.wanted o (yielded all a.tmps)=decide (b=want)):=by
        intro b hb;simp only[Region.wanted,Fv,hy.1 b hb];cases b<;>cases want<;>rfl
       cases hv:e t with
       | bool b=>
        have hw:=RG b hv;unfold wpList
        rw[hw];cases want with
        | true=>
         rw[By,hv]at hF;cases b with
         | true=>simp only[decide_true,if_true];have:=hF.1 rfl;rw[upd_self hv rfl]at this;exact .inl (run e n he this)
         | false=>simp only[Bool.false_eq_true,decide_false,if_false];have:=hF.2 rfl;rw[upd_self hv rfl]at this;exact skip e n he this
        | false=>
         rw[Bz,hv]at hF;cases b with
         | true=>simp only[Bool.true_eq_false,decide_false,if_false,Bool.false_eq_true];have:=hF.1 rfl;rw[upd_self hv rfl]at this;exact skip e n he this
         | false=>simp only[decide_true,if_true];have:=hF.2 rfl;rw[upd_self hv rfl]at this;exact .inl (run e n he this)
       | iP=>
        unfold wpList
        have hw:Region.wanted o (yielded all a.tmps)=false:=by
         simp only[Region.wanted,Fv,hy.2 hv];rfl
        rw[hw];simp only[Bool.false_eq_true,if_false];cases want with
        | true=>rw[By,hv]at hF;exact skip e n he hF
        | false=>rw[Bz,hv]at hF;exact skip e n he hF
       | _=>cases want<;>first | (rw[By,hv]at hF;exact hF.elim) | (rw[Bz,hv]at hF;exact hF.elim)
end
def M7 (a b:QO):Bool:= -- a Yd before b in iH text
 match a.o.dst with
 | some t=>b.tmps.contains t || b.o.dst==some t || (match b.o.dst with | some u=>a.tmps.contains u | none=>false)
 | none=>match b.o.dst with
  | some u=>a.tmps.contains u
  | none=>false
def lY (all:Array Oper) (ss:List QO) (j:Nat):Bool:=
 match all[j]?,ss[j]? with
 | some o,some q=>o.after.toList.all (fun e=> !Region.binds .any e || decide (e.on<j)) &&
    (List.range ss.length).all (fun i=> !q.bs.testBit i || o.after.toList.any (fun e=>Region.binds .any e && (e.on==i || (match ss[e.on]? with | some p=>p.bs.testBit i | none=>false))))
 | _,_=>false
def qO (ss:List QO) (j:Nat):Bool:=
 match ss[j]? with
 | some q=>(List.range j).all fun i=>match ss[i]? with
  | some p=> !M7 p q || q.bs.testBit i
  | none=>false
 | none=>false
def wL (ss:List QO) (j:Nat):Bool:=
 match ss[j]? with
 | some q=>match q.ld with
  | true=>rk ss j==0 || (List.range j).any fun i=>match ss[i]? with
   | some p=>p.ld && rk ss i+1==rk ss j && q.bs.testBit i
   | none=>false
  | false=>decide (q.lo<=rk ss j) && decide (rk ss j<=q.hi) && (q.lo==0 || (List.range j).any fun i=>match ss[i]? with
   | some p=>p.ld && rk ss i+1==q.lo && q.bs.testBit i
   | none=>false) &&
   (decide (rk ss ss.length<=q.hi) || (List.range ss.length).any fun i=>match ss[i]? with
     | some p=>p.ld && rk ss i==q.hi && p.bs.testBit j
     | none=>false)
 | none=>false
def Jd (P:Program) (nt:Nat) (all:Array Oper) (ss:List QO):Bool:=
 fV P nt all all.toList (ss.map (·.o)) && (List.range ss.length).all fun j=>lY all ss j && qO ss j && wL ss j
section
variable {P:Program} {all:Array Oper} {ss:List QO}
def tq (all:Array Oper) (N:Nat) (S:Nat->Prop):Prop:=∀(j:Nat) o,j<N->S j->all[j]? =some o->∀e∈o.after,Region.binds .any e=true->S e.on
theorem iU {N:Nat} {S:Nat->Prop} (hN:ss.length=N) (hE:∀j,j<N->lY all ss j=true) (hC:tq all N S):∀(j:Nat),j<N->∀q o,ss[j]? =some q->all[j]? =some o->
 (∀e∈o.after,Region.binds .any e=true->S e.on)->∀i,i<N->q.bs.testBit i=true->S i:=by
 intro j;induction j using Nat.strongRecOn with
 | _ j ih=>
  intro hj q o hq ho lZ i hi hb;have h:=hE j hj;simp only[lY,ho,hq,Bool.and_eq_true,List.all_eq_true,List.mem_range,hN]at h;obtain⟨h1,h2⟩:=h;have h3:=h2 i hi;simp only[hb,Bool.not_true,Bool.false_or,List.any_eq_true,Bool.and_eq_true,Bool.or_eq_true,beq_iff_eq]at h3;obtain⟨e,he,Fw,h3⟩:=h3;have kd:e∈o.after:=by simpa using he
  rcases h3 with rfl | h3
  ·exact lZ e kd Fw
  ·have ct:e.on<j:=by
    have:=h1 e he;simpa[Fw]using this
   have hSe:=lZ e kd Fw;split at h3
   ·rename_i p hp;have yE:e.on<N:=by omega
    have ey:e.on<all.size:=by
     have:=hE e.on yE;unfold lY at this
     cases ha:all[e.on]? with
     | none=>rw[ha]at this;simp at this
     | some _=>exact(Array.getElem?_eq_some_iff.1 ha).1
    exact ih e.on ct yE p (all[e.on]) hp (by simp[ey]) (hC e.on _ yE hSe (by simp[ey])) i hi h3
   ·cases h3
noncomputable def eS (ss:List QO) (tr:List (Env×V)) (e0:Env) (L:Nat->Bool):Nat->Env
 | 0=>e0
 | k+1=>match L k,ss[k]? with
  | true,some q=>fh (eS ss tr e0 L k) q.o.dst (tj tr k)
  | _,_=>eS ss tr e0 L k
theorem fu {e:Env} {d:Option Nat} {v:V} {t:Nat} (h:d≠some t):fh e d v t=e t:=by
 cases d with
 | none=>rfl
 | some d=>
  show(if t=d then v else e t)=e t;rw[if_neg (fun hh=>h (by rw[hh]))]
theorem wM {p q:QO} {t:Nat} (h:M7 p q=false):(p.o.dst=some t->t∉q.tmps/\q.o.dst≠some t)/\(q.o.dst=some t->t∉p.tmps/\p.o.dst≠some t):=by
 unfold M7 at h
 constructor
 ·intro hp;rw[hp]at h;simp only[Bool.or_eq_false_iff]at h;obtain⟨⟨h1,h2⟩,_⟩:=h;exact⟨by simpa using h1,by simpa using h2⟩
 ·intro hq;cases hd:p.o.dst with
  | none=>rw[hd,hq]at h;exact⟨by simpa using h,by simp⟩
  | some u=>
   rw[hd,hq]at h;simp only[Bool.or_eq_false_iff]at h;obtain⟨⟨_,h2⟩,h3⟩:=h;refine⟨by simpa using h3,?_⟩;intro hh;cases hh;simp at h2
def un (L:Nat->Bool):Nat->Nat
 | 0=>0
 | k+1=>un L k+(if L k then 0 else 1)
theorem Fx {L:Nat->Bool} {i:Nat} (h:L i=false):∀k,un L k=un (fun j=>if j=i then true else L j) k+(if i<k then 1 else 0)
 | 0=>by simp[un]
 | k+1=>by
  have:=Fx h k;simp only[un];by_cases hk:k=i
  ·subst hk;rw[if_neg (Nat.lt_irrefl k)]at this;have e1:(if L k=true then 0 else 1)=1:=if_neg (by simp[h]);have e2:(if(if k=k then true else L k)=true then 0 else 1)=0:=if_pos (if_pos rfl);have e3:(if k<k+1 then 1 else 0)=1:=if_pos (by omega);omega
  ·simp only[hk,if_false];by_cases sY:i<k
   ·rw[if_pos sY]at this;rw[if_pos (show i<k+1 by omega)];omega
   ·rw[if_neg sY]at this;rw[if_neg (show¬i<k+1 by omega)];omega
theorem BE {L:Nat->Bool}:∀k,un L k=0->∀i,i<k->L i=true
 | k+1,h,i,hi=>by
  simp only[un]at h;by_cases sY:i=k
  ·subst sY;cases hL:L i with
   | true=>rfl
   | false=>rw[hL]at h;simp at h
  ·exact BE k (by omega) i (by omega)
theorem qP:∀(k r:Nat),r<rk ss k->∃(i:Nat) (p:QO),i<k/\ss[i]? =some p/\p.ld=true/\rk ss i=r
 | 0,r,h=>by rw[px]at h;omega
 | k+1,r,h=>by
  cases hk:ss[k]? with
  | none=>
   have:rk ss (k+1)=rk ss k:=by
    unfold rk;rw[List.take_add_one,hk];simp
   obtain⟨i,p,h1,h2⟩:=qP k r (by omega);exact⟨i,p,by omega,h2⟩
  | some q=>
   rw[wH hk]at h;by_cases hr:r<rk ss k
   ·obtain⟨i,p,h1,h2⟩:=qP k r hr;exact⟨i,p,by omega,h2⟩
   ·cases hq:q.ld with
    | true=>rw[hq]at h;simp at h;exact⟨k,q,by omega,hk,hq,by omega⟩
    | false=>rw[hq]at h;simp at h;omega
theorem vH {R:(Nat->Bool)->Fr->Act->Prop} {B:List Pl} {I:IM} {nt:Nat} {Q:Exit->Act->World->Prop} {tr:List (Env×V)} {e0 e':Env} {H0:List ak} {Hs:List (List ak)} {H':List ak}
 (hN:ss.length<=all.size) (Df:fV P nt all (all.toList.take ss.length) (ss.map (·.o))=true) (hE:∀j,j<ss.length->lY all ss j=true) (Ye:∀j,j<ss.length->qO ss j=true) (hR:∀j,j<ss.length->wL ss j=true)
 (BG:∀(L:Nat->Bool),(tq all ss.length fun i=>L i=true)->(∀i,ss.length<=i->L i=false)->∀(j:Nat) (o:Oper),all[j]? =some o->ss.length<=j->(∀e∈o.after,Region.binds .any e=true->L e.on=true)->∀i,i<ss.length->L i=true)
 (Lc:GR P ss e0 H0 tr Hs e' H') (yF:pv P ss tr (H0::Hs))
 (hJg:∀(j:Nat) (q:QO),ss[j]? =some q->q.o.op=.du->q.o.guard=none)
 (Yf:∀(L:Nat->Bool) (f:Fr) (a:Act) (j:Nat) (q:QO) (v:Value),ss[j]? =some q->L j=false->q.o.op≠ .du->R L f a->R (fun i=>if i=j then true else L i) f (a.put q.o.dst v))
 (M8:∀(L:Nat->Bool) (f:Fr) (a:Act) (j:Nat) (q:QO) (o:Oper) (B:List Pl) (I:IM) (w:World) (H:List ak),ss[j]? =some q->all[j]? =some o->L j=false->jE P nt all o q.o=true->q.o.op=.du->R L f a->cD f B I w H->a.tmps.size=nt->
   ∃v w' f',(execOp a.eval o).run P w=.ok (.value v) w'/\cD f' B I w' H/\R (fun i=>if i=j then true else L i) f' (a.put q.o.dst v))
 (hQ:∀(f:Fr) (B':List Pl) (I':IM) (a:Act) (w:World) (fuel:Nat) (listed:Array Bool),R (fun i=>listed.getD i false) f a->cD f B' I' w H'->eA B B'->dY I I'->cy B' I' e' a.tmps->a.defers=[]->a.tmps.size=nt->listed.size=all.size->
   (∀i,i<ss.length->listed.getD i false=true)->(∀i,ss.length<=i->listed.getD i false=false)->all.size<=ss.length+fuel->wpAny P .any all Q fuel listed a w):
 ∀(fuel:Nat) (listed:Array Bool) (q0:Nat) (f:Fr) (B':List Pl) (I':IM) (a:Act) (w:World),listed.size=all.size->(tq all ss.length fun i=>listed.getD i false=true)->(∀i,ss.length<=i->listed.getD i false=false)->
  (∀(i:Nat) p,ss[i]? =some p->p.ld=true->(listed.getD i false=true↔rk ss i<q0))->q0<=rk ss ss.length->
  un (fun i=>listed.getD i false) ss.length+(all.size - ss.length)<=fuel->R (fun i=>listed.getD i false) f a->
  cD f B' I' w ((H0::Hs).getD q0 [])->eA B B'->dY I I'->cy B' I' (eS ss tr e0 (fun i=>listed.getD i false) ss.length) a.tmps->a.defers=[]->a.tmps.size=nt->wpAny P .any all Q fuel listed a w:=by
 have Yg:∀(j:Nat) o q,all[j]? =some o->ss[j]? =some q->jE P nt all o q.o=true:=by
  have:∀(l:List Oper) (m:List cK),fV P nt all l m=true->∀(j:Nat) o s,l[j]? =some o->m[j]? =some s->jE P nt all o s=true:=by
   intro l;induction l with
   | nil=>intro m _ j o s h;simp at h
   | cons x l ih=>intro m h j o s h1 h2;cases m with
    | nil=>simp at h2
    | cons y m=>
     simp only[fV,Bool.and_eq_true]at h;cases j with
     | zero=>simp at h1 h2;subst h1;subst h2;exact h.1
     | succ j=>exact ih m h.2 j o s (by simpa using h1) (by simpa using h2)
  intro j o q h1 h2;have hj:j<ss.length:=(List.getElem?_eq_some_iff.1 h2).1;exact this _ _ Df j o q.o (by rw[List.getElem?_take,if_pos hj];simpa using h1) (by simp[h2])
 have EE:=Lc.length;have agree:∀(L:Nat->Bool),(tq all ss.length fun i=>L i=true)->∀(j:Nat) q o,ss[j]? =some q->all[j]? =some o->L j=false->(∀e∈o.after,Region.binds .any e=true->L e.on=true)->
  ∀t∈q.tmps,eS ss tr e0 L ss.length t=ti tr e' j t:=by
  intro L eT j q o hq ho zM lZ t ht;have yE:j<ss.length:=(List.getElem?_eq_some_iff.1 hq).1;have key:∀k,k<=ss.length->eS ss tr e0 L k t=ti tr e' (min k j) t:=by
   intro k;induction k with
   | zero=>intro _;rw[Nat.zero_min,Lc.bW];rfl
   | succ k ih=>
    intro hk;have BH:=ih (by omega);obtain⟨p,hp⟩:∃p,ss[k]? =some p:=⟨ss[k],List.getElem?_eq_getElem (by omega)⟩;simp only[eS,hp];rcases Nat.lt_trichotomy k j with rY | rY | rY
    ·have BI:=(Lc.step k p hp).2;rw[show min (k+1) j=k+1 by omega,BI];rw[show min k j=k by omega]at BH;cases hL:L k with
     | true=>
      simp only;by_cases hd:p.o.dst=some t
      ·rw[hd];simp[fh,az]
      ·rw[fu hd,fu hd];exact BH
     | false=>
      simp only;have RH:p.o.dst≠some t:=by
       intro hd;have hc:=Ye j yE;simp only[qO,hq,List.all_eq_true,List.mem_range]at hc;have hc:=hc k rY;rw[hp]at hc;simp only[Bool.or_eq_true,Bool.not_eq_true']at hc;rcases hc with hc | hc
       ·exact((wM hc).1 hd).1 ht
       ·have:=iU rfl hE eT j yE q o hq ho lZ k (by omega) hc;rw[hL]at this;cases this
      rw[fu RH];exact BH
    ·subst rY;rw[zM];rw[show min (k+1) k=min k k by omega];exact BH
    ·rw[show min (k+1) j=min k j by omega,<-BH];cases hL:L k with
     | false=>rfl
     | true=>
      simp only;have RH:p.o.dst≠some t:=by
       intro hd;have Ih:k<ss.length:=by omega
       have hc:=Ye k Ih;simp only[qO,hp,List.all_eq_true,List.mem_range]at hc;have hc:=hc j rY;rw[hq]at hc;simp only[Bool.or_eq_true,Bool.not_eq_true']at hc;rcases hc with hc | hc
       ·exact((wM hc).2 hd).1 ht
       ·have RJ:k<all.size:=by omega
        have:=iU rfl hE eT k Ih p all[k] hp (by simp[RJ]) (eT k _ Ih hL (by simp[RJ])) j yE hc;rw[zM]at this;cases this
      rw[fu RH]
  have:=key ss.length (Nat.le_refl _);rwa[show min ss.length j=j by omega]at this
 have after:∀(L:Nat->Bool),(tq all ss.length fun i=>L i=true)->∀(j:Nat) q o,ss[j]? =some q->all[j]? =some o->L j=false->
  eS ss tr e0 (fun i=>if i=j then true else L i) ss.length=fh (eS ss tr e0 L ss.length) q.o.dst (tj tr j):=by
  intro L eT j q o hq ho zM;have yE:j<ss.length:=(List.getElem?_eq_some_iff.1 hq).1;funext t
  have key:∀k,k<=ss.length->eS ss tr e0 (fun i=>if i=j then true else L i) k t=if k<=j then eS ss tr e0 L k t else fh (eS ss tr e0 L k) q.o.dst (tj tr j) t:=by
   intro k;induction k with
   | zero=>intro _;simp[eS]
   | succ k ih=>
    intro hk;have BH:=ih (by omega);obtain⟨p,hp⟩:∃p,ss[k]? =some p:=⟨ss[k],List.getElem?_eq_getElem (by omega)⟩;simp only[eS,hp];rcases Nat.lt_trichotomy k j with rY | rY | rY
    ·rw[if_pos (show k+1<=j by omega),if_neg (show¬k=j by omega)];rw[if_pos (show k<=j by omega)]at BH;cases hL:L k with
     | true=>
      simp only;by_cases hd:p.o.dst=some t
      ·rw[hd];simp[fh,az]
      ·rw[fu hd,fu hd];exact BH
     | false=>exact BH
    ·subst rY;rw[if_neg (show¬k+1<=k by omega),if_pos rfl,zM];rw[if_pos (Nat.le_refl k)]at BH;rw[hq]at hp;cases hp;simp only;by_cases hd:q.o.dst=some t
     ·rw[hd];simp[fh,az]
     ·rw[fu hd,fu hd];exact BH
    ·rw[if_neg (show¬k+1<=j by omega),if_neg (show¬k=j by omega)];rw[if_neg (show¬k<=j by omega)]at BH;cases hL:L k with
     | false=>simp only;exact BH
     | true=>
      simp only;by_cases hd:p.o.dst=some t
      ·have RH:q.o.dst≠some t:=by
        intro RL;have Ih:k<ss.length:=by omega
        have hc:=Ye k Ih;simp only[qO,hp,List.all_eq_true,List.mem_range]at hc;have hc:=hc j rY;rw[hq]at hc;simp only[Bool.or_eq_true,Bool.not_eq_true']at hc;rcases hc with hc | hc
        ·exact((wM hc).2 hd).2 RL
        ·have RJ:k<all.size:=by omega
         have:=iU rfl hE eT k Ih p all[k] hp (by simp[RJ]) (eT k _ Ih hL (by simp[RJ])) j yE hc;rw[zM]at this;cases this
       rw[fu RH,hd];simp[fh,az]
      ·rw[fu hd,BH];by_cases RL:q.o.dst=some t
       ·rw[RL];simp[fh,az]
       ·rw[fu RL,fu RL,fu hd]
  have:=key ss.length (Nat.le_refl _);rwa[if_neg (by omega)]at this
 have full:∀(L:Nat->Bool),(∀i,i<ss.length->L i=true)->eS ss tr e0 L ss.length=e':=by
  intro L hL;have key:∀k,k<=ss.length->eS ss tr e0 L k=ti tr e' k:=by
   intro k;induction k with
   | zero=>intro _;rw[Lc.bW];rfl
   | succ k ih=>
    intro hk;obtain⟨p,hp⟩:∃p,ss[k]? =some p:=⟨ss[k],List.getElem?_eq_getElem (by omega)⟩;simp only[eS,hp,hL k (by omega),ih (by omega)];exact((Lc.step k p hp).2).symm
  rw[key _ (Nat.le_refl _),Lc.final.1]
 have done:∀(fuel:Nat) (listed:Array Bool) (q0:Nat) (f:Fr) (B':List Pl) (I':IM) (a:Act) (w:World),listed.size=all.size->(∀i,i<ss.length->listed.getD i false=true)->(∀i,ss.length<=i->listed.getD i false=false)->all.size<=ss.length+fuel->
  (∀(i:Nat) p,ss[i]? =some p->p.ld=true->(listed.getD i false=true↔rk ss i<q0))->q0<=rk ss ss.length->R (fun i=>listed.getD i false) f a->
  cD f B' I' w ((H0::Hs).getD q0 [])->eA B B'->dY I I'->cy B' I' (eS ss tr e0 (fun i=>listed.getD i false) ss.length) a.tmps->a.defers=[]->a.tmps.size=nt->wpAny P .any all Q fuel listed a w:=by
  intro fuel listed q0 f B' I' a w eW ey Je hfu Ai Ld Jf ni hB hI he hd hn;have hq:q0=rk ss ss.length:=by
   by_cases h:q0<rk ss ss.length
   ·obtain⟨i,p,h1,h2,h3,h4⟩:=qP ss.length q0 h;have:=(Ai i p h2 h3).1 (ey i h1);omega
   ·omega
  rw[hq,Lc.final.2]at ni;rw[full _ ey]at he;exact hQ f B' I' a w fuel listed Jf ni hB hI he hd hn eW ey Je hfu
 have Dg:∀(listed:Array Bool),listed.size=all.size->Region.ready .any all listed=[]->∀i,i<ss.length->listed.getD i false=true:=by
  intro listed eW hr i;induction i using Nat.strongRecOn with
  | _ i ih=>
   intro hi;cases hL:listed.getD i false with
   | true=>rfl
   | false=>
    exfalso;have M9:i<all.size:=by omega
    have:i∈Region.ready .any all listed:=by
     rw[mem_ready];refine⟨?_,all[i],by simp[M9],fun e he hb=> ?_⟩
     ·have:i<listed.size:=by omega
      simp[Array.getD,this]at hL⊢;exact hL
     ·have h:=hE i hi;have hq:ss[i]? =some ss[i]:=List.getElem?_eq_getElem hi;simp only[lY,hq,show all[i]? =some all[i] by simp[M9],Bool.and_eq_true,List.all_eq_true]at h;have h1:=h.1 e (by simpa using he);rw[hb]at h1;simp at h1;exact ih e.on h1 (by omega)
    rw[hr]at this;cases this
 intro fuel;induction fuel with
 | zero=>
  intro listed q0 f B' I' a w eW eT Je Ai Ld hun Jf ni hB hI he hd hn;have ey:=BE ss.length (by omega) (L:=fun i=>listed.getD i false);exact done 0 listed q0 f B' I' a w eW ey Je (by omega) Ai Ld Jf ni hB hI he hd hn
 | succ fuel ih=>
  intro listed q0 f B' I' a w eW eT Je Ai Ld hun Jf ni hB hI he hd hn;by_cases ey:∀i,i<ss.length->listed.getD i false=true
  ·exact done (fuel+1) listed q0 f B' I' a w eW ey Je (by omega) Ai Ld Jf ni hB hI he hd hn
  refine⟨fun hr=>absurd (Dg listed eW hr) ey,?_⟩;intro j hj;rw[mem_ready]at hj;obtain⟨EF,o,ho,lZ⟩:=hj;have yE:j<ss.length:=by
   by_cases h:j<ss.length
   ·exact h
   ·exfalso;refine ey fun i hi=> ?_
    exact BG (fun i=>listed.getD i false) eT Je j o ho (by omega) lZ i hi
  have WG:=(Array.getElem?_eq_some_iff.1 ho).1;have oN:j<listed.size:=by omega
  have zM:listed.getD j false=false:=by simp[Array.getD,oN]at EF⊢;exact EF
  obtain⟨q,hq⟩:∃q,ss[j]? =some q:=⟨ss[j],List.getElem?_eq_getElem yE⟩;have xQ:=agree (fun i=>listed.getD i false) eT j q o hq ho zM lZ;have haf:=after (fun i=>listed.getD i false) eT j q o hq ho zM;have Yh:∀i,i<ss.length->q.bs.testBit i=true->listed.getD i false=true:=fun i hi hb=>iU rfl hE eT j yE q o hq ho lZ i hi hb
  obtain⟨BI,_⟩:=Lc.step j q hq;have sm:=wH hq;have nG:=hR j yE;simp only[wL,hq]at nG;have eB:eX P q.o (eS ss tr e0 (fun i=>listed.getD i false) ss.length) ((H0::Hs).getD q0 []) (tj tr j) ((H0::Hs).getD (q0+if q.ld then 1 else 0) [])/\(q.ld=true->rk ss j=q0):=by
   refine⟨?_,?_⟩
   ·refine yy (e:=ti tr e' j) (fun t ht=>(xQ t ht).symm) ?_;cases hl:q.ld with
    | true=>
     rw[hl]at nG sm;have hjq:rk ss j=q0:=by
      have h1:¬rk ss j<q0:=fun h=>by have:=(Ai j q hq hl).2 h;rw[zM]at this;cases this
      simp only[Bool.or_eq_true,beq_iff_eq,List.any_eq_true,List.mem_range]at nG;rcases nG with h0 | ⟨i,hi,h2⟩
      ·omega
      ·split at h2
       ·rename_i p hp;simp only[Bool.and_eq_true,beq_iff_eq]at h2;have:=(Ai i p hp h2.1.1).1 (Yh i (by omega) h2.2);omega
       ·cases h2
     rw[if_pos rfl]at sm⊢;rw[<-hjq,<-sm];exact BI
    | false=>
     rw[hl]at nG sm;rw[if_neg (by simp)]at sm⊢;simp only[Bool.and_eq_true,decide_eq_true_eq,Bool.or_eq_true,beq_iff_eq,List.any_eq_true,List.mem_range]at nG;obtain⟨⟨⟨h1,h2⟩,h3⟩,h4⟩:=nG;have yj:q.lo<=q0:=by
      rcases h3 with h0 | ⟨i,hi,h3⟩
      ·omega
      ·split at h3
       ·rename_i p hp;simp only[Bool.and_eq_true,beq_iff_eq]at h3;have:=(Ai i p hp h3.1.1).1 (Yh i (by omega) h3.2);omega
       ·cases h3
     have IP:q0<=q.hi:=by
      rcases h4 with h0 | ⟨i,hi,h4⟩
      ·omega
      ·split at h4
       ·rename_i p hp;simp only[Bool.and_eq_true,beq_iff_eq]at h4;by_cases Le:listed.getD i false=true
        ·have M9:i<all.size:=by omega
         have:=iU rfl hE eT i hi p all[i] hp (by simp[M9]) (eT i _ hi Le (by simp[M9])) j yE h4.2;rw[zM]at this;cases this
        ·have:¬rk ss i<q0:=fun h=>Le ((Ai i p hp h4.1.1).2 h)
         omega
       ·cases h4
     have hv:tr[j]? =some (ti tr e' j,tj tr j):=by
      have:j<tr.length:=by omega
      simp[ti,tj,List.getElem?_eq_getElem this]
     by_cases dr:q.lo=q.hi
     ·have:rk ss j=q0:=by omega
      have h5:=BI;rw[sm,Nat.add_zero,this]at h5;exact h5
     ·exact tn EE yF j q _ _ hq hv hl dr q0 yj IP
   ·intro hl;rw[hl]at nG;have h1:¬rk ss j<q0:=fun h=>by have:=(Ai j q hq hl).2 h;rw[zM]at this;cases this
    simp only[Bool.or_eq_true,beq_iff_eq,List.any_eq_true,List.mem_range]at nG;rcases nG with h0 | ⟨i,hi,h2⟩
    ·omega
    ·split at h2
     ·rename_i p hp;simp only[Bool.and_eq_true,beq_iff_eq]at h2;have:=(Ai i p hp h2.1.1).1 (Yh i (by omega) h2.2);omega
     ·cases h2
  obtain⟨eB,hjq⟩:=eB;have iI:∀i,(listed.setIfInBounds j true).getD i false=if i=j then true else listed.getD i false:=by
   intro i;by_cases rm:i=j
   ·subst rm;rw[if_pos rfl];simp[Array.getD,oN]
   ·rw[if_neg rm];exact getD_set_ne false (fun h=>rm h.symm)
  have Fy:(fun i=>(listed.setIfInBounds j true).getD i false)=fun i=>if i=j then true else listed.getD i false:=funext iI
  have next:∀(f2:Fr) (a':Act) (w':World) (B2:List Pl) (I2:IM),R (fun i=>if i=j then true else listed.getD i false) f2 a'->cD f2 B2 I2 w' ((H0::Hs).getD (q0+if q.ld then 1 else 0) [])->eA B' B2->dY I' I2->
   cy B2 I2 (fh (eS ss tr e0 (fun i=>listed.getD i false) ss.length) q.o.dst (tj tr j)) a'.tmps->a'.defers=[]->a'.tmps.size=nt->
   wpAny P .any all Q fuel (listed.setIfInBounds j true) a' w':=by
   intro f2 a' w' B2 I2 Na lz BJ EG Qm l3 nY;refine ih (listed.setIfInBounds j true) (q0+if q.ld then 1 else 0) f2 B2 I2 a' w' (by simpa using eW) ?_ ?_ ?_ ?_ ?_ (by rw[Fy];exact Na) lz (hB.trans BJ) (hI.trans EG) ?_ l3 nY
   ·intro i oi hi Le Yi e hee hbe;rw[iI]at Le⊢;split
    ·rfl
    ·split at Le
     ·rename_i h1;subst h1;rw[ho]at Yi;cases Yi;exact lZ e hee hbe
     ·exact eT i oi hi Le Yi e hee hbe
   ·intro i hi;rw[iI,if_neg (by omega)];exact Je i hi
   ·intro i p hp cR;rw[iI];by_cases rm:i=j
    ·subst rm;rw[hq]at hp;cases hp;have:=hjq cR;simp[cR];omega
    ·rw[if_neg rm,Ai i p hp cR];cases hl:q.ld with
     | false=>simp
     | true=>
      have h1:=hjq hl;have dr:rk ss i≠rk ss j:=by
       intro Re;rcases Nat.lt_or_gt_of_ne rm with h2 | h2
       ·have h3:=wH hp;rw[cR,if_pos rfl]at h3;have:=wI (ss:=ss) (show i+1<=j by omega);omega
       ·have h3:=sm;rw[hl,if_pos rfl]at h3;have:=wI (ss:=ss) (show j+1<=i by omega);omega
      rw[if_pos rfl];omega
   ·cases hl:q.ld with
    | false=>simpa using Ld
    | true=>
     have h1:=hjq hl;have h3:=sm;rw[hl,if_pos rfl]at h3;have:=wI (ss:=ss) (show j+1<=ss.length by omega);rw[if_pos rfl];omega
   ·rw[Fy];have:=Fx (L:=fun i=>listed.getD i false) zM ss.length;rw[if_pos yE]at this;omega
   ·rw[Fy,haf];exact Qm
  have RN:=Yg j o q ho hq;have WH:=RN;simp only[jE,Bool.and_eq_true]at WH;obtain⟨⟨yD,hg⟩,xR⟩:=WH;have BD:o.dst=q.o.dst:=by
   cases h1:o.dst<;>cases h2:q.o.dst<;>simp[h1,h2,wC]at yD⊢;exact yD.1
  have run:∀H1,bd P q.o.op (eS ss tr e0 (fun i=>listed.getD i false) ss.length) ((H0::Hs).getD q0 []) (bX (tj tr j) H1)->H1=((H0::Hs).getD (q0+if q.ld then 1 else 0) [])->
   o.wp P a w (wpAny P .any all Q fuel (listed.setIfInBounds j true)) Q:=by
   intro H1 hk vI;by_cases hz:q.o.op=.du
   ·obtain⟨v,w',f',cV,lz,Na⟩:=M8 _ f a j q o B' I' w _ hq ho zM RN hz Jf ni hn;rw[hz]at hk;simp only[bd,bX]at hk;obtain⟨hv,rfl⟩:=hk;unfold Oper.wp
    rw[cV,Oper.upon_value];rw[vI]at lz;exact next f' _ _ B' I' (by rw[BD];exact Na) lz (eA.refl _) (dY.refl _) (by rw[BD,<-hv];exact he.put _ trivial) (by rw[put_defers];exact hd) (by rw[iq];exact hn)
   have Jg:q.o.op≠ .du:=hz;by_cases cH:∃fx as,q.o.op=.call fx as
   ·obtain⟨fx,as,M6⟩:=cH;rw[M6]at hk xR;obtain⟨g,args,cV,Ao⟩:=BA (by rw[hn];exact xR) he ni hk;unfold Oper.wp
    rw[cV,Oper.upon_enter];refine Ao.mono ?_;rintro en w' ⟨r,v,H2,B2,I2,rfl,⟨rfl,rfl⟩,eM,BJ,EG,eN⟩;simp only;rw[vI]at eM;exact next f _ _ B2 I2 (by rw[BD];exact Yf _ f a j q _ hq zM Jg Jf) eM BJ EG (by rw[BD];exact(he.mono BJ EG).put _ eN) (by rw[put_defers];exact hd) (by rw[iq];exact hn)
   ·have Ap:∀g as,q.o.op≠ .call g as:=fun g as h=>cH ⟨g,as,h⟩
    obtain⟨v,w',x,H2,B2,I2,cV,⟨rfl,rfl⟩,eM,BJ,EG,eN⟩:=Al (by rw[hn];exact xR) he ni hk Ap;unfold Oper.wp
    rw[vI]at eM;have Lb:wpAny P .any all Q fuel (listed.setIfInBounds j true) (a.put o.dst v) w':=
     next f _ _ B2 I2 (by rw[BD];exact Yf _ f a j q _ hq zM Jg Jf) eM BJ EG (by rw[BD];exact(he.mono BJ EG).put _ eN) (by rw[put_defers];exact hd) (by rw[iq];exact hn)
    rcases cV with cV | ⟨cV,rfl⟩
    ·rw[cV,Oper.upon_value];exact Lb
    ·rw[cV,Oper.upon_skip];exact Lb
  have skip:q.o.guard≠none->tj tr j=.iP->((H0::Hs).getD (q0+if q.ld then 1 else 0) [])=((H0::Hs).getD q0 [])->wpAny P .any all Q fuel (listed.setIfInBounds j true) (a.put o.dst undef) w:=by
   intro hgn hv hH;have Jg:q.o.op≠ .du:=fun h=>hgn (hJg j q hq h)
   exact next f _ _ B' I' (by rw[BD];exact Yf _ f a j q _ hq zM Jg Jf) (by rw[hH];exact ni) (eA.refl _) (dY.refl _) (by rw[BD,hv];exact yC he _) (by rw[put_defers];exact hd) (by rw[iq];exact hn)
  unfold wpOp
  rw[ho];simp only;unfold eX at eB
  cases Fv:o.guard with
  | none=>
   rw[Fv]at hg;cases Nb:q.o.guard with
   | some _=>rw[Nb]at hg;simp[jd]at hg
   | none=>
    rw[Nb]at eB;rw[if_pos (by simp[Region.wanted,Fv])];exact .inl (run _ eB rfl)
  | some jb=>
   obtain⟨jj,want⟩:=jb;rw[Fv]at hg;cases Nb:q.o.guard with
   | none=>rw[Nb]at hg;simp[jd]at hg
   | some tb=>
    obtain⟨t,RF⟩:=tb;rw[Nb]at hg eB;simp only[jd,Bool.and_eq_true,beq_iff_eq,decide_eq_true_eq]at hg;obtain⟨⟨rfl,Yj⟩,ht⟩:=hg;simp only at eB;have hy:=tp (a:=a) Yj (by omega) he (v:=eS ss tr e0 (fun i=>listed.getD i false) ss.length t) rfl;cases hv:eS ss tr e0 (fun i=>listed.getD i false) ss.length t with
    | bool b=>
     rw[hv]at eB;simp only at eB;have hw:Region.wanted o (yielded all a.tmps)=decide (b=want):=by
      simp only[Region.wanted,Fv,hy.1 b hv];cases b<;>cases want<;>rfl
     rw[hw];by_cases hb:b=want
     ·rw[if_pos hb]at eB;rw[if_pos (by simpa using hb)];exact .inl (run _ eB rfl)
     ·rw[if_neg hb]at eB;rw[if_neg (by simpa using hb)];exact skip (by rw[Nb];simp) eB.1 eB.2
    | iP=>
     rw[hv]at eB;have hw:Region.wanted o (yielded all a.tmps)=false:=by
      simp only[Region.wanted,Fv,hy.2 hv];rfl
     rw[hw];simp only[Bool.false_eq_true,if_false];exact skip (by rw[Nb];simp) eB.1 eB.2
    | _=>rw[hv]at eB;exact eB.elim
end
def Jh (P:Program) (nt:Nat) (all:Array Oper):Nat->List cK->Bool
 | _,[]=>true
 | m,st::r=>(match all[m]? with
  | some o=>(o.after.toList.all fun e=> !Region.binds .any e || decide (e.on<m)) && o.guard.isNone && st.guard.isNone && jE P nt all o st && (match st.op with | .call _ _=>false | _=>true)
  | none=>false) && Jh P nt all (m+1) r
def chkP (P:Program) (n:Nat) (all:Array Oper) (ss:List QO) (t ia:Nat) (z:Option V) (tail:List cK):Bool:=
 all.size==ss.length+tail.length && fV P n all (all.toList.take ss.length) (ss.map (·.o)) && ((List.range ss.length).all fun j=>lY all ss j && qO ss j && wL ss j) &&
 (match all[ss.length]? with
   | some o=>(List.range ss.length).all fun i=>o.after.toList.any fun e=>Region.binds .any e && (e.on==i || (match ss[e.on]? with | some q=>q.bs.testBit i | none=>false))
   | none=>false) && Jh P n all ss.length tail && decide (0<tail.length) &&
 ((List.range all.size).all fun j=>decide (j<=ss.length) || (match all[j]? with | some o=>o.after.toList.any fun e=>Region.binds .any e && e.on+1==j | none=>false)) &&
 (match all[ia]?,z with
   | some o,some z=>(match o.op with | .alloc ty=>(match zeroOf P ty with | some v=>jc v z | none=>false) | _=>false)
   | some o,none=>(match o.op with | .makeMap ty none=>(match P.underlying ty with | some (.map _ _)=>true | _=>false) | _=>false)
   | none,_=>false) && decide (ia<ss.length) && decide (t<n) &&
 ((List.range ss.length).all fun j=>match ss[j]? with
   | some q=>(match q.o.op with | .du=>j==ia && q.o.dst==some t && q.o.guard.isNone | _=> !(q.o.dst==some t))
   | none=>false) && (match ss[ia]? with | some q=>(match q.o.op with | .du=>true | _=>false) | none=>false)
def dK (P:Program) (n:Nat):Code->aB->Bool
 | .skip,.skip=>true
 | .region _ ops false,.region ss=>fV P n ops ops.toList (strip ss)
 | .region _ ops true,.qregion ss=>Jd P n ops ss && ss.all fun q=>match q.o.op with | .du=>false | _=>true
 | .region _ ops true,.fregion _ ss=>Jd P n ops ss && ss.all fun q=>match q.o.op with | .du=>false | _=>true
 | .region _ ops true,.pregion ss t ia z tail=>chkP P n ops ss t ia z tail
 | .seq a b,.seq a' b'=>dK P n a a' && dK P n b b'
 | .cond c t e,.cond c' t' e'=>cz n c c' && dK P n t t' && dK P n e e'
 | .block i c,.block j c'=>i==j && dK P n c c'
 | .loop c,.loop c'=>dK P n c c'
 | .exit i,.exit j=>i==j
 | .ret,.ret=>true
 | _,_=>false
section
variable {P:Program} {f:Fr}
theorem qQ {id:Nat} {ops:Array Oper} {Q:Exit->Act->World->Prop} {a:Act} {w:World} (h:wpList P ops Q ops.toList a w):(Code.region id ops false).wp P Q a w:=wp_region_list h
def Fz:Option V->Obj->Prop
 | some z,o=>∃carr ty,o=.cells carr ty (0,0)/\(aw z).length<=carr.size/\∀B I,bK B I [z] (fun o=>carr[o]?) (aw z).length 0
 | none,o=>o=.map #[] 0
def Dh:Option V->Nat->Value
 | some _,p=> .pointer (some ⟨p,0,none⟩)
 | none,p=> .map (some p)
structure PF (f f':Fr) (p:Nat) (z:Option V):Prop where
 dI:∃o,f'.w0.heap[p]? =some o/\Fz z o
 nM:¬f'.M p
 nI:f'.I0 p=none
 ge:f.w0.heap.size<=p
 tr:∀B I w H,cD f' B I w H->cD f B I w H
def ts (B:List Pl) (H:List ak) (k:Nat):Prop:=∃(i:Nat) (p:Pl) (b:ak),B[i]? =some p/\H[i]? =some b/\b.live=true/\p.dI=k
theorem cD.self {B:List Pl} {I:IM} {w:World} {H:List ak} (h:cD f B I w H):cD ⟨w,ts B H,I⟩ B I w H where
 len:=h.len
 lH:=h.lH
 wy:=dY.refl _
 dZ b h1 h2:=absurd h1 h2
 os:=rfl
 tape:=rfl
 output:=rfl
 size:=Nat.le_refl _
 keep _ _ _:=rfl
 ok:=h.ok
 sep:=h.sep
 own i p b h1 h2 h3:=⟨(h.own i p b h1 h2 h3).1,.inr ⟨i,p,b,h1,h2,h3,rfl⟩,(h.own i p b h1 h2 h3).2.2⟩
theorem cD.Ji {B B2:List Pl} {I I2:IM} {w w2:World} {H H2:List ak} (h:cD f B I w H) (g:cD ⟨w,ts B H,I⟩ B2 I2 w2 H2):cD f B2 I2 w2 H2:=by
 have hl:∀k,ts B H k->f.w0.heap.size<=k\/f.M k:=by
  rintro k ⟨i,p,b,h1,h2,h3,rfl⟩;exact(h.own i p b h1 h2 h3).2.1
 exact{
  len:=g.len
  lH:=g.lH
  wy:=h.wy.trans g.wy
  dZ:=fun b h0 h1=>by
   by_cases hb:I b=none
   ·rcases g.dZ b hb h1 with h2 | h2
    ·exact .inl (Nat.le_trans h.size h2)
    ·exact hl b h2
   ·exact h.dZ b h0 hb
  os:=g.os.trans h.os
  tape:=g.tape.trans h.tape
  output:=g.output.trans h.output
  size:=Nat.le_trans h.size g.size
  keep:=fun k hk hm=>(g.keep k (Nat.lt_of_lt_of_le hk h.size) (fun ir=>(hl k ir).elim (fun h=>by omega) hm)).trans (h.keep k hk hm)
  ok:=g.ok
  sep:=g.sep
  own:=fun i p b h1 h2 h3=>by
   obtain⟨h4,h5,h6⟩:=g.own i p b h1 h2 h3;refine⟨h4,?_,h6⟩;rcases h5 with h5 | h5
   ·exact .inl (Nat.le_trans h.size h5)
   ·exact hl _ h5}
theorem PF.mk' {B:List Pl} {I:IM} {w:World} {H:List ak} (h:cD f B I w H) (o:Obj) {z:Option V} (hz:Fz z o):
 cD ⟨w.alloc o,ts B H,I⟩ B I (w.alloc o) H/\PF f ⟨w.alloc o,ts B H,I⟩ w.heap.size z:=by
 have hj:=h.nQ o;refine⟨hj.self,⟨o,by show(w.heap.push _)[w.heap.size]? =_;simp,hz⟩,?_,?_,h.size,fun _ _ _ _ g=>hj.Ji g⟩
 ·rintro⟨i,p,b,h1,h2,h3,h4⟩;have:=(h.own i p b h1 h2 h3).2.2;omega
 ·show I _=none;cases hx:I w.heap.size with
  | none=>rfl
  | some o=>have:=h.Mu (b:=w.heap.size) (by rw[hx];simp);omega
theorem Di {v:Value} {ty:TypeId} {z:V} (hz:jc v z=true):Fz (some z) (.cells v.cells ty):=
 ⟨v.cells,ty,rfl,by
  have:=(gI (kJ (B:=[]) (I:=fun _=>none) hz) (kK hz)).length;simp at this⊢;omega,fun B I=>yc (kJ hz) (kK hz)⟩
theorem PF.RP {f':Fr} {p:Nat} {z:Option V} (h:PF f f' p z) {B:List Pl} {I:IM} {w:World} {H:List ak} (g:cD f' B I w H):
 ∃q:Pl,cD f (B++ [q]) I w (H++ [RA z])/\aU (B++ [q]) I (Fk z H.length) (Dh z p):=by
 obtain⟨o,h1,ho⟩:=h.dI;have ct:p<f'.w0.heap.size:=(Array.getElem?_eq_some_iff.1 h1).1;have Yb:I p=none:=by
  cases hx:I p with
  | none=>rfl
  | some o=>
   rcases g.dZ p h.nI (by rw[hx];simp)with h4 | h4
   ·omega
   ·exact absurd h4 h.nM
 have hw:w.heap[p]? =some o:=(g.keep p ct h.nM).trans h1;have x8:∀(i:Nat) q c,B[i]? =some q->H[i]? =some c->c.live=true->q.dI≠p:=by
  intro i q c h4 h5 h6 h7;rcases(g.own i q c h4 h5 h6).2.1 with h8 | h8
  ·omega
  ·rw[h7]at h8;exact h.nM h8
 have gh:I p=none/\(f.w0.heap.size<=p\/f.M p)/\p<w.heap.size:=⟨Yb,.inl h.ge,Nat.lt_of_lt_of_le ct g.size⟩;cases z with
 | some z=>
  obtain⟨carr,ty,rfl,h2,h3⟩:=ho;refine⟨⟨p,0,carr.size,(aw z).length⟩,(h.tr _ _ _ _ g).push _ _ ?_ ?_ ?_,?_⟩
  ·exact⟨carr,ty,hw,rfl,by simpa using h2,h3 _ _⟩
  ·intro i q c h4 h5 h6 h7;exact x8 i q c h4 h5 h6 (by simpa using h7)
  ·exact gh
  ·simp only[aU,Fk,Dh];exact⟨_,by rw[<-g.len,bA,if_pos rfl],by simp⟩
 | none=>
  simp only[Fz]at ho;subst ho;refine⟨⟨p,0,0,0⟩,(h.tr _ _ _ _ g).push _ _ ?_ ?_ ?_,?_⟩
  ·exact⟨#[],0,hw,⟨rfl,rfl⟩,by simp[aV],by simp[aV]⟩
  ·intro i q c h4 h5 h6 h7;exact x8 i q c h4 h5 h6 (by simpa using h7)
  ·exact gh
  ·simp only[aU,Fk,Dh];exact⟨_,by rw[<-g.len,bA,if_pos rfl],by simp⟩
theorem Lf:∀(L:Nat->Bool) (k:Nat),un L k<=k:=by
 intro L k;induction k with
 | zero=>simp[un]
 | succ k ih=>simp only[un];split<;>omega
theorem BK (ss:List QO) (tr:List (Env×V)) (e:Env) (n:Nat):∀k,eS ss tr e (fun i=>(Array.replicate n false).getD i false) k=e:=by
 intro k;induction k with
 | zero=>rfl
 | succ k ih=>
  simp only[eS];rw[show(Array.replicate n false).getD k false=false by simp[Array.getD]];exact ih
theorem tu {all:Array Oper} {listed:Array Bool} (eW:listed.size=all.size) (h:∀i,i<all.size->listed.getD i false=true):Region.ready .any all listed=[]:=by
 cases hr:Region.ready .any all listed with
 | nil=>rfl
 | cons j l=>
  exfalso;have hj:j∈Region.ready .any all listed:=by rw[hr];simp
  rw[mem_ready]at hj;obtain⟨h1,o,ho,_⟩:=hj;have WG:=(Array.getElem?_eq_some_iff.1 ho).1;have h2:=h j WG;have:j<listed.size:=by omega
  simp[Array.getD,this]at h1 h2;rw[h1]at h2;cases h2
theorem vJ {all:Array Oper} {Q:Exit->Act->World->Prop} {listed:Array Bool} {a:Act} {w:World} (hr:Region.ready .any all listed=[]) (hq:Q .normal a w):∀fuel,wpAny P .any all Q fuel listed a w
 | 0=>⟨hr,hq⟩
 | fuel+1=>⟨fun _=>hq,fun i hi=>by rw[hr]at hi;cases hi⟩
theorem tx {n:Nat} {all:Array Oper}:∀(l:List Oper) (m:List cK),fV P n all l m=true->l.length=m.length
 | [],[],_=>rfl
 | [],_::_,h=>by simp[fV]at h
 | _::_,[],h=>by simp[fV]at h
 | x::l,y::m,h=>by simp only[fV,Bool.and_eq_true]at h;simp[tx l m h.2]
theorem BM (hm:P.follows .mixedOrders=true) {nt id:Nat} {ops:Array Oper} {ss:List QO} {n:Nat} {e:Env} {H:List ak} {k:fW} {B:List Pl} {I:IM} {a:Act} {w:World} {Q:Exit->Act->World->Prop}
 (hc:(Jd P nt ops ss && ss.all fun q=>match q.o.op with | .du=>false | _=>true)=true) (hF:kh P ss e H [H] [] (yA P (F P n) ss k)) (hs:cD f B I w H) (he:cy B I e a.tmps) (hd:a.defers=[]) (hn:a.tmps.size=nt) (hq:An P f B I nt k Q):(Code.region id ops true).wp P Q a w:=by
 rw[Bool.and_eq_true]at hc;obtain⟨hc,Jg⟩:=hc;simp only[Jd,Bool.and_eq_true,List.all_eq_true,List.mem_range]at hc;obtain⟨Df,ey⟩:=hc;obtain⟨tr,Hs,e',H',hg,yF,hk⟩:=GR.of_run hF;refine wp_region_any hm ?_;have eM:=hs.drew;have hlen:ops.size=ss.length:=by simpa using tx _ _ Df
 refine vH (R:=fun _ g _=>g=f) (B:=B) (I:=I) (Q:=Q) (Nat.le_of_eq hlen.symm) (by rw[<-hlen,List.take_of_length_le (by simp)];exact Df) (fun j hj=>(ey j hj).1.1) (fun j hj=>(ey j hj).1.2) (fun j hj=>(ey j hj).2)
  (fun L _ _ j o hj hh=>absurd (Array.getElem?_eq_some_iff.1 hj).1 (by omega)) hg yF ?_ (fun _ _ _ _ _ _ _ _ _ h=>h) ?_ ?_ ops.size _ 0 f B I a w.drew (by simp) ?_ ?_ ?_ (Nat.zero_le _) ?_ rfl eM (eA.refl _) (dY.refl _) ?_ hd hn
 ·intro j q hj hz;have:=List.all_eq_true.1 Jg q (List.mem_of_getElem? hj);rw[hz]at this;simp at this
 ·intro L g a' j q o B' I' w' H' hj ho hL WH hz;have:=List.all_eq_true.1 Jg q (List.mem_of_getElem? hj);rw[hz]at this;simp at this
 ·rintro _ B' I' a' w' fuel listed rfl h1 h2 h3 h4 h5 h6 h7 h8 h9 eb;exact vJ (tu h7 (fun i hi=>h8 i (by omega))) (hq n _ e' H' B' I' a' w' hk h1 h2 h3 h4 h5 h6) fuel
 ·intro j o hj hL;simp[Array.getD]at hL
 ·intro i hi;simp[Array.getD]
 ·intro i p hi hl;constructor
  ·intro hL;simp[Array.getD]at hL
  ·intro h;omega
 ·have:=Lf (fun i=>(Array.replicate ops.size false).getD i false) ss.length;omega
 ·rw[BK];exact he
theorem tz {nt N:Nat} {all:Array Oper} {B:List Pl} {I:IM} {k:fW} {Q:Exit->Act->World->Prop} (hq:An P f B I nt k Q) (wN:∀(j:Nat) (o:Oper),N<j->all[j]? =some o->∃e∈o.after,Region.binds .any e=true/\e.on+1=j):
 ∀(tail:List cK) (n m:Nat) (e:Env) (H:List ak) (B':List Pl) (I':IM) (a:Act) (w:World) (fuel:Nat) (listed:Array Bool),N<=m->all.size=m+tail.length->listed.size=all.size->(∀i,i<m->listed.getD i false=true)->(∀i,m<=i->listed.getD i false=false)->tail.length<=fuel->
  Jh P nt all m tail=true->F P n (.ops tail e H k)->cD f B' I' w H->eA B B'->dY I I'->cy B' I' e a.tmps->a.defers=[]->a.tmps.size=nt->wpAny P .any all Q fuel listed a w
 | [],n,m,e,H,B',I',a,w,fuel,listed,hN,eW,fv,uN,jf,hf,hc,hF,hs,hB,hI,he,hd,hn=>by
  cases n with
  | zero=>exact hF.elim
  | succ n=>
   rw[La]at hF;exact vJ (tu fv (fun i hi=>uN i (by simp at eW;omega))) (hq n _ e H B' I' a w hF hs hB hI he hd hn) fuel
 | st::tail,n,m,e,H,B',I',a,w,fuel,listed,hN,eW,fv,uN,jf,hf,hc,hF,hs,hB,hI,he,hd,hn=>by
  simp only[Jh,Bool.and_eq_true]at hc;obtain⟨hc,hct⟩:=hc;simp only[List.length_cons]at eW hf;split at hc
  case h_2=>cases hc
  rename_i oz RQ;simp only[Bool.and_eq_true,List.all_eq_true,Option.isNone_iff_eq_none]at hc;obtain⟨⟨⟨⟨Ri,Jj⟩,WI⟩,hz4⟩,hz5⟩:=hc;have hzE:∀ed∈oz.after,Region.binds .any ed=true->ed.on<m:=by
   intro ed h1 h2;have:=Ri ed (by simpa using h1);simpa[h2]using this
  obtain⟨fuel,rfl⟩:∃r,fuel=r+1:=⟨fuel - 1,by omega⟩;refine⟨fun hr=> ?_,fun i hi=> ?_⟩
  ·exfalso;have hm:m∈Region.ready .any all listed:=by
    rw[mem_ready];have ct:m<listed.size:=by omega
    refine⟨?_,oz,RQ,fun ed kd hb=>uN ed.on (hzE ed kd hb)⟩;have:=jf m (Nat.le_refl _);simp[Array.getD,ct]at this⊢;exact this
   rw[hr]at hm;cases hm
  ·rw[mem_ready]at hi;obtain⟨FA,o,ho,lZ⟩:=hi;have Yk:=(Array.getElem?_eq_some_iff.1 ho).1;have dF:i<listed.size:=by omega
   obtain rfl:i=m:=by
    by_cases h:i<m
    ·have:=uN i h;simp[Array.getD,dF]at this FA;rw[this]at FA;cases FA
    ·by_cases h2:i=m
     ·exact h2
     ·exfalso;obtain⟨ed,h3,h4,h5⟩:=wN i o (by omega) ho;have h6:=lZ ed h3 h4;have h7:=jf ed.on (by omega);rw[h7]at h6;cases h6
   rw[RQ]at ho;cases ho;cases n with
   | zero=>exact hF.elim
   | succ n=>
    obtain⟨sd,so,sg⟩:=st;simp only at WI hz5;subst WI;rw[I9]at hF;simp only[jE,Bool.and_eq_true]at hz4;obtain⟨⟨yD,_⟩,xR⟩:=hz4;have BD:oz.dst=sd:=by
     cases h1:oz.dst<;>cases h2:sd<;>simp[h1,h2,wC]at yD⊢;exact yD.1
    have hnc:∀g as,so≠ .call g as:=by
     rintro g as rfl;simp at hz5
    obtain⟨v,w2,x,H2,B2,I2,cV,ir,hs3,hB3,hI3,eN⟩:=Al (by rw[hn];exact xR) he hs hF hnc;have fi:wpAny P .any all Q fuel (listed.setIfInBounds i true) (a.put oz.dst v) w2:=by
     rw[py]at ir;refine tz hq wN tail n (i+1) _ H2 B2 I2 _ w2 fuel _ (by omega) (by omega) (by simpa using fv) (fun j hj=> ?_) (fun j hj=> ?_) (by omega) hct ir hs3 (hB.trans hB3) (hI.trans hI3) (by rw[BD];exact(he.mono hB3 hI3).put _ eN) (by rw[put_defers];exact hd) (by rw[iq];exact hn)
     ·by_cases rm:j=i
      ·subst rm;simp[Array.getD,dF]
      ·rw[getD_set_ne false (fun h=>rm h.symm)];exact uN j (by omega)
     ·rw[getD_set_ne false (by omega)];exact jf j (by omega)
    unfold wpOp
    rw[RQ];simp only;rw[if_pos (by simp[Region.wanted,Jj])];refine .inl ?_;unfold Oper.wp
    rcases cV with cV | ⟨cV,rfl⟩
    ·rw[cV,Oper.upon_value];exact fi
    ·rw[cV,Oper.upon_skip];exact fi
theorem Aq (hm:P.follows .mixedOrders=true) {nt:Nat}:∀(c:Code) (s:aB),dK P nt c s=true->∀(n:Nat) (e:Env) (H:List ak) (k:fW) (B:List Pl) (I:IM) (a:Act) (w:World) (Q:Exit->Act->World->Prop),
 F P n (.code s e H k)->cD f B I w H->cy B I e a.tmps->a.defers=[]->a.tmps.size=nt->An P f B I nt k Q->c.wp P Q a w:=by
 intro c;induction c with
 | skip=>
  intro s hc n e H k B I a w Q hF hs he hd hn hq;cases s<;>simp only[dK,Bool.false_eq_true]at hc;cases n with
  | zero=>exact hF.elim
  | succ n=>exact wp_skip (hq n _ e H B I a w hF hs (eA.refl _) (dY.refl _) he hd hn)
 | region id ops draw=>
  intro s hc n e H k B I a w Q hF hs he hd hn hq;cases n with
  | zero=>exact hF.elim
  | succ n=>
   cases draw with
   | false=>
    cases s<;>simp only[dK,Bool.false_eq_true]at hc;rename_i ss;exact qQ (ko hc hF hs he hd hn hq)
   | true=>
    cases s<;>simp only[dK,Bool.false_eq_true]at hc
    case qregion ss=>
     rw[vE]at hF;exact BM hm hc hF hs he hd hn hq
    case fregion t ss=>
     rw[vF]at hF;obtain⟨D,v',lX,hF⟩:=hF;obtain⟨I2,hI,lz,eN⟩:=hs.freeze D;refine BM hm hc hF lz ?_ hd hn (hq.mono (eA.refl _) hI);intro i v hv;have h1:=he i v hv;show aU B I2 (az e t v' i) v;unfold az
     split
     ·rename_i hi;subst hi;exact(eN 20 lX h1).mono (fun i p h=>by simp at h) (dY.refl _)
     ·exact h1.mono (eA.refl _) hI
    case pregion ss t ia z tail=>
     simp only[chkP,Bool.and_eq_true,List.all_eq_true,List.mem_range,beq_iff_eq,decide_eq_true_eq]at hc;obtain⟨⟨⟨⟨⟨⟨⟨⟨⟨⟨⟨eW,Df⟩,ey⟩,Ii⟩,RR⟩,EE⟩,WJ⟩,qK⟩,M9⟩,WK⟩,WL⟩,Ij⟩:=hc;split at Ii
     case h_2=>cases Ii
     rename_i oz RQ;simp only[List.all_eq_true,List.mem_range]at Ii;have wN:∀(j:Nat) (o:Oper),ss.length<j->ops[j]? =some o->∃e∈o.after,Region.binds .any e=true/\e.on+1=j:=by
      intro j o ct hj;have WG:=(Array.getElem?_eq_some_iff.1 hj).1;have:=WJ j WG;rw[hj]at this;simp only[Bool.or_eq_true,decide_eq_true_eq,List.any_eq_true,Bool.and_eq_true,beq_iff_eq]at this;rcases this with h | ⟨ed,h1,h2,h3⟩
      ·omega
      ·exact⟨ed,by simpa using h1,h2,h3⟩
     have Nc:∃oa ob,ops[ia]? =some oa/\Fz z ob/\∀(a':Act) (w':World),(execOp a'.eval oa).run P w'=.ok (.value (Dh z w'.heap.size)) (w'.alloc ob):=by
      split at qK
      ·rename_i oa z' Jk;split at qK
       case h_2=>cases qK
       rename_i ty Ql;split at qK
       case h_2=>cases qK
       rename_i vz hvz;exact⟨oa,_,Jk,Di qK,fun a' w'=>sW Ql hvz⟩
      ·rename_i oa Jk;split at qK
       case h_2=>cases qK
       rename_i ty Ql;split at qK
       case h_2=>cases qK
       rename_i kt e hu;refine⟨oa,_,Jk,rfl,fun a' w'=> ?_⟩;simp only[execOp,Ql,Instr.makeMap,Sem.run_bind,run_underlying hu,Result.andThen_ok,Sem.run_pure,Dh];rfl
      ·cases qK
     obtain⟨oa,ob,Jk,Yl,RS⟩:=Nc;rw[vG]at hF;obtain⟨tr,Hs,e',H',hg,yF,hk⟩:=GR.of_run hF;refine wp_region_any hm ?_;have eM:=hs.drew;have Ym:∀(j:Nat) (q:QO),ss[j]? =some q->(q.o.op=.du->j=ia/\q.o.dst=some t/\q.o.guard=none)/\(q.o.op≠ .du->q.o.dst≠some t):=by
      intro j q hj;have vK:=WL j (List.getElem?_eq_some_iff.1 hj).1;rw[hj]at vK;simp only at vK;constructor
      ·intro hz;rw[hz]at vK;simp only[Bool.and_eq_true,beq_iff_eq,Option.isNone_iff_eq_none]at vK;exact⟨vK.1.1,vK.1.2,vK.2⟩
      ·intro hz hd;rw[hd]at vK;split at vK
       ·rename_i h;exact hz h
       ·simp at vK
     have hE:∀j,j<ss.length->lY ops ss j=true:=fun j hj=>(ey j hj).1.1
     refine vH (R:=fun L g a=>(L ia=false/\g=f)\/(L ia=true/\∃p,PF f g p z/\a.tmps[t]? =some (Dh z p))) (B:=B) (I:=I) (Q:=Q) (by omega) Df hE (fun j hj=>(ey j hj).1.2) (fun j hj=>(ey j hj).2)
      ?_ hg yF ?_ ?_ ?_ ?_ ops.size _ 0 f B I a w.drew (by simp) ?_ ?_ ?_ (Nat.zero_le _) ?_ (.inl ⟨by simp[Array.getD],rfl⟩) eM (eA.refl _) (dY.refl _) ?_ hd hn
     ·intro L eT Je j o hj hle lZ i hi;have Nd:=(Array.getElem?_eq_some_iff.1 hj).1;by_cases nZ:j=ss.length
      ·subst nZ;rw[RQ]at hj;cases hj;have:=Ii i hi;simp only[List.any_eq_true,Bool.and_eq_true,Bool.or_eq_true,beq_iff_eq]at this;obtain⟨ed,h1,h2,h3⟩:=this;have h4:=lZ ed (by simpa using h1) h2;rcases h3 with h3 | h3
       ·rw[h3]at h4;exact h4
       ·split at h3
        ·rename_i q hq;have hqN:ed.on<ss.length:=(List.getElem?_eq_some_iff.1 hq).1;have hqa:ed.on<ops.size:=by omega
         exact iU rfl hE eT ed.on hqN q ops[ed.on] hq (by simp[hqa]) (eT ed.on _ hqN h4 (by simp[hqa])) i hi h3
        ·cases h3
      ·exfalso;obtain⟨ed,h3,h4,h5⟩:=wN j o (by omega) hj;have h6:=lZ ed h3 h4;have h7:=Je ed.on (by omega);rw[h7]at h6;cases h6
     ·intro j q hj hz;exact((Ym j q hj).1 hz).2.2
     ·intro L g a' j q v hj hL hz hR;have dr:=(Ym j q hj).2 hz;have RT:j≠ia:=by
       rintro rfl;rw[hj]at Ij;simp only at Ij;exact absurd Ij (by simp)
      rcases hR with⟨h1,h2⟩ | ⟨h1,p,h2,h3⟩
      ·exact .inl ⟨by simp[Ne.symm RT,h1],h2⟩
      ·refine .inr ⟨by simp[Ne.symm RT,h1],p,h2,?_⟩;cases hd:q.o.dst with
       | none=>exact h3
       | some d=>
        rw[hd]at dr;have:d≠t:=fun h=>dr (by rw[h])
        simp only[Act.put,Array.getElem?_setIfInBounds,if_neg this];exact h3
     ·intro L g a' j q o B' I' w' H' hj ho hL WH hz hR ni nH;obtain⟨rfl,hd,hgn⟩:=(Ym j q hj).1 hz;rw[Jk]at ho;cases ho;rcases hR with⟨h1,rfl⟩ | ⟨h1,_⟩
      ·obtain⟨h2,h3⟩:=PF.mk' ni ob Yl;refine⟨_,_,_,RS _ _,h2,.inr ⟨by simp,_,h3,?_⟩⟩;rw[hd];simp[Act.put,Array.getElem?_setIfInBounds,nH,WK]
      ·rw[hL]at h1;cases h1
     ·intro g B' I' a' w' fuel listed hR h1 h2 h3 h4 h5 h6 h7 h8 h9 eb;have Le:=h8 ia M9;rcases hR with⟨hR,_⟩ | ⟨_,p,hp,ht⟩
      ·simp only[Le]at hR;cases hR
      obtain⟨pl,lz,lJ⟩:=hp.RP h1;have zK:cy (B'++ [pl]) I' (az e' t (Fk z H'.length)) a'.tmps:=by
       intro i v hv;unfold az
       split
       ·rename_i h;subst h;rw[ht]at hv;cases hv;exact lJ
       ·exact(h4 i v hv).mono (eA.append _ _) (dY.refl _)
      exact tz hq wN tail n ss.length _ _ _ _ _ _ fuel listed (Nat.le_refl _) eW h7 h8 h9 (by omega) RR hk lz (h2.trans (eA.append _ _)) h3 zK h5 h6
     ·intro j o hj hL;simp[Array.getD]at hL
     ·intro i hi;simp[Array.getD]
     ·intro i p hi hl;constructor
      ·intro hL;simp[Array.getD]at hL
      ·intro h;omega
     ·have:=Lf (fun i=>(Array.replicate ops.size false).getD i false) ss.length;omega
     ·rw[BK];exact he
 | seq x y WM WN=>
  intro s hc n e H k B I a w Q hF hs he hd hn hq;cases s<;>simp only[dK,Bool.false_eq_true,Bool.and_eq_true]at hc;rename_i s1 s2;cases n with
  | zero=>exact hF.elim
  | succ n=>
   refine wp_seq (WM s1 hc.1 n e H (.seq s2 k) B I a w _ hF hs he hd hn ?_);intro m x e' H' B' I' a' w' xT eM hB hI kd sl nH;cases m with
   | zero=>exact xT.elim
   | succ m=>
    cases x with
    | normal=>exact WN s2 hc.2 m e' H' k B' I' a' w' Q xT eM kd sl nH (hq.mono hB hI)
    | _=>exact hq m _ e' H' B' I' a' w' xT eM hB hI kd sl nH
 | cond c x y WM WN=>
  intro s hc n e H k B I a w Q hF hs he hd hn hq;cases s<;>simp only[dK,Bool.false_eq_true,Bool.and_eq_true]at hc;rename_i c' s1 s2;obtain⟨⟨h1,h2⟩,h3⟩:=hc;have hr:=bh (by rw[hn];exact h1) he;cases n with
  | zero=>exact hF.elim
  | succ n=>
   cases c' with
   | tmp i=>
    rw[Fp]at hF;simp only[dp]at hr;cases hv:e i with
    | bool b=>
     rw[hv]at hF hr;simp only[aU]at hr;refine wp_cond hr ?_;cases b with
     | true=>have:=hF.1 rfl;rw[upd_self hv rfl]at this;exact WM s1 h2 n e H k B I a w Q this hs he hd hn hq
     | false=>have:=hF.2 rfl;rw[upd_self hv rfl]at this;exact WN s2 h3 n e H k B I a w Q this hs he hd hn hq
    | _=>rw[hv]at hF;exact hF.elim
   | val v=>
    have Yn:(match v with
     | .bool b=>aA b (F P n (.code s1 e H k)) (F P n (.code s2 e H k))
     | _=>False):=by
     have:F P (n+1) (.code (.cond (.val v) s1 s2) e H k)=(match v with
      | .bool b=>aA b (F P n (.code s1 e H k)) (F P n (.code s2 e H k))
      | _=>False):=by cases v<;>rfl
     rw[this]at hF;exact hF
    simp only[dp]at hr;cases v with
    | bool b=>
     simp only[aU]at hr;refine wp_cond hr ?_;cases b with
     | true=>exact WM s1 h2 n e H k B I a w Q (Yn.1 rfl) hs he hd hn hq
     | false=>exact WN s2 h3 n e H k B I a w Q (Yn.2 rfl) hs he hd hn hq
    | _=>exact Yn.elim
 | block id x ih=>
  intro s hc n e H k B I a w Q hF hs he hd hn hq;cases s<;>simp only[dK,Bool.false_eq_true,Bool.and_eq_true,beq_iff_eq]at hc;rename_i j s1;obtain⟨rfl,hc⟩:=hc;cases n with
  | zero=>exact hF.elim
  | succ n=>
   refine wp_block (ih s1 hc n e H (.block id k) B I a w _ hF hs he hd hn ?_);intro m x e' H' B' I' a' w' xT eM hB hI kd sl nH;cases m with
   | zero=>exact xT.elim
   | succ m=>
    cases x with
    | exit i=>
     rw[yB]at xT;show(if i=id then Q .normal a' w' else Q (.exit i) a' w');split
     ·rename_i h;rw[if_pos h]at xT;exact hq m _ e' H' B' I' a' w' xT eM hB hI kd sl nH
     ·rename_i h;rw[if_neg h]at xT;exact hq m _ e' H' B' I' a' w' xT eM hB hI kd sl nH
    | _=>exact hq m _ e' H' B' I' a' w' xT eM hB hI kd sl nH
 | loop x ih=>
  intro s hc n e H k B I a w Q hF hs he hd hn hq;cases s<;>simp only[dK,Bool.false_eq_true]at hc;rename_i s1;cases n with
  | zero=>exact hF.elim
  | succ n=>
   obtain⟨Inv,m0,h0,Nf⟩:=hF;refine wp_loop_ghost (fun m a w=>∃e H B' I',Inv m e H/\cD f B' I' w H/\eA B B'/\dY I I'/\cy B' I' e a.tmps/\a.defers=[]/\a.tmps.size=nt) m0
    ⟨e,H,B,I,h0,hs,eA.refl _,dY.refl _,he,hd,hn⟩ ?_
   rintro m a w ⟨e,H,B',I',hi,eM,hB,hI,kd,sl,nH⟩;refine ih s1 hc n e H (.loop Inv m k) B' I' a w _ (Nf m e H hi) eM kd sl nH ?_;intro l x e2 H2 B2 I2 a2 w2 xT lz BJ EG Qm l3 nY;cases l with
   | zero=>exact xT.elim
   | succ l=>
    cases x with
    | normal=>
     obtain⟨m',ct,xP⟩:=xT;exact⟨m',ct,e2,H2,B2,I2,xP,lz,hB.trans BJ,hI.trans EG,Qm,l3,nY⟩
    | _=>exact hq l _ e2 H2 B2 I2 a2 w2 xT lz (hB.trans BJ) (hI.trans EG) Qm l3 nY
 | exit id=>
  intro s hc n e H k B I a w Q hF hs he hd hn hq;cases s<;>simp only[dK,Bool.false_eq_true,beq_iff_eq]at hc;subst hc;cases n with
  | zero=>exact hF.elim
  | succ n=>exact wp_exit (hq n _ e H B I a w hF hs (eA.refl _) (dY.refl _) he hd hn)
 | ret=>
  intro s hc n e H k B I a w Q hF hs he hd hn hq;cases s<;>simp only[dK,Bool.false_eq_true]at hc;cases n with
  | zero=>exact hF.elim
  | succ n=>exact wp_ret (hq n _ e H B I a w hF hs (eA.refl _) (dY.refl _) he hd hn)
 | _=>intro s hc;cases s<;>simp[dK]at hc
end
end Go.Proofs.YtdgoeblpcnjlbaaGreatDoor.Av

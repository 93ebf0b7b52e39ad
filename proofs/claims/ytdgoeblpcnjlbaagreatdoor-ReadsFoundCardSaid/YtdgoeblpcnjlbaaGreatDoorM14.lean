/- ReadsFound. Text 14 of 17. -/
import Derived.Test.YtdgoeblpcnjlbaaGreatDoorM13
set_option linter.all false
set_option maxRecDepth 100000
set_option maxHeartbeats 64000000
namespace Go.Proofs.YtdgoeblpcnjlbaaGreatDoor.Av
open Go.RowKit List
mutual
def exN:Ex->List ByteArray
 | .mk k n s xs=>(if k=2 then[s]else[])++exNs xs
def exNs:List Ex->List ByteArray
 | []=> []
 | x::l=>exN x++exNs l
end
def inE (nm:ByteArray) (e:Ex):Bool:=(exN e).any fun z=>decide (nm=z)
theorem inE_iff {nm:ByteArray} {e:Ex}:inE nm e=true↔nm∈exN e:=by simp[inE]
def ixR (role:ByteArray) (ps:List ByteArray):Int:=oc (fun y=>decide (role=y)) ps 0
def seF (k:Int) (r t v nm role:ByteArray):Bool:=decide (v=nm) && ((decide (k=3) && decide (r=role)) || (decide (k=1) && decide (t=role)))
mutual
def ulS (X:List Pr) (C:Nat->Int->Bool) (nm role:ByteArray):St->Bool
 | .mk k r t v _ _ a b p ps=>if k=4 then ulL X C nm role a || ulL X C nm role b else if k=5 then C (procI X p).toNat (ixR role ps)else !(decide (role≠⟨#[]⟩) && seF k r t v nm role)
def ulL (X:List Pr) (C:Nat->Int->Bool) (nm role:ByteArray):List St->Bool
 | []=>true
 | s::l=>ulS X C nm role s && ulL X C nm role l
end
theorem ulL_all (X:List Pr) (C:Nat->Int->Bool) (nm role:ByteArray):∀l,ulL X C nm role l=l.all (ulS X C nm role)
 | []=>by simp[ulL]
 | s::l=>by simp[ulL,ulL_all X C nm role l]
def roA (X:List Pr) (i:Nat) (k:Int):ByteArray:=if k<0 then⟨#[]⟩else match X[i]? with
 | some q=>q.au.getD k.toNat ⟨#[]⟩
 | none=>⟨#[]⟩
mutual
def wfE (X:List Pr):St->Bool
 | .mk k r _ _ _ _ a b p ps=>(decide (k=4) || (a.isEmpty && b.isEmpty)) && (decide (k≠5) || (decide (r=⟨#[]⟩) && (ps.all (fun z=>decide (z≠⟨#[]⟩)) && decide (0<=procI X p)))) && (wfEs X a && wfEs X b)
def wfEs (X:List Pr):List St->Bool
 | []=>true
 | s::l=>wfE X s && wfEs X l
end
theorem st_0 {k:Int} {r t v l:ByteArray} {e:Ex} {no:Bool} {na nb:Nat} {p:ByteArray} {ps:List ByteArray} {d:Int} (h:rA k r t v l e no na nb p ps d=0):
 (k≠4->na=0/\nb=0)/\(k=5->r=⟨#[]⟩/\∀z∈ps,z≠⟨#[]⟩):=by
 unfold rA at h
 split at h;·cases h
 split at h;·cases h
 split at h;·cases h
 rename_i hf;split at h;·cases h
 split at h
 ·rename_i h1;exact absurd h h1.2
 have pO:¬(((k<1\/4<k)/\nE r=true)\/((k<1\/2<k)/\nE t=true)\/((k≠1/\k≠3)/\nE v=true)\/(k≠2/\nE l=true)\/((k≠1/\k≠3/\k≠4)/\no=false)\/(k≠4/\na+nb>0)\/((1<=k/\k<=4)/\(nE p=true\/ps.length>0))):=fun hc=>hf (by rw[yK,if_pos hc];decide)
 refine⟨fun h4=> ?_,fun h5=>⟨?_,?_⟩⟩
 ·have:¬(na+nb>0):=fun hc=>pO (.inr (.inr (.inr (.inr (.inr (.inl ⟨h4,hc⟩))))))
  omega
 ·refine Classical.byContradiction fun hr=>pO (.inl ⟨.inr (by omega),by simp[nE,hr]⟩)
 ·rw[if_neg (by omega)]at h;split at h;·cases h
  split at h;·cases h
  split at h;·cases h
  rename_i hn;rintro z hz rfl;exact hn (List.any_eq_true.2 ⟨_,hz,by decide⟩)
mutual
theorem wfE_of (X:List Pr):∀(s:St) (d:Int),sF s d=0->DL X s=true->wfE X s=true
 | .mk k r t v l e a b p ps,d,h,ho=>by
  simp only[sF]at h;split at h
  ·rename_i h1;exact absurd h h1
  rename_i h1;split at h
  ·rename_i h2;exact absurd h h2
  rename_i h2;simp only[ne_eq,Decidable.not_not]at h1 h2;simp only[DL,Bool.and_eq_true,Bool.or_eq_true,bne_iff_ne,ne_eq,decide_eq_true_eq]at ho;have ha:=wfEs_of X a (d+1) h2 ho.2.1;have hb:=wfEs_of X b (d+1) h ho.2.2;rcases e with⟨ek,en,es,aR⟩
  simp only[kq]at h1;obtain⟨h4,h5⟩:=st_0 h1;simp only[wfE,ha,hb,Bool.and_true,Bool.and_eq_true,Bool.or_eq_true,decide_eq_true_eq,List.isEmpty_iff,List.all_eq_true];refine⟨?_,?_⟩
  ·by_cases hk:k=4
   ·exact .inl hk
   ·obtain⟨q1,q2⟩:=h4 hk;exact .inr ⟨List.eq_nil_of_length_eq_zero q1,List.eq_nil_of_length_eq_zero q2⟩
  ·by_cases hk:k=5
   ·exact .inr ⟨(h5 hk).1,(h5 hk).2,by rcases ho.1 with hh | hh;exact absurd hk hh;exact hh⟩
   ·exact .inl hk
theorem wfEs_of (X:List Pr):∀(l:List St) (d:Int),gA l d=0->uU X l=true->wfEs X l=true
 | [],d,_,_=>rfl
 | s::l,d,h,ho=>by
  simp only[gA]at h;split at h
  ·rename_i h1;exact absurd h h1
  rename_i h1;simp only[ne_eq,Decidable.not_not]at h1;simp only[uU,Bool.and_eq_true]at ho;simp only[wfEs,wfE_of X s d h1 ho.1,wfEs_of X l d h ho.2,Bool.and_self]
end
theorem wf_main {P:bH} (h:lK P=0) (dx:AN P):wfEs P.procs P.main=true:=wfEs_of _ _ 1 (mD (y8 h)).2.1 dx.1
theorem wf_body {P:bH} (h:lK P=0) (dx:AN P) {i:Nat} {q:Pr} (hq:P.procs[i]? =some q):wfEs P.procs q.steps=true:=
 wfEs_of _ _ 1 (sJ h q (List.mem_of_getElem? hq)).2.1 (dx.2 q (List.mem_of_getElem? hq))
mutual
theorem ulS_mono {X:List Pr} {C D:Nat->Int->Bool} (h:∀i k,C i k=true->D i k=true) (nm role:ByteArray):∀s,ulS X C nm role s=true->ulS X D nm role s=true
 | .mk k r t v l e a b p ps,hs=>by
  simp only[ulS]at hs⊢;by_cases h4:k=4
  ·rw[if_pos h4]at hs⊢;simp only[Bool.or_eq_true]at hs⊢;exact hs.imp (ulL_mono h nm role a) (ulL_mono h nm role b)
  ·rw[if_neg h4]at hs⊢;by_cases h5:k=5
   ·rw[if_pos h5]at hs⊢;exact h _ _ hs
   ·rw[if_neg h5]at hs⊢;exact hs
theorem ulL_mono {X:List Pr} {C D:Nat->Int->Bool} (h:∀i k,C i k=true->D i k=true) (nm role:ByteArray):∀l,ulL X C nm role l=true->ulL X D nm role l=true
 | [],_=>rfl
 | s::l,hs=>by
  simp only[ulL,Bool.and_eq_true]at hs⊢;exact⟨ulS_mono h nm role s hs.1,ulL_mono h nm role l hs.2⟩
end
def UCl (X:List Pr) (nm:ByteArray) (C:Nat->Int->Bool):Prop:=∀(i:Nat) (q:Pr) (k:Int),X[i]? =some q-> -1<=k->k<q.au.length->ulL X C nm (roA X i k) q.steps=true->C i k=true
def ULo (X:List Pr) (nm:ByteArray) (C:Nat->Int->Bool):Prop:=∀D,UCl X nm D->∀i k,C i k=true->D i k=true
theorem ixR_neg {role:ByteArray} {ps:List ByteArray} (h:role∉ps):ixR role ps= -1:=by
 rcases jN (fun y=>decide (role=y)) ps 0 (by omega)with⟨hI,_⟩ | ⟨pre,q,post,ao,hI,hF⟩
 ·exact hI
 ·have hq:role=q:=by have:=List.find?_some hF;simpa using this
  subst hq;exact absurd (by rw[ao];simp) h
mutual
theorem ulS_th {X:List Pr} {C:Nat->Int->Bool} {E:List Bool} (h:∀j:Nat,C j (-1)=E.getD j false) (nm:ByteArray):∀s,wfE X s=true->ulS X C nm ⟨#[]⟩ s=oT (ga X E) s
 | .mk k r t v l e a b p ps,hw=>by
  simp only[wfE,Bool.and_eq_true,Bool.or_eq_true,decide_eq_true_eq,List.all_eq_true]at hw;obtain⟨⟨_,h5⟩,ha,hb⟩:=hw;simp only[ulS,oT];by_cases hk:k=4
  ·rw[if_pos hk,if_pos hk,ulL_th h nm a ha,ulL_th h nm b hb]
  ·rw[if_neg hk,if_neg hk];by_cases hk5:k=5
   ·rw[if_pos hk5,if_pos hk5];rcases h5 with h5 | ⟨_,h5,h6⟩
    ·exact absurd hk5 h5
    ·rw[ixR_neg (fun hm=>h5 _ hm rfl),h,ga,if_neg (by omega)]
   ·rw[if_neg hk5,if_neg hk5];simp
theorem ulL_th {X:List Pr} {C:Nat->Int->Bool} {E:List Bool} (h:∀j:Nat,C j (-1)=E.getD j false) (nm:ByteArray):∀l,wfEs X l=true->ulL X C nm ⟨#[]⟩ l=lu (ga X E) l
 | [],_=>rfl
 | s::l,hw=>by
  simp only[wfEs,Bool.and_eq_true]at hw;rw[ulL,lu,ulS_th h nm s hw.1,ulL_th h nm l hw.2]
end
def CT (E:List Bool) (T:Nat->Nat->Bool) (i:Nat) (k:Int):Bool:=if k<0 then decide (k= -1) && E.getD i false else T i k.toNat
def TCl (X:List Pr) (nm:ByteArray) (E:List Bool) (T:Nat->Nat->Bool):Prop:=∀(i:Nat) (q:Pr) (k:Nat) r,X[i]? =some q->q.au[k]? =some r->ulL X (CT E T) nm r q.steps=true->T i k=true
def TLo (X:List Pr) (nm:ByteArray) (E:List Bool) (T:Nat->Nat->Bool):Prop:=∀U,TCl X nm E U->∀i k,T i k=true->U i k=true
theorem TLo.empty (X:List Pr) (nm:ByteArray) (E:List Bool):TLo X nm E (fun _ _=>false):=fun C _ i k h=>by cases h
theorem CT_mono {E:List Bool} {T U:Nat->Nat->Bool} (h:∀i k,T i k=true->U i k=true) (i:Nat) (k:Int) (hc:CT E T i k=true):CT E U i k=true:=by
 unfold CT at*
 split at hc
 ·rename_i h0;rw[if_pos h0];exact hc
 ·rename_i h0;rw[if_neg h0];exact h _ _ hc
theorem roA_of {X:List Pr} {i:Nat} {q:Pr} {k:Nat} {r:ByteArray} (hq:X[i]? =some q) (hr:q.au[k]? =some r):roA X i (k:Int)=r:=by
 rw[roA,if_neg (by omega),hq];simp[List.getD_eq_getElem?_getD,hr]
theorem roA_neg (X:List Pr) (i:Nat):roA X i (-1)=⟨#[]⟩:=by simp[roA]
theorem CT_cl {X:List Pr} {nm:ByteArray} {T:Nat->Nat->Bool} (hw:∀(i:Nat) (q:Pr),X[i]? =some q->wfEs X q.steps=true) (h:TCl X nm (bY X) T):UCl X nm (CT (bY X) T):=by
 intro i q k hq iT ir hu;by_cases h0:k<0
 ·have hk:k= -1:=by omega
  subst hk;rw[roA_neg,ulL_th (E:=bY X) (fun j=>by simp[CT]) nm _ (hw i q hq)]at hu;have:=(vZ X).2 i q hq hu;simp[CT,List.getD_eq_getElem?_getD,this]
 ·obtain⟨n,rfl⟩:∃n:Nat,k=n:=⟨k.toNat,by omega⟩;have hn:n<q.au.length:=by omega
  have hr:q.au[n]? =some q.au[n]:=List.getElem?_eq_getElem hn;rw[roA_of hq hr]at hu;have:=h i q n _ hq hr hu;rw[CT,if_neg (by omega),Int.toNat_natCast];exact this
theorem CT_lo {X:List Pr} {nm:ByteArray} {T:Nat->Nat->Bool} (hw:∀(i:Nat) (q:Pr),X[i]? =some q->wfEs X q.steps=true) (h:TLo X nm (bY X) T):ULo X nm (CT (bY X) T):=by
 intro D hD i k hc;have hE:∀j:Nat,(bY X)[j]? =some true->D j (-1)=true:=by
  let E':List Bool:=(List.range X.length).map fun j=>D j (-1)
  have hl:E'.length=X.length:=by simp[E']
  have hg:∀j:Nat,j<X.length->E'[j]? =some (D j (-1)):=fun j hj=>by simp[E',hj]
  have eT:Cl X E':=by
   refine⟨hl,fun j q hq ht=> ?_⟩;have hj:=(List.getElem?_eq_some_iff.1 hq).1;rw[hg j hj];congr 1
   refine hD j q (-1) hq (by omega) (by omega) ?_;rw[roA_neg];have Up:ulL X (fun i k=>if k= -1 then E'.getD i false else false) nm ⟨#[]⟩ q.steps=true:=by
    rw[ulL_th (E:=E') (fun j=>by simp) nm _ (hw j q hq)];exact ht
   refine ulL_mono (fun a b wQ=> ?_) nm _ _ Up;have wQ:(if b= -1 then E'.getD a false else false)=true:=wQ;split at wQ
   ·rename_i hb;subst hb;by_cases ha:a<X.length
    ·rw[List.getD_eq_getElem?_getD,hg a ha]at wQ;exact wQ
    ·rw[List.getD_eq_getElem?_getD,List.getElem?_eq_none (by omega)]at wQ;cases wQ
   ·cases wQ
  intro j hj;have h1:=(DJ X).2 E' eT j hj;have oN:j<X.length:=by have:=(List.getElem?_eq_some_iff.1 h1).1;omega
  rw[hg j oN]at h1;injection h1
 have hEg:∀j:Nat,(bY X).getD j false=true->D j (-1)=true:=fun j hj=>by
  refine hE j ?_;rw[List.getD_eq_getElem?_getD]at hj;cases hx:(bY X)[j]? with
  | none=>rw[hx]at hj;cases hj
  | some b=>rw[hx]at hj;simp at hj;rw[hj]
 unfold CT at hc
 split at hc
 ·simp only[Bool.and_eq_true,decide_eq_true_eq]at hc;rw[hc.1];exact hEg i hc.2
 ·rename_i h0;obtain⟨n,rfl⟩:∃n:Nat,k=n:=⟨k.toNat,by omega⟩;rw[Int.toNat_natCast]at hc;refine h (fun i k=>D i (k:Int)) (fun j q m r hq hr hu=> ?_) i n hc;have hm:=(List.getElem?_eq_some_iff.1 hr).1;refine hD j q (m:Int) hq (by omega) (by omega) ?_;rw[roA_of hq hr];refine ulL_mono (fun a b wQ=> ?_) nm r _ hu;unfold CT at wQ
  split at wQ
  ·simp only[Bool.and_eq_true,decide_eq_true_eq]at wQ;rw[wQ.1];exact hEg a wQ.2
  ·rename_i hb;have wQ:D a ((b.toNat:Nat):Int)=true:=wQ;have:((b.toNat:Nat):Int)=b:=by omega
   rw[this]at wQ;exact wQ
mutual
def vrS (X:List Pr) (C:Nat->Int->Bool) (nm role:ByteArray):St->Int->List Int
 | .mk k r t v l e a b p ps,n=>(if r=role/\inE nm e=true then[n]else[])++(vrL X C nm role a (n+1)++vrL X C nm role b (n+1+ai a))
def vrL (X:List Pr) (C:Nat->Int->Bool) (nm role:ByteArray):List St->Int->List Int
 | [],_=> []
 | s::l,n=>vrS X C nm role s n++if ulS X C nm role s=true then vrL X C nm role l (n+dA s)else[]
end
mutual
def vpS (X:List Pr) (C:Nat->Int->Bool) (nm role:ByteArray):St->List (Nat×Nat)
 | .mk k r t v l e a b p ps=>vpL X C nm role a++(vpL X C nm role b++if k=5/\0<=ixR role ps then[((procI X p).toNat,(ixR role ps).toNat)]else[])
def vpL (X:List Pr) (C:Nat->Int->Bool) (nm role:ByteArray):List St->List (Nat×Nat)
 | []=> []
 | s::l=>vpS X C nm role s++if ulS X C nm role s=true then vpL X C nm role l else[]
end
structure EW where
 se:List (Nat×Nat)
 fo:List (Int×ByteArray)
def wkE (P:bH) (C:Nat->Int->Bool) (nm:ByteArray):Nat->List St->Int->ByteArray->EW->EW
 | 0,_,_,_,w=>w
 | f+1,[],_,_,w=>w
 | f+1,.mk k r t v lb e a b p ps::rest,n,role,w=>
  let w3:=wkE P C nm f b (n+1+ai a) role (wkE P C nm f a (n+1) role (if r=role/\inE nm e=true then⟨w.se,addG w.fo (n,nm)⟩else w))
  let w4:=if k=5/\0<=ixR role ps/\((procI P.procs p).toNat,(ixR role ps).toNat)∉w3.se then wkE P C nm f (aK P.procs (procI P.procs p).toNat) (dc P (procI P.procs p).toNat) (roA P.procs (procI P.procs p).toNat (ixR role ps).toNat) ⟨w3.se++ [((procI P.procs p).toNat,(ixR role ps).toNat)],w3.fo⟩else w3
  if ulS P.procs C nm role (.mk k r t v lb e a b p ps)=true then wkE P C nm f rest (n+dA (.mk k r t v lb e a b p ps)) role w4 else w4
def dmE (X:List Pr):List (Nat×Nat):=(List.range X.length).flatMap fun i=>(List.range 12).map fun k=>(i,k)
theorem dmE_mem {X:List Pr} {i k:Nat}:(i,k)∈dmE X↔i<X.length/\k<12:=by
 simp only[dmE,List.mem_flatMap,List.mem_range,List.mem_map,Prod.mk.injEq];constructor
 ·rintro⟨a,ha,b,hb,rfl,rfl⟩;exact⟨ha,hb⟩
 ·rintro⟨ha,hb⟩;exact⟨i,ha,k,hb,rfl,rfl⟩
def frE (X:List Pr) (w:EW):Nat:=((dmE X).filter fun p=>decide (p∉w.se)).length
theorem filE_le {α:Type} {q q':α->Bool} (h:∀x,q' x=true->q x=true):∀l:List α,(l.filter q').length<=(l.filter q).length
 | []=>Nat.le_refl _
 | x::l=>by
  have ih:=filE_le h l;by_cases hx:q' x=true
  ·have:=h x hx;simpa[hx,this]using ih
  ·by_cases hq:q x=true<;>simp[hx,hq]<;>omega
theorem filE_lt {α:Type} {q q':α->Bool} (h:∀x,q' x=true->q x=true) {p:α} (h1:q p=true) (h2:q' p=false):∀{l:List α},p∈l->(l.filter q').length<(l.filter q).length
 | x::l,hm=>by
  have hle:=filE_le h l;rcases List.mem_cons.1 hm with rfl | hm
  ·simp[h1,h2];omega
  ·have ih:=filE_lt h h1 h2 hm;by_cases hx:q' x=true
   ·have:=h x hx;simpa[hx,this]using ih
   ·by_cases hq:q x=true<;>simp[hx,hq]<;>omega
theorem frE_le {X:List Pr} {w w':EW} (h:∀p∈w.se,p∈w'.se):frE X w'<=frE X w:=
 filE_le (fun x hx=>by simp only[decide_eq_true_eq]at*;exact fun hh=>hx (h x hh)) _
theorem frE_lt {X:List Pr} {w:EW} {p:Nat×Nat} {fo:List (Int×ByteArray)} (hd:p∈dmE X) (hp:p∉w.se):frE X ⟨w.se++ [p],fo⟩<frE X w:=
 filE_lt (fun x hx=>by simp only[decide_eq_true_eq,List.mem_append,not_or]at*;exact hx.1) (by simpa using hp) (by simp) hd
def muE (P:bH) (w:EW) (l:List St):Nat:=frE P.procs w*(total P+1)+ai l
structure WE (P:bH) (C:Nat->Int->Bool) (nm:ByteArray) (ks:List (Nat×Nat)) (vs:List Int) (w w':EW):Prop where
 mono:∀p∈w.se,p∈w'.se
 calls:∀p∈ks,p∈w'.se
 new:∀p∈w'.se,p∈w.se\/∀q∈vpL P.procs C nm (roA P.procs p.1 p.2) (aK P.procs p.1),q∈w'.se
 found:∀x,x∈w'.fo↔x∈w.fo\/x.2=nm/\(x.1∈vs\/∃p∈w'.se,p∉w.se/\x.1∈vrL P.procs C nm (roA P.procs p.1 p.2) (aK P.procs p.1) (dc P p.1))
 low:∀K:Nat×Nat->Prop,(∀p,K p->∀q∈vpL P.procs C nm (roA P.procs p.1 p.2) (aK P.procs p.1),K q)->(∀q∈ks,K q)->(∀p∈w.se,K p)->∀p∈w'.se,K p
theorem WE.id {P:bH} {C:Nat->Int->Bool} {nm:ByteArray} {w:EW}:WE P C nm [] [] w w:=
 ⟨fun _ h=>h,fun p hp=>by simp at hp,fun _ h=> .inl h,fun x=>by
  constructor
  ·exact .inl
  ·rintro(h | ⟨_,h | ⟨i,h1,h2,_⟩⟩)
   ·exact h
   ·simp at h
   ·exact absurd h1 h2,fun K _ _ h=>h⟩
theorem WE.comp {P:bH} {C:Nat->Int->Bool} {nm:ByteArray} {k1 k2:List (Nat×Nat)} {v1 v2:List Int} {w w1 w2:EW} (h1:WE P C nm k1 v1 w w1) (h2:WE P C nm k2 v2 w1 w2):WE P C nm (k1++k2) (v1++v2) w w2 where
 mono p h:=h2.mono p (h1.mono p h)
 calls p hp:=by
  rcases List.mem_append.1 hp with hp | hp
  ·exact h2.mono p (h1.calls p hp)
  ·exact h2.calls p hp
 new p h:=by
  rcases h2.new p h with h | h
  ·rcases h1.new p h with h | h
   ·exact .inl h
   ·exact .inr (fun q hq=>h2.mono q (h q hq))
  ·exact .inr h
 found x:=by
  rw[h2.found,h1.found,List.mem_append];constructor
  ·rintro((h | ⟨z,h | ⟨i,a,b,c⟩⟩) | ⟨z,h | ⟨i,a,b,c⟩⟩)
   ·exact .inl h
   ·exact .inr ⟨z,.inl (.inl h)⟩
   ·exact .inr ⟨z,.inr ⟨i,h2.mono i a,b,c⟩⟩
   ·exact .inr ⟨z,.inl (.inr h)⟩
   ·exact .inr ⟨z,.inr ⟨i,a,fun h=>b (h1.mono i h),c⟩⟩
  ·rintro(h | ⟨z,(h | h) | ⟨i,a,b,c⟩⟩)
   ·exact .inl (.inl h)
   ·exact .inl (.inr ⟨z,.inl h⟩)
   ·exact .inr ⟨z,.inl h⟩
   ·by_cases hw:i∈w1.se
    ·exact .inl (.inr ⟨z,.inr ⟨i,hw,b,c⟩⟩)
    ·exact .inr ⟨z,.inr ⟨i,a,hw,c⟩⟩
 low K hC hk hw:=h2.low K hC (fun q hq=>hk q (List.mem_append.2 (.inr hq))) (h1.low K hC (fun q hq=>hk q (List.mem_append.2 (.inl hq))) hw)
theorem WE.congr {P:bH} {C:Nat->Int->Bool} {nm:ByteArray} {k1 k2:List (Nat×Nat)} {v1 v2:List Int} {w w1:EW} (h:WE P C nm k1 v1 w w1) (hk:∀p,p∈k1↔p∈k2) (hv:∀x,x∈v1↔x∈v2):WE P C nm k2 v2 w w1 where
 mono:=h.mono
 calls p hp:=h.calls p ((hk p).2 hp)
 new:=h.new
 found x:=by rw[h.found,hv x.1]
 low K hC ir:=h.low K hC (fun p hp=>ir p ((hk p).1 hp))
theorem WE.add {P:bH} {C:Nat->Int->Bool} {nm:ByteArray} {w:EW} (n:Int):WE P C nm [] [n] w ⟨w.se,addG w.fo (n,nm)⟩ where
 mono _ h:=h
 calls p hp:=by simp at hp
 new _ h:=.inl h
 found x:=by
  show x∈addG w.fo (n,nm)↔_;rw[mem_addG];constructor
  ·rintro(h | h)
   ·exact .inl h
   ·subst h;exact .inr ⟨rfl,.inl (by simp)⟩
  ·rintro(h | ⟨z,h | ⟨i,h1,h2,_⟩⟩)
   ·exact .inl h
   ·obtain⟨x1,x2⟩:=x;simp only[List.mem_singleton]at h z;subst h z;exact .inr rfl
   ·exact absurd h1 h2
 low K _ _ h:=h
theorem WE.enter {P:bH} {C:Nat->Int->Bool} {nm:ByteArray} {p:Nat×Nat} {w w':EW} (hi:p∉w.se)
 (h:WE P C nm (vpL P.procs C nm (roA P.procs p.1 p.2) (aK P.procs p.1)) (vrL P.procs C nm (roA P.procs p.1 p.2) (aK P.procs p.1) (dc P p.1)) ⟨w.se++ [p],w.fo⟩ w'):WE P C nm [p] [] w w':=by
 have hg:∀j,j∈w.se++ [p]↔j=p\/j∈w.se:=fun j=>by simp[or_comm]
 have hm:∀j,(j=p\/j∈w.se)->j∈w'.se:=fun j hj=>h.mono j ((hg j).2 hj)
 constructor
 ·exact fun j hj=>hm j (.inr hj)
 ·intro q hq;simp at hq;subst hq;exact hm q (.inl rfl)
 ·intro j hj;rcases h.new j hj with hj | hj
  ·rcases(hg j).1 hj with rfl | hj
   ·exact .inr h.calls
   ·exact .inl hj
  ·exact .inr hj
 ·intro x;rw[h.found];constructor
  ·rintro(hx | ⟨z,hx | ⟨j,a,b,c⟩⟩)
   ·exact .inl hx
   ·exact .inr ⟨z,.inr ⟨p,hm p (.inl rfl),hi,hx⟩⟩
   ·exact .inr ⟨z,.inr ⟨j,a,fun hj=>b ((hg j).2 (.inr hj)),c⟩⟩
  ·rintro(hx | ⟨z,hx | ⟨j,a,b,c⟩⟩)
   ·exact .inl hx
   ·simp at hx
   ·by_cases Ij:j=p
    ·subst Ij;exact .inr ⟨z,.inl c⟩
    ·exact .inr ⟨z,.inr ⟨j,a,fun hj=>((hg j).1 hj).elim Ij b,c⟩⟩
 ·intro K hC hk hw;have hiC:K p:=hk p (by simp);refine h.low K hC (hC p hiC) fun j hj=> ?_
  rcases(hg j).1 hj with rfl | hj
  ·exact hiC
  ·exact hw j hj
theorem WE.known {P:bH} {C:Nat->Int->Bool} {nm:ByteArray} {p:Nat×Nat} {w:EW} (h:p∈w.se):WE P C nm [p] [] w w:=
 ⟨fun _ h=>h,fun q hq=>by simp at hq;subst hq;exact h,fun _ h=> .inl h,(WE.id (P:=P) (C:=C) (nm:=nm)).found,fun K _ _ h=>h⟩
mutual
def dmS (X:List Pr):St->Bool
 | .mk k _ _ _ _ _ a b p ps=>(decide (k≠5) || (decide (0<=procI X p) && decide (ps.length<=12))) && (dmL X a && dmL X b)
def dmL (X:List Pr):List St->Bool
 | []=>true
 | s::l=>dmS X s && dmL X l
end
theorem wkE_post (P:bH) (C:Nat->Int->Bool) (nm:ByteArray) (hbd:∀i,dmL P.procs (aK P.procs i)=true):∀(f:Nat) (l:List St) (n:Int) (role:ByteArray) (w:EW),muE P w l<f->dmL P.procs l=true->WE P C nm (vpL P.procs C nm role l) (vrL P.procs C nm role l n) w (wkE P C nm f l n role w):=by
 intro f;induction f with
 | zero=>intro l n role w h;omega
 | succ f ih=>
  intro l n role w hm hdm;cases l with
  | nil=>simp only[wkE,vpL,vrL];exact WE.id
  | cons s rest=>
   rcases s with⟨k,r,t,v,lb,e,a,b,p,ps⟩
   simp only[muE,ai,dA]at hm;simp only[dmL,dmS,Bool.and_eq_true,Bool.or_eq_true,decide_eq_true_eq]at hdm;obtain⟨⟨h5,hda,hdb⟩,To⟩:=hdm;simp only[wkE];have h1:WE P C nm [] (if r=role/\inE nm e=true then[n]else[]) w (if r=role/\inE nm e=true then⟨w.se,addG w.fo (n,nm)⟩else w):=by
    split
    ·exact WE.add n
    ·exact WE.id
   have f1:frE P.procs (if r=role/\inE nm e=true then⟨w.se,addG w.fo (n,nm)⟩else w)<=frE P.procs w:=frE_le h1.mono;generalize (if r=role/\inE nm e=true then(⟨w.se,addG w.fo (n,nm)⟩:EW)else w)=w1 at*;have m1:=Nat.mul_le_mul_right (total P+1) f1;have h2:=ih a (n+1) role w1 (by simp only[muE];omega) hda;have dU:=h1.comp h2;generalize wkE P C nm f a (n+1) role w1=w2 at*;have f2:frE P.procs w2<=frE P.procs w:=frE_le dU.mono;have m2:=Nat.mul_le_mul_right (total P+1) f2;have h3:=ih b (n+1+ai a) role w2 (by simp only[muE];omega) hdb;have eV:=dU.comp h3;generalize wkE P C nm f b (n+1+ai a) role w2=w3 at*;have f3:frE P.procs w3<=frE P.procs w:=frE_le eV.mono;have m3:=Nat.mul_le_mul_right (total P+1) f3;have h4:WE P C nm (if k=5/\0<=ixR role ps then[((procI P.procs p).toNat,(ixR role ps).toNat)]else[]) [] w3 (if k=5/\0<=ixR role ps/\((procI P.procs p).toNat,(ixR role ps).toNat)∉w3.se then wkE P C nm f (aK P.procs (procI P.procs p).toNat) (dc P (procI P.procs p).toNat) (roA P.procs (procI P.procs p).toNat (ixR role ps).toNat) ⟨w3.se++ [((procI P.procs p).toNat,(ixR role ps).toNat)],w3.fo⟩else w3):=by
    by_cases hc:k=5/\0<=ixR role ps
    ·rw[if_pos hc];obtain⟨hk5,gj⟩:=hc;have hd:=h5.resolve_left (fun h=>h hk5);have ct:(procI P.procs p).toNat<P.procs.length:=by have:=fO hd.1;omega
     have dF:(ixR role ps).toNat<12:=by
      obtain⟨z,hz,_⟩:=ixF_get (fun y=>decide (role=y)) ps gj;have:=(List.getElem?_eq_some_iff.1 hz).1;simp only[ixR];omega
     by_cases hn:((procI P.procs p).toNat,(ixR role ps).toNat)∉w3.se
     ·rw[if_pos ⟨hk5,gj,hn⟩];refine WE.enter hn (ih _ _ _ _ ?_ (hbd _));have hlt2:=frE_lt (X:=P.procs) (fo:=w3.fo) (dmE_mem.2 ⟨ct,dF⟩) hn;have hb:=qZ ct;have:=Nat.mul_le_mul_right (total P+1) hlt2;simp only[Nat.succ_mul]at this;simp only[muE];omega
     ·rw[if_neg (fun h=>hn h.2.2)];exact WE.known (Classical.not_not.1 hn)
    ·rw[if_neg hc,if_neg (fun h=>hc ⟨h.1,h.2.1⟩)];exact WE.id
   have dG:=eV.comp h4;generalize (if k=5/\0<=ixR role ps/\((procI P.procs p).toNat,(ixR role ps).toNat)∉w3.se then wkE P C nm f (aK P.procs (procI P.procs p).toNat) (dc P (procI P.procs p).toNat) (roA P.procs (procI P.procs p).toNat (ixR role ps).toNat) ⟨w3.se++ [((procI P.procs p).toNat,(ixR role ps).toNat)],w3.fo⟩else w3)=w4 at*;have f4:frE P.procs w4<=frE P.procs w:=frE_le dG.mono;have m4:=Nat.mul_le_mul_right (total P+1) f4;have hsS:WE P C nm (vpS P.procs C nm role (.mk k r t v lb e a b p ps)) (vrS P.procs C nm role (.mk k r t v lb e a b p ps) n) w w4:=by
    refine dG.congr (fun q=> ?_) (fun x=> ?_)
    ·simp only[vpS,List.nil_append,List.append_assoc]
    ·simp only[vrS,List.append_nil,List.append_assoc]
   simp only[vpL,vrL];split
   ·exact hsS.comp (ih rest _ role w4 (by simp only[muE];omega) To)
   ·simpa using hsS
inductive ER (P:bH) (C:Nat->Int->Bool) (nm:ByteArray) (R:List ByteArray):Nat×Nat->Prop
 | main {role:ByteArray} {q:Nat×Nat}:role∈R->q∈vpL P.procs C nm role P.main->ER P C nm R q
 | more {p q:Nat×Nat}:ER P C nm R p->q∈vpL P.procs C nm (roA P.procs p.1 p.2) (aK P.procs p.1)->ER P C nm R q
def FO (P:bH) (C:Nat->Int->Bool) (nm:ByteArray) (R:List ByteArray) (x:Int):Prop:=
 (∃role∈R,x∈vrL P.procs C nm role P.main 0)\/∃p,ER P C nm R p/\x∈vrL P.procs C nm (roA P.procs p.1 p.2) (aK P.procs p.1) (dc P p.1)
theorem ER_split {P:bH} {C:Nat->Int->Bool} {nm:ByteArray} {R:List ByteArray} {q:Nat×Nat}:ER P C nm R q↔∃role∈R,ER P C nm [role] q:=by
 constructor
 ·intro h;induction h with
  | main h1 h2=>exact⟨_,h1,.main (by simp) h2⟩
  | more h1 h2 ih=>
   obtain⟨role,hr,ih⟩:=ih;exact⟨role,hr,.more ih h2⟩
 ·rintro⟨role,hr,h⟩;induction h with
  | main h1 h2=>simp at h1;subst h1;exact .main hr h2
  | more h1 h2 ih=>exact .more ih h2
theorem FO_split {P:bH} {C:Nat->Int->Bool} {nm:ByteArray} {R:List ByteArray} {x:Int}:FO P C nm R x↔∃role∈R,FO P C nm [role] x:=by
 constructor
 ·rintro(⟨role,hr,h⟩ | ⟨p,hp,h⟩)
  ·exact⟨role,hr,.inl ⟨role,by simp,h⟩⟩
  ·obtain⟨role,hr,hp⟩:=ER_split.1 hp;exact⟨role,hr,.inr ⟨p,hp,h⟩⟩
 ·rintro⟨role,hr,⟨role',rV,h⟩ | ⟨p,hp,h⟩⟩
  ·simp at rV;subst rV;exact .inl ⟨_,hr,h⟩
  ·exact .inr ⟨p,ER_split.2 ⟨role,hr,hp⟩,h⟩
def wkR (P:bH) (C:Nat->Int->Bool) (nm:ByteArray):List ByteArray->EW->EW
 | [],w=>w
 | role::R,w=>wkR P C nm R (wkE P C nm (muE P w P.main+1) P.main 0 role w)
structure DmP (P:bH):Prop where
 main:dmL P.procs P.main=true
 body:∀i,dmL P.procs (aK P.procs i)=true
theorem wkR_post {P:bH} (hd:DmP P) (C:Nat->Int->Bool) (nm:ByteArray):∀(R:List ByteArray) (w:EW),WE P C nm (R.flatMap fun role=>vpL P.procs C nm role P.main) (R.flatMap fun role=>vrL P.procs C nm role P.main 0) w (wkR P C nm R w)
 | [],w=>WE.id
 | role::R,w=>by
  rw[List.flatMap_cons,List.flatMap_cons,wkR];exact(wkE_post P C nm hd.body _ P.main 0 role w (Nat.lt_succ_self _) hd.main).comp (wkR_post hd C nm R _)
theorem WE.fin {P:bH} {C:Nat->Int->Bool} {nm:ByteArray} {R:List ByteArray} {w:EW} {fo:List (Int×ByteArray)} (h:WE P C nm (R.flatMap fun role=>vpL P.procs C nm role P.main) (R.flatMap fun role=>vrL P.procs C nm role P.main 0) ⟨[],fo⟩ w) (x:Int×ByteArray):
 x∈w.fo↔x∈fo\/x.2=nm/\FO P C nm R x.1:=by
 have C6:∀p,p∈w.se↔ER P C nm R p:=by
  intro p;constructor
  ·refine h.low (ER P C nm R) (fun p hp q hq=> .more hp hq) (fun q hq=> ?_) (fun p hp=>by simp at hp) p;obtain⟨role,hr,hq⟩:=List.mem_flatMap.1 hq;exact .main hr hq
  ·intro hp;induction hp with
   | main h1 h2=>exact h.calls _ (List.mem_flatMap.2 ⟨_,h1,h2⟩)
   | more h1 h2 ih=>
    rcases h.new _ ih with hh | hh
    ·simp at hh
    ·exact hh _ h2
 rw[h.found];refine or_congr Iff.rfl (and_congr Iff.rfl ?_);refine or_congr ?_ ?_
 ·rw[List.mem_flatMap]
 ·constructor
  ·rintro⟨p,hp,_,hx⟩;exact⟨p,(C6 p).1 hp,hx⟩
  ·rintro⟨p,hp,hx⟩;exact⟨p,(C6 p).2 hp,by simp,hx⟩
theorem wkR_fo {P:bH} (hd:DmP P) (C:Nat->Int->Bool) (nm:ByteArray) (R:List ByteArray) (x:Int×ByteArray):x∈(wkR P C nm R ⟨[],[]⟩).fo↔x.2=nm/\FO P C nm R x.1:=by
 rw[(wkR_post hd C nm R ⟨[],[]⟩).fin x];simp
def wk1 (P:bH) (C:Nat->Int->Bool) (nm role:ByteArray) (fo:List (Int×ByteArray)):List (Int×ByteArray):=(wkE P C nm (muE P ⟨[],fo⟩ P.main+1) P.main 0 role ⟨[],fo⟩).fo
theorem wk1ufo {P:bH} (hd:DmP P) (C:Nat->Int->Bool) (nm role:ByteArray) (fo:List (Int×ByteArray)) (x:Int×ByteArray):x∈wk1 P C nm role fo↔x∈fo\/x.2=nm/\FO P C nm [role] x.1:=by
 have:=wkR_post hd C nm [role] ⟨[],fo⟩;exact this.fin x
def wkQ (P:bH) (C:Nat->Int->Bool) (nm:ByteArray):List ByteArray->List (Int×ByteArray)->List (Int×ByteArray)
 | [],fo=>fo
 | role::R,fo=>wkQ P C nm R (wk1 P C nm role fo)
theorem wkQ_append (P:bH) (C:Nat->Int->Bool) (nm:ByteArray):∀(A B:List ByteArray) (fo:List (Int×ByteArray)),wkQ P C nm (A++B) fo=wkQ P C nm B (wkQ P C nm A fo)
 | [],B,fo=>rfl
 | r::A,B,fo=>by rw[List.cons_append,wkQ,wkQ,wkQ_append P C nm A B]
theorem wkQ_fo {P:bH} (hd:DmP P) (C:Nat->Int->Bool) (nm:ByteArray) (x:Int×ByteArray):∀(R:List ByteArray) (fo:List (Int×ByteArray)),x∈wkQ P C nm R fo↔x∈fo\/x.2=nm/\FO P C nm R x.1
 | [],fo=>by
  rw[wkQ];constructor
  ·exact .inl
  ·rintro(h | ⟨_,h⟩)
   ·exact h
   ·obtain⟨role,hr,_⟩:=FO_split.1 h;simp at hr
 | role::R,fo=>by
  rw[wkQ,wkQ_fo hd C nm x R,wk1ufo hd];have h1:FO P C nm (role::R) x.1↔FO P C nm [role] x.1\/FO P C nm R x.1:=by
   rw[FO_split (R:=role::R),FO_split (R:=R)];simp only[List.mem_cons,exists_eq_or_imp]
  rw[h1,or_assoc,<-and_or_left]
def wkN (P:bH) (C:ByteArray->Nat->Int->Bool) (R:List ByteArray):List ByteArray->List (Int×ByteArray)->List (Int×ByteArray)
 | [],fo=>fo
 | nm::N,fo=>wkN P C R N (wkQ P (C nm) nm R fo)
theorem wkN_append (P:bH) (C:ByteArray->Nat->Int->Bool) (R:List ByteArray):∀(A B:List ByteArray) (fo:List (Int×ByteArray)),wkN P C R (A++B) fo=wkN P C R B (wkN P C R A fo)
 | [],B,fo=>rfl
 | r::A,B,fo=>by rw[List.cons_append,wkN,wkN,wkN_append P C R A B]
theorem wkN_fo {P:bH} (hd:DmP P) (C:ByteArray->Nat->Int->Bool) (R:List ByteArray) (x:Int×ByteArray):∀(N:List ByteArray) (fo:List (Int×ByteArray)),x∈wkN P C R N fo↔x∈fo\/x.2∈N/\FO P (C x.2) x.2 R x.1
 | [],fo=>by simp[wkN]
 | nm::N,fo=>by
  rw[wkN,wkN_fo hd C R x N,wkQ_fo hd,List.mem_cons,or_assoc];refine or_congr Iff.rfl ?_;constructor
  ·rintro(⟨h1,h2⟩ | ⟨h1,h2⟩)
   ·rw[h1];exact⟨.inl rfl,h2⟩
   ·exact⟨.inr h1,h2⟩
  ·rintro⟨h1 | h1,h2⟩
   ·rw[h1]at h2;exact .inl ⟨h1,h2⟩
   ·exact .inr ⟨h1,h2⟩
theorem keStr:KE (false,[true]) V.str where
 fit x:=by simp[o8,iN]
 eq x y:=by simp[gE,fF]
def addGs (N l:List ByteArray):List ByteArray:=l.foldl addG N
theorem addGs_app (N a b:List ByteArray):addGs N (a++b)=addGs (addGs N a) b:=by simp[addGs]
theorem mem_addGs {x:ByteArray}:∀{l N:List ByteArray},x∈addGs N l↔x∈N\/x∈l
 | [],N=>by simp[addGs]
 | y::l,N=>by
  have:=mem_addGs (x:=x) (l:=l) (N:=addG N y);simp only[addGs,List.foldl_cons]at this⊢;rw[this,mem_addG,List.mem_cons,or_assoc]
def mpS (N:List ByteArray):ak:=.mp (N.map .str) (trG N)
theorem kOkS (l:List ByteArray) (x:ByteArray):ya (false,[true]) (l.map .str) (.str x)=true:=keStr.ya l x
theorem mresS (l:List ByteArray) (x:ByteArray):fT false (.bool false) (gG (l.map .str) (trG l) (.str x))=.bool (l.any fun z=>decide (x=z)):=(keStr.fT x l).trans (by congr 1;rw[Bool.eq_iff_iff];simp)
theorem mputKS (l:List ByteArray) (x:ByteArray):ja (l.map .str) (.str x)=(addG l x).map .str:=keStr.ja x l
theorem mputVS (l:List ByteArray) (x:ByteArray):im (l.map .str) (trG l) (.str x) (.bool true)=trG (addG l x):=keStr.im x l
theorem t259:∀(m:Nat) (e:Ex),SizeOf.sizeOf e<m->∀(H:List ak) (id:Nat) (N:List ByteArray),H[id]? =some (mpS N)->
 av Tryz.prog 90 [bu e,.map id] H (bX (.dJ []) (H.set id (mpS (addGs N (exN e)))))
 | 0,e,h=>absurd h (Nat.not_lt_zero _)
 | m+1,e,hm=>fun H id N hid=>by
  have ih:=t259 m;have dF:=(List.getElem?_eq_some_iff.1 hid).1;rcases e with⟨k,n,s,xs⟩
  simp only[Ex.mk.sizeOf_spec]at hm;rw[bp];have hid':H[id]? =some (.mp (N.map .str) (trG N)):=hid;have Kq:∀(S1:ak) (J:List ak),(H.set id S1++J)[id]? =some S1:=fun S1 J=>by
   rw[List.getElem?_append_left (by simpa using dF),List.getElem?_set_self dF]
  have EP:∀(S1 b:ak) (J:List ak),(H.set id S1++J).set id b=H.set id b++J:=fun S1 b J=>by
   rw[List.set_append_left _ _ (by simpa using dF),List.set_set]
  have mq:H=H.set id (mpS N):=by
   apply List.ext_getElem?
   intro i;rw[List.getElem?_set];split
   ·rename_i h;subst h;first | exact hid | (rw[if_pos dF];exact hid)
   ·rfl
  refine av.trim ?_;refine av.intro c259 400 (by simp) ?_;by_cases h2:k=2
  ·have hN:addGs N (exN (.mk k n s xs))=addGs (addG N s) (exNs xs):=by rw[exN,if_pos h2,addGs_app];rfl
   simp -implicitDefEqProofs only[s259,h2,decide_true,hid',kOkS,mputKS,mputVS,dF,ne_eq,not_false_eq_true,fv,fK,Nat.reduceMul,go_sem];intro hlen;refine aL (fun m e H1=>∃pre post N' J,xs=pre++post/\m=post.length/\addGs (addG N s) (exNs xs)=addGs N' (exNs post)/\e 1=.map id/\e 13=.fs (xs.map bu)/\e 14=.int .i64 xs.length/\e 15=.int .i64 pre.length/\H1=H.set id (mpS N')++J) xs.length
    ⟨[],xs,addG N s,_,rfl,rfl,rfl,by simp[az,aC],by simp[az,aC],by simp[az,aC],by simp[az,aC],rfl⟩ ?_
   rintro m' e H1 ⟨pre,post,N',J,ao,rfl,r9,h1,eV,dG,gy,rfl⟩;cases post with
   | nil=>
    simp -implicitDefEqProofs only[h1,eV,dG,gy,aI ao,ne_eq,not_false_eq_true,fv,fK,Nat.reduceMul,go_sem];simp -implicitDefEqProofs only[r259,ne_eq,not_false_eq_true,fv,fK,Nat.reduceMul,push_cast,go_sem_proc];refine⟨_,J,rfl,by simp,fun i b hb=> ?_,by rw[<-h2,hN,r9];rfl⟩;rw[List.getElem?_set]at hb;split at hb
    ·cases hb;right;simp[mpS,ak.nr,aE]
    ·exact .inl hb
   | cons y post=>
    have hg:=aO bu ao;have eW:=List.sizeOf_lt_of_mem (show y∈xs by rw[ao];simp);have hy:=fun J=>ih y (by omega) (H.set id (mpS N')++J) id N' (Kq _ _)
    rcases y with⟨yk,yn,ys,yx⟩
    rw[bp]at hg hy;simp only[EP]at hy;simp -implicitDefEqProofs only[h1,eV,dG,gy,an ao,aa ao hlen,hg,decide_true,ne_eq,not_false_eq_true,fv,fK,Nat.reduceMul,go_sem];repeat' (first | ((first | (with_reducible refine bR ((hy _)) ?_) | (with_reducible refine aD ?_));simp -implicitDefEqProofs only[h1,eV,dG,gy,aa ao hlen,EP,ne_eq,not_false_eq_true,fv,fK,Nat.reduceMul,go_sem]) | (with_reducible refine aA.mk ?_ ?_) | (with_reducible refine And.intro ?_ ?_) | ((with_reducible refine bz ?_);simp -implicitDefEqProofs only[r259,ne_eq,not_false_eq_true,fv,fK,Nat.reduceMul,push_cast,go_sem_proc]) | intro _)
    exact⟨_,Nat.lt_succ_self _,pre++ [_],post,_,_,by simp[ao];rfl,rfl,by rw[r9,exNs,addGs_app],by simp,rfl⟩
  ·have hN:addGs N (exN (.mk k n s xs))=addGs N (exNs xs):=by rw[exN,if_neg h2,List.nil_append]
   simp -implicitDefEqProofs only[s259,h2,decide_false,ne_eq,not_false_eq_true,fv,fK,Nat.reduceMul,go_sem];intro hlen;refine aL (fun m e H1=>∃pre post N' J,xs=pre++post/\m=post.length/\addGs N (exNs xs)=addGs N' (exNs post)/\e 1=.map id/\e 13=.fs (xs.map bu)/\e 14=.int .i64 xs.length/\e 15=.int .i64 pre.length/\H1=H.set id (mpS N')++J) xs.length
    ⟨[],xs,N,_,rfl,rfl,rfl,by simp[az,aC],by simp[az,aC],by simp[az,aC],by simp[az,aC],by rw[<-mq]⟩ ?_
   rintro m' e H1 ⟨pre,post,N',J,ao,rfl,r9,h1,eV,dG,gy,rfl⟩;cases post with
   | nil=>
    simp -implicitDefEqProofs only[h1,eV,dG,gy,aI ao,ne_eq,not_false_eq_true,fv,fK,Nat.reduceMul,go_sem];simp -implicitDefEqProofs only[r259,ne_eq,not_false_eq_true,fv,fK,Nat.reduceMul,push_cast,go_sem_proc];refine⟨_,J,rfl,by simp,fun i b hb=> ?_,by rw[hN,r9];rfl⟩;rw[List.getElem?_set]at hb;split at hb
    ·cases hb;right;simp[mpS,ak.nr,aE]
    ·exact .inl hb
   | cons y post=>
    have hg:=aO bu ao;have eW:=List.sizeOf_lt_of_mem (show y∈xs by rw[ao];simp);have hy:=fun J=>ih y (by omega) (H.set id (mpS N')++J) id N' (Kq _ _)
    rcases y with⟨yk,yn,ys,yx⟩
    rw[bp]at hg hy;simp only[EP]at hy;simp -implicitDefEqProofs only[h1,eV,dG,gy,an ao,aa ao hlen,hg,decide_true,ne_eq,not_false_eq_true,fv,fK,Nat.reduceMul,go_sem];repeat' (first | ((first | (with_reducible refine bR ((hy _)) ?_) | (with_reducible refine aD ?_));simp -implicitDefEqProofs only[h1,eV,dG,gy,aa ao hlen,EP,ne_eq,not_false_eq_true,fv,fK,Nat.reduceMul,go_sem]) | (with_reducible refine aA.mk ?_ ?_) | (with_reducible refine And.intro ?_ ?_) | ((with_reducible refine bz ?_);simp -implicitDefEqProofs only[r259,ne_eq,not_false_eq_true,fv,fK,Nat.reduceMul,push_cast,go_sem_proc]) | intro _)
    exact⟨_,Nat.lt_succ_self _,pre++ [_],post,_,_,by simp[ao];rfl,rfl,by rw[r9,exNs,addGs_app],by simp,rfl⟩
theorem t328 (k:Int) (r t v l:ByteArray) (ek en:Int) (es:ByteArray) (aR:List Ex) (a b:List St) (p:ByteArray) (ps:List ByteArray) (nm:ByteArray):
 af Tryz.prog 201 [encS (.mk k r t v l (.mk ek en es aR) a b p ps),.str nm] (·=.bool (inE nm (.mk ek en es aR))):=by
 have h259:=t259 _ (.mk ek en es aR) (Nat.lt_succ_self _) [ak.row [encS (.mk k r t v l (.mk ek en es aR) a b p ps)],.mp [] []] 1 [] rfl;have hm:inE nm (.mk ek en es aR)=(addGs [] (exN (.mk ek en es aR))).any fun z=>decide (nm=z):=by
  rw[Bool.eq_iff_iff,inE_iff,List.any_eq_true];constructor
  ·intro h;exact⟨nm,mem_addGs.2 (.inr h),by simp⟩
  ·rintro⟨z,h1,h2⟩;have:nm=z:=by simpa using h2
   subst this;rcases mem_addGs.1 h1 with h | h
   ·simp at h
   ·exact h
 rw[hm];rw[bp,ay]at h259;simp only[mpS]at h259;generalize addGs [] (exN (.mk ek en es aR))=N at*;rw[ay];refine af.intro c328 400 (by simp) 20 ?_;simp -implicitDefEqProofs only[s328,go_sem];repeat' (first | ((first | (with_reducible refine bR h259 ?_) | (with_reducible refine aD ?_));simp -implicitDefEqProofs only[kOkS,mresS,go_sem]) | (with_reducible refine aA.mk ?_ ?_) | (with_reducible refine And.intro ?_ ?_) | ((with_reducible refine bz ?_);simp -implicitDefEqProofs only[r328,push_cast,go_sem_proc]) | intro _)
theorem t327 (k:Int) (r t v l:ByteArray) (ek en:Int) (es:ByteArray) (aR:List Ex) (a b:List St) (p:ByteArray) (ps:List ByteArray) (role nm:ByteArray):
 af Tryz.prog 200 [encS (.mk k r t v l (.mk ek en es aR) a b p ps),.str role,.str nm] (·=.bool (seF k r t v nm role)):=by
 rw[ay,seF];refine af.intro c327 400 (by simp) 20 ?_;by_cases hv:v=nm
 ·by_cases h3:k=3
  ·by_cases hr:r=role
   ·simp -implicitDefEqProofs only[s327,hv,h3,hr,decide_true,Int.reduceEq,go_sem];repeat' (first | ((with_reducible refine aD ?_);simp -implicitDefEqProofs only[hv,h3,hr,decide_true,go_sem]) | (with_reducible refine aA.mk ?_ ?_) | (with_reducible refine And.intro ?_ ?_) | ((with_reducible refine bz ?_);simp -implicitDefEqProofs only[r327,push_cast,go_sem_proc]) | intro _)
    all_goals simp
   ·simp -implicitDefEqProofs only[s327,hv,h3,hr,decide_true,decide_false,Int.reduceEq,go_sem];repeat' (first | ((with_reducible refine aD ?_);simp -implicitDefEqProofs only[hv,h3,hr,decide_true,go_sem]) | (with_reducible refine aA.mk ?_ ?_) | (with_reducible refine And.intro ?_ ?_) | ((with_reducible refine bz ?_);simp -implicitDefEqProofs only[r327,push_cast,go_sem_proc]) | intro _)
    all_goals simp
  ·by_cases h1:k=1
   ·by_cases hr:t=role
    ·simp -implicitDefEqProofs only[s327,hv,h1,hr,decide_true,decide_false,Int.reduceEq,go_sem];repeat' (first | ((with_reducible refine aD ?_);simp -implicitDefEqProofs only[hv,h1,hr,decide_true,go_sem]) | (with_reducible refine aA.mk ?_ ?_) | (with_reducible refine And.intro ?_ ?_) | ((with_reducible refine bz ?_);simp -implicitDefEqProofs only[r327,push_cast,go_sem_proc]) | intro _)
     all_goals simp
    ·simp -implicitDefEqProofs only[s327,hv,h1,hr,decide_true,decide_false,Int.reduceEq,go_sem];repeat' (first | ((with_reducible refine aD ?_);simp -implicitDefEqProofs only[hv,h1,hr,decide_true,go_sem]) | (with_reducible refine aA.mk ?_ ?_) | (with_reducible refine And.intro ?_ ?_) | ((with_reducible refine bz ?_);simp -implicitDefEqProofs only[r327,push_cast,go_sem_proc]) | intro _)
     all_goals simp
   ·simp -implicitDefEqProofs only[s327,hv,h3,h1,decide_true,decide_false,Int.reduceEq,go_sem];repeat' (first | ((with_reducible refine aD ?_);simp -implicitDefEqProofs only[hv,h3,h1,decide_true,go_sem]) | (with_reducible refine aA.mk ?_ ?_) | (with_reducible refine And.intro ?_ ?_) | ((with_reducible refine bz ?_);simp -implicitDefEqProofs only[r327,push_cast,go_sem_proc]) | intro _)
    all_goals simp
 ·simp -implicitDefEqProofs only[s327,hv,decide_false,go_sem];repeat' (first | ((with_reducible refine aD ?_);simp -implicitDefEqProofs only[hv,decide_false,go_sem]) | (with_reducible refine aA.mk ?_ ?_) | (with_reducible refine And.intro ?_ ?_) | ((with_reducible refine bz ?_);simp -implicitDefEqProofs only[r327,push_cast,go_sem_proc]) | intro _)
  all_goals simp
def aVV (c0 c1 c2 c3:V) (E:List Bool) (nm:ByteArray) (T:List (List Bool)) (x3 x4:V):V:=.bc [.bc (lE c0 c1 c2 c3 E),.str nm,.fs (T.map encB),x3,x4]
section
variable (X:List Pr) (E:List Bool) (hE:E.length=X.length) (T:List (List Bool)) (hS:KS X T) (nm:ByteArray) (c0 c1 c2 c3 x3 x4:V) (h0:al c0=true) (h1:al c1=true) (h2:al c2=true) (h3:al c3=true) (hx3:al x3=true) (hx4:al x4=true)
include hE hS h0 h1 h2 h3 hx3 hx4
theorem t326 (role:ByteArray) (r t v l:ByteArray) (ek en:Int) (es:ByteArray) (aR:List Ex) (a b:List St) (p:ByteArray) (ps:List ByteArray) (n:Int) (dx:okS2 X (.mk 5 r t v l (.mk ek en es aR) a b p ps)=true):
 af Tryz.prog 199 [aVV c0 c1 c2 c3 E nm T x3 x4,cb X (.mk 5 r t v l (.mk ek en es aR) a b p ps,n),.str role] (·=.bool (CT E (MK T) (procI X p).toNat (ixR role ps))):=by
 have oU:=t58 ps role;rw[ic];simp only[okS2,Bool.and_eq_true,Bool.or_eq_true,bne_iff_ne,ne_eq,decide_eq_true_eq,not_true_eq_false,false_or]at dx;obtain⟨⟨hp,hq⟩,_⟩:=dx;have KX:kI X 5 p=procI X p:=by simp[kI]
 rw[KX];obtain⟨q,jB,jI⟩:∃q,X[(procI X p).toNat]? =some q/\q.au.length=ps.length:=by
  cases h:X[(procI X p).toNat]? with
  | none=>rw[h]at hq;cases hq
  | some q=>rw[h]at hq;exact⟨q,rfl,by simpa using hq⟩
 have hlen:=hS.2 _ _ jB;have dF:=(List.getElem?_eq_some_iff.1 jB).1;have hilt:(procI X p).toNat<T.length:=by rw[hS.1];exact dF
 have hx1:iD (procI X p) T.length:=⟨hp,hilt⟩;have hx1e:iD (procI X p) E.length:=⟨hp,by omega⟩;have tN:(T.map encB).getD (procI X p).toNat .any=.fs ((T.getD (procI X p).toNat []).map .bool):=by
  simp[List.getD,List.getElem?_map,List.getElem?_eq_getElem hilt,encB]
 have nJ:(E.map V.bool).getD (procI X p).toNat .any=.bool (E.getD (procI X p).toNat false):=by
  simp[List.getD,List.getElem?_map,List.getElem?_eq_getElem (show(procI X p).toNat<E.length by omega)]
 have gj:ixR role ps<ps.length/\ -1<=ixR role ps:=by
  rcases jN (fun y=>decide (role=y)) ps 0 (by omega)with⟨hI,_⟩ | ⟨pre,q,post,ao,hI,hF⟩
  ·rw[ixR,hI];omega
  ·rw[ixR,hI,ao];simp;omega
 have DH:=norefL_encB T;have hMK:∀j,MK T (procI X p).toNat j=(T.getD (procI X p).toNat []).getD j false:=fun _=>rfl
 simp only[CT,hMK];rw[<-ixR]at oU;generalize T.getD (procI X p).toNat []=L at*;generalize procI X p=I at*;generalize ixR role ps=J at*;unfold aVV lE
 refine af.intro c326 400 (by simp) 20 ?_;by_cases hj:0<=J
 ·have hx2:iD J L.length:=⟨hj,by omega⟩;have gB:(L.map V.bool).getD J.toNat .any=.bool (L.getD J.toNat false):=by
   simp[List.getD,List.getElem?_map,List.getElem?_eq_getElem (show J.toNat<L.length by omega)]
  rw[if_neg (by omega)];simp -implicitDefEqProofs only[s326,go_sem];repeat' (first | ((first | ((with_reducible refine bj oU ?_ ?_);(·simp[ae,al,cm,DH])) | ((with_reducible apply cj);(·simp -implicitDefEqProofs only[List.map_cons,List.map_nil,DH,push_cast,go_sem_proc]<;>rfl);(with_reducible exact oU);(·rfl)) | (with_reducible refine aD ?_));simp -implicitDefEqProofs only[hj,tN,hx1,gB,hx2,decide_true,go_sem]) | (with_reducible refine aA.mk ?_ ?_) | (with_reducible refine And.intro ?_ ?_) | ((with_reducible refine bz ?_);simp -implicitDefEqProofs only[r326,push_cast,go_sem_proc]) | intro _)
 ·have EF:J= -1:=by omega
  subst EF;simp -implicitDefEqProofs only[s326,go_sem];repeat' (first | ((first | ((with_reducible refine bj oU ?_ ?_);(·simp[ae,al,cm,DH])) | ((with_reducible apply cj);(·simp -implicitDefEqProofs only[List.map_cons,List.map_nil,DH,push_cast,go_sem_proc]<;>rfl);(with_reducible exact oU);(·rfl)) | (with_reducible refine aD ?_));simp -implicitDefEqProofs only[nJ,hx1e,decide_false,Int.reduceLE,go_sem]) | (with_reducible refine aA.mk ?_ ?_) | (with_reducible refine And.intro ?_ ?_) | ((with_reducible refine bz ?_);simp -implicitDefEqProofs only[r326,push_cast,go_sem_proc]) | intro _)
  all_goals simp
theorem t325s (role:ByteArray) (hro:role≠⟨#[]⟩) (k:Int) (r t v l:ByteArray) (ek en:Int) (es:ByteArray) (aR:List Ex) (a b:List St) (p:ByteArray) (ps:List ByteArray) (n:Int) (dx:okS2 X (.mk k r t v l (.mk ek en es aR) a b p ps)=true)
 (ha:af Tryz.prog 165 [aVV c0 c1 c2 c3 E nm T x3 x4,.fs ((num a (n+1)).map (cb X)),.str role] (·=.bool (ulL X (CT E (MK T)) nm role a)))
 (hb:af Tryz.prog 165 [aVV c0 c1 c2 c3 E nm T x3 x4,.fs ((num b (n+1+ai a)).map (cb X)),.str role] (·=.bool (ulL X (CT E (MK T)) nm role b))):
 af Tryz.prog 198 [cb X (.mk k r t v l (.mk ek en es aR) a b p ps,n),.bc [aVV c0 c1 c2 c3 E nm T x3 x4],.bc [.str role]] (·=.bool (!ulS X (CT E (MK T)) nm role (.mk k r t v l (.mk ek en es aR) a b p ps))):=by
 have h327:=t327 k r t v l ek en es aR a b p ps role nm;have DH:=norefL_encB T;have hnE:=br E;simp only[ulS];by_cases h4:k=4
 ·subst h4;rw[if_pos rfl];generalize ulL X (CT E (MK T)) nm role a=A at*;generalize ulL X (CT E (MK T)) nm role b=B at*;rw[ic];unfold aVV lE at*
  refine af.intro c325 400 (by simp) 20 ?_;simp -implicitDefEqProofs only[s325,Int.reduceEq,go_sem];repeat' (first | ((first | ((with_reducible first | refine bj ha ?_ ?_ | refine bj hb ?_ ?_);(·simp[ae,al,cm,DH,hnE,h0,h1,h2,h3,hx3,hx4])) | ((with_reducible apply cj);(·simp -implicitDefEqProofs only[List.map_cons,List.map_nil,DH,hnE,h0,h1,h2,h3,hx3,hx4,push_cast,go_sem_proc]<;>rfl);(with_reducible first | exact ha | exact hb);(·rfl)) | (with_reducible refine aD ?_));simp -implicitDefEqProofs only[Int.reduceEq,go_sem]) | (with_reducible refine aA.mk ?_ ?_) | (with_reducible refine And.intro ?_ ?_) | ((with_reducible refine bz ?_);simp -implicitDefEqProofs only[r325,push_cast,go_sem_proc]) | intro _)
  all_goals (try simp_all)
 ·by_cases h5:k=5
  ·subst h5;rw[if_neg (by decide),if_pos rfl];have h326:=t326 X E hE T hS nm c0 c1 c2 c3 x3 x4 h0 h1 h2 h3 hx3 hx4 role r t v l ek en es aR a b p ps n dx;generalize CT E (MK T) (procI X p).toNat (ixR role ps)=A at*;rw[ic]at h326⊢;unfold aVV lE at*
   refine af.intro c325 400 (by simp) 20 ?_;simp -implicitDefEqProofs only[s325,Int.reduceEq,go_sem];repeat' (first | ((first | ((with_reducible refine bj h326 ?_ ?_);(·simp[ae,al,cm,DH,hnE,h0,h1,h2,h3,hx3,hx4])) | ((with_reducible apply cj);(·simp -implicitDefEqProofs only[List.map_cons,List.map_nil,DH,hnE,h0,h1,h2,h3,hx3,hx4,push_cast,go_sem_proc]<;>rfl);(with_reducible exact h326);(·rfl)) | (with_reducible refine aD ?_));simp -implicitDefEqProofs only[Int.reduceEq,go_sem]) | (with_reducible refine aA.mk ?_ ?_) | (with_reducible refine And.intro ?_ ?_) | ((with_reducible refine bz ?_);simp -implicitDefEqProofs only[r325,push_cast,go_sem_proc]) | intro _)
  ·rw[if_neg h4,if_neg h5,decide_eq_true hro,Bool.true_and,Bool.not_not];generalize seF k r t v nm role=A at*;rw[ay]at h327;rw[ic];unfold aVV lE at*
   refine af.intro c325 400 (by simp) 20 ?_;simp -implicitDefEqProofs only[s325,h4,h5,decide_false,go_sem];repeat' (first | ((first | ((with_reducible refine bj h327 ?_ ?_);(·simp[ae,al,cm,DH,hnE,h0,h1,h2,h3,hx3,hx4])) | ((with_reducible apply cj);(·simp -implicitDefEqProofs only[List.map_cons,List.map_nil,DH,hnE,h0,h1,h2,h3,hx3,hx4,push_cast,go_sem_proc]<;>rfl);(with_reducible exact h327);(·rfl)) | (with_reducible refine aD ?_));simp -implicitDefEqProofs only[h4,h5,decide_false,go_sem]) | (with_reducible refine aA.mk ?_ ?_) | (with_reducible refine And.intro ?_ ?_) | ((with_reducible refine bz ?_);simp -implicitDefEqProofs only[r325,push_cast,go_sem_proc]) | intro _)
theorem t303s (role:ByteArray) (l:List St) (n:Int)
 (h:∀x∈num l n,af Tryz.prog 198 [cb X x,.bc [aVV c0 c1 c2 c3 E nm T x3 x4],.bc [.str role]] (·=.bool (!ulS X (CT E (MK T)) nm role x.1))):
 af Tryz.prog 165 [aVV c0 c1 c2 c3 E nm T x3 x4,.fs ((num l n).map (cb X)),.str role] (·=.bool (ulL X (CT E (MK T)) nm role l)):=by
 have DH:=norefL_encB T;have hnE:=br E;have JS:=t278 X (num l n) 198 [] [.bc [aVV c0 c1 c2 c3 E nm T x3 x4],.bc [.str role]] (fun x=> !ulS X (CT E (MK T)) nm role x.1) rfl (by simp[ae,al,aVV,lE,DH,h0,h1,h2,h3,hx3,hx4]) (fun x hx=>h x hx);have ey:(num l n).any (fun x=> !ulS X (CT E (MK T)) nm role x.1)= !ulL X (CT E (MK T)) nm role l:=by
  rw[ulL_all];clear h JS;induction l generalizing n with
  | nil=>rfl
  | cons s l ih=>simp only[num,List.any_cons,List.all_cons,ih,Bool.not_and]
 rw[ey]at JS;unfold aVV lE at*
 refine af.intro c303 100 (by simp) 20 ?_;simp -implicitDefEqProofs only[s303,go_sem];repeat' (first | ((first | ((with_reducible refine bj JS ?_ ?_);(·simp[ae,al,cm,DH,hnE,h0,h1,h2,h3,hx3,hx4])) | ((with_reducible apply cj);(·simp -implicitDefEqProofs only[List.map_cons,List.map_nil,DH,hnE,h0,h1,h2,h3,hx3,hx4,push_cast,go_sem_proc]<;>rfl);(with_reducible exact JS);(·rfl)) | (with_reducible refine aD ?_));simp -implicitDefEqProofs only[go_sem]) | (with_reducible refine aA.mk ?_ ?_) | (with_reducible refine And.intro ?_ ?_) | ((with_reducible refine bz ?_);simp -implicitDefEqProofs only[r303,push_cast,go_sem_proc]) | intro _)
 all_goals (try simp)
theorem t303 (role:ByteArray) (hro:role≠⟨#[]⟩):∀(m:Nat) (l:List St),SizeOf.sizeOf l<m->okL2 X l=true->∀n:Int,
 af Tryz.prog 165 [aVV c0 c1 c2 c3 E nm T x3 x4,.fs ((num l n).map (cb X)),.str role] (·=.bool (ulL X (CT E (MK T)) nm role l))
 | 0,l,h=>absurd h (Nat.not_lt_zero _)
 | m+1,l,hm=>fun dx n=>t303s X E hE T hS nm c0 c1 c2 c3 x3 x4 h0 h1 h2 h3 hx3 hx4 role l n (fun x hx=>by
  have da:=Cj hx;have AL:=okL2umem dx _ da;have hs:=List.sizeOf_lt_of_mem da;obtain⟨s,i⟩:=x;rcases s with⟨k,r,t,v,lb,⟨ek,en,es,aR⟩,a,b,p,ps⟩
  simp only[St.mk.sizeOf_spec]at hs;have vk:=AL;simp only[okS2,Bool.and_eq_true]at vk;exact t325s X E hE T hS nm c0 c1 c2 c3 x3 x4 h0 h1 h2 h3 hx3 hx4 role hro k r t v lb ek en es aR a b p ps i AL (t303 role hro m a (by omega) vk.2.1 _) (t303 role hro m b (by omega) vk.2.2 _))
end
structure RW (H:List ak) (js:List Nat) (kv:V) (K:List (List Bool)):Prop where
 len:js.length=K.length
 nd:js.Nodup
 row:∀(i:Nat) j l,js[i]? =some j->K[i]? =some l->H[j]? =some (.row (l.map .bool))
 ov:OV H kv (ksE js K)
 ne:∀j∈js,a7 kv j
theorem RW.lt {H:List ak} {js:List Nat} {kv:V} {K:List (List Bool)} (h:RW H js kv K) {j:Nat} (hj:j∈js):j<H.length:=by
 obtain⟨i,hi⟩:=List.getElem?_of_mem hj;have dF:=(List.getElem?_eq_some_iff.1 hi).1;have:=h.row i j _ hi (List.getElem?_eq_getElem (by rw[<-h.len];exact dF));exact(List.getElem?_eq_some_iff.1 this).1
theorem RW.congr {H H':List ak} {js:List Nat} {kv:V} {K:List (List Bool)} (h:RW H js kv K) (h1:∀j∈js,H'[j]? =H[j]?) (h2:∀id o n,kv=.ms id o n->H'[id]? =H[id]?):RW H' js kv K where
 len:=h.len
 nd:=h.nd
 row i j l hj hl:=by rw[h1 j (List.mem_of_getElem? hj)];exact h.row i j l hj hl
 ov:=by
  rcases h.ov with h | ⟨a,id,b,c⟩
  ·exact .inl h
  ·exact .inr ⟨a,id,b,by rw[h2 _ _ _ b];exact c⟩
 ne:=h.ne
theorem RW.app {H:List ak} {js:List Nat} {kv:V} {K:List (List Bool)} (h:RW H js kv K) (J:List ak):RW (H++J) js kv K where
 len:=h.len
 nd:=h.nd
 row i j l h1 h2:=by
  have:=h.row i j l h1 h2;rw[List.getElem?_append_left (List.getElem?_eq_some_iff.1 this).1];exact this
 ov:=h.ov.app J
 ne:=h.ne
theorem RW.nil (H:List ak):RW H [] .ag []:=⟨rfl,List.nodup_nil,fun i j l h=>by simp at h,.inl ⟨rfl,rfl⟩,fun j h=>by simp at h⟩
theorem RW.put {H:List ak} {js:List Nat} {kv:V} {K:List (List Bool)} (h:RW H js kv K) {i j:Nat} {l l':List Bool} (hj:js[i]? =some j) (hl:K[i]? =some l) (MD:l'.length=l.length):
 RW (H.set j (.row (l'.map .bool))) js kv (K.set i l') where
 len:=by simp[h.len]
 nd:=h.nd
 row i2 j2 l2 h1 h2:=by
  have oN:=(List.getElem?_eq_some_iff.1 (h.row i j l hj hl)).1;rw[List.getElem?_set]at h2⊢;by_cases hi:i=i2
  ·subst hi;rw[hj]at h1;cases h1;have:=(List.getElem?_eq_some_iff.1 hl).1;simp only[if_true,this]at h2;cases h2;simp[oN]
  ·rw[if_neg hi]at h2;have dr:j≠j2:=by
    rintro rfl;have e1:=List.getElem?_eq_some_iff.1 hj;have e2:=List.getElem?_eq_some_iff.1 h1;exact hi ((List.getElem_inj (h₀:=e1.1) (h₁:=e2.1) h.nd).1 (by rw[e1.2,e2.2]))
   rw[if_neg dr];exact h.row i2 j2 l2 h1 h2
 ov:=by rw[ksE_set hl MD];exact h.ov.set (h.ne j (List.mem_of_getElem? hj))
 ne:=h.ne
theorem RW.get {H:List ak} {js:List Nat} {kv:V} {K:List (List Bool)} (h:RW H js kv K) {i:Nat} (hi:i<K.length):
 ∃id j l,kv=.ms id 0 K.length/\H[id]? =some (.row (ksE js K))/\js[i]? =some j/\K[i]? =some l/\(ksE js K).getD i .any=.ms j 0 l.length/\H[j]? =some (.row (l.map .bool)):=by
 have hl:K[i]? =some K[i]:=List.getElem?_eq_getElem hi;have hj:js[i]? =some (js[i]'(by rw[h.len];exact hi)):=List.getElem?_eq_getElem _;have dr:ksE js K≠ []:=fun he=>by have:=ksE_len h.len;rw[he]at this;simp at this;omega
 rcases h.ov with⟨h1,_⟩ | ⟨_,id,h1,h2⟩
 ·exact absurd h1 dr
 ·refine⟨id,_,_,by rw[h1,ksE_len h.len],h2,hj,hl,?_,h.row i _ _ hj hl⟩;rw[List.getD_eq_getElem?_getD,ksE_get hj hl];rfl
theorem RW.fz {H:List ak} {js:List Nat} {kv:V} {K:List (List Bool)} (h:RW H js kv K) (n:Nat):Av.fz H (n+3) kv=some (.fs (K.map encB)):=by
 have hz:=fz_ksE (H:=H) n h.len h.row;rcases h.ov with⟨h1,rfl⟩ | ⟨_,id,rfl,h2⟩
 ·rw[fQ];have:=ksE_len h.len;rw[h1]at this;have:K=[]:=List.eq_nil_of_length_eq_zero (by simpa using this.symm);simp[this]
 ·rw[iu,h2,ef,if_pos (by simp),List.drop_zero,List.take_of_length_le (by simp),hz];rfl
theorem RW.grow {H H':List ak} {js:List Nat} {kv bN:V} {K:List (List Bool)} (h:RW H js kv K) (J:List ak) {j:Nat} {l:List Bool} (hj:H.length<=j) (nj:(H++J)[j]? =some (.row (l.map .bool)))
 (bm:OV H' bN (ksE js K++ [.ms j 0 l.length])) (cp:∀i,i<(H++J).length->a7 kv i->H'[i]? =(H++J)[i]? /\a7 bN i):RW H' (js++ [j]) bN (K++ [l]):=by
 have hA:=h.app J;have oN:=(List.getElem?_eq_some_iff.1 nj).1;have WL:∀m∈js,m<H.length:=fun m hm=>h.lt hm
 constructor
 ·simp[h.len]
 ·rw[List.nodup_append];refine⟨h.nd,by simp,fun a ha b hb=> ?_⟩;simp at hb;subst hb;have:=WL a ha;omega
 ·intro i m l' h1 h2;by_cases hi:i<js.length
  ·rw[List.getElem?_append_left hi]at h1;rw[List.getElem?_append_left (by rw[<-h.len];exact hi)]at h2;have:=WL m (List.mem_of_getElem? h1);rw[(cp m (by simp;omega) (h.ne m (List.mem_of_getElem? h1))).1];exact hA.row i m l' h1 h2
  ·have xP:i=js.length:=by have:=(List.getElem?_eq_some_iff.1 h1).1;simp at this;omega
   subst xP;simp at h1;subst h1;rw[h.len]at h2;simp at h2;subst h2;rw[(cp j oN (h.ov.lt hj)).1];exact nj
 ·have:ksE (js++ [j]) (K++ [l])=ksE js K++ [.ms j 0 l.length]:=by
   simp only[ksE];rw[List.zipWith_append h.len];rfl
  rw[this];exact bm
 ·intro m hm;rcases List.mem_append.1 hm with hm | hm
  ·have:=WL m hm;exact(cp m (by simp;omega) (h.ne m hm)).2
  ·simp at hm;subst hm;exact(cp m oN (h.ov.lt hj)).2
def rolesN (X:List Pr) (i:Nat):Nat:=match X[i]? with
 | some q=>q.au.length
 | none=>0
def eRow (X:List Pr) (se:List (Nat×Nat)) (i:Nat):List Bool:=(List.range (rolesN X i)).map fun k=>decide ((i,k)∈se)
def eR (X:List Pr) (se:List (Nat×Nat)):List (List Bool):=(List.range X.length).map (eRow X se)
theorem eR_len (X:List Pr) (se:List (Nat×Nat)):(eR X se).length=X.length:=by simp[eR]
theorem eRow_len (X:List Pr) (se:List (Nat×Nat)) (i:Nat):(eRow X se i).length=rolesN X i:=by simp[eRow]
theorem eR_get {X:List Pr} {se:List (Nat×Nat)} {i:Nat} (h:i<X.length):(eR X se)[i]? =some (eRow X se i):=by simp[eR,h]
theorem eRow_get {X:List Pr} {se:List (Nat×Nat)} {i k:Nat} (h:k<rolesN X i):(eRow X se i)[k]? =some (decide ((i,k)∈se)):=by simp[eRow,h]
theorem eRow_set {X:List Pr} {se:List (Nat×Nat)} {i k:Nat}:(eRow X se i).set k true=eRow X (se++ [(i,k)]) i:=by
 apply List.ext_getElem?
 intro j;rw[List.getElem?_set];by_cases hj:j<rolesN X i
 ·rw[eRow_get hj,eRow_get hj];by_cases hk:k=j
  ·subst hk;simp[eRow_len,hj]
  ·simp[hk,Ne.symm hk]
 ·rw[List.getElem?_eq_none (by rw[eRow_len];omega),List.getElem?_eq_none (by rw[eRow_len];omega)];split
  ·rw[if_neg (by rw[eRow_len];omega)]
  ·rfl
theorem eRow_ne {X:List Pr} {se:List (Nat×Nat)} {i i' k:Nat} (h:i≠i'):eRow X (se++ [(i,k)]) i'=eRow X se i':=by
 simp only[eRow];refine List.map_congr_left fun j _=> ?_
 simp[Ne.symm h]
def foM (RO:Int->ByteArray) (fo:List (Int×ByteArray)):ak:=.mp (fo.map fun x=> .int .i64 x.1) (fo.map fun x=> .str (RO x.1))
def EWH (X:List Pr) (RO:Int->ByteArray) (je:List Nat) (m:Nat) (w:EW) (H:List ak):List ak:=
 H.mapIdx fun j b=>if j=m then foM RO w.fo else if j∈je then .row ((eRow X w.se (je.idxOf j)).map .bool)else b
section
variable {X:List Pr} {RO:Int->ByteArray} {je:List Nat} {m:Nat} {w:EW} {H:List ak}
theorem EWH_len:(EWH X RO je m w H).length=H.length:=by simp[EWH]
theorem EWH_get (j:Nat):(EWH X RO je m w H)[j]? =(H[j]?).map fun b=>if j=m then foM RO w.fo else if j∈je then .row ((eRow X w.se (je.idxOf j)).map .bool)else b:=by
 simp[EWH,List.getElem?_mapIdx]
theorem EWH_old {j:Nat} (h1:j≠m) (h2:j∉je):(EWH X RO je m w H)[j]? =H[j]? :=by
 rw[EWH_get];simp[h1,h2]
theorem EWH_map {b:ak} (h:H[m]? =some b):(EWH X RO je m w H)[m]? =some (foM RO w.fo):=by
 rw[EWH_get,h];simp
theorem idxOf_get {je:List Nat} (hn:je.Nodup) {i j:Nat} (h:je[i]? =some j):je.idxOf j=i:=by
 have hm:j∈je:=List.mem_of_getElem? h;have hl:=List.idxOf_lt_length_of_mem hm;have h1:je[je.idxOf j]=j:=List.getElem_idxOf hl;obtain⟨hi,h2⟩:=List.getElem?_eq_some_iff.1 h;exact(List.getElem_inj (h₀:=hl) (h₁:=hi) hn).1 (by rw[h1,h2])
theorem EWH_row (hn:je.Nodup) {i j:Nat} (hm:j≠m) (h:je[i]? =some j) {b:ak} (hb:H[j]? =some b):(EWH X RO je m w H)[j]? =some (.row ((eRow X w.se i).map .bool)):=by
 rw[EWH_get,hb];simp[hm,List.mem_of_getElem? h,idxOf_get hn h]
theorem EWH_EWH (w':EW):EWH X RO je m w' (EWH X RO je m w H)=EWH X RO je m w' H:=by
 apply List.ext_getElem?
 intro j;rw[EWH_get,EWH_get,EWH_get];cases H[j]? with
 | none=>rfl
 | some b=>
  simp only[Option.map_some];congr 1
  split
  ·rfl
  ·split<;>rfl
theorem EWH_app (hm:m<H.length) (hj:∀j∈je,j<H.length) (J:List ak):EWH X RO je m w (H++J)=EWH X RO je m w H++J:=by
 apply List.ext_getElem?
 intro j;by_cases h:j<H.length
 ·rw[EWH_get,List.getElem?_append_left h,List.getElem?_append_left (by rw[EWH_len];exact h),EWH_get]
 ·rw[EWH_get,List.getElem?_append_right (by omega),List.getElem?_append_right (by rw[EWH_len];omega),EWH_len];cases J[j - H.length]? with
  | none=>rfl
  | some b=>
   simp only[Option.map_some];rw[if_neg (by omega),if_neg (fun h'=>h (hj j h'))]
theorem EWH_setm (hm:m<H.length) (fo:List (Int×ByteArray)) (K:List ak):(EWH X RO je m w H++K).set m (foM RO fo)=EWH X RO je m ⟨w.se,fo⟩ H++K:=by
 rw[List.set_append_left _ _ (by rw[EWH_len];exact hm)];congr 1
 apply List.ext_getElem?
 intro j;rw[List.getElem?_set,EWH_get,EWH_get,EWH_len];by_cases h:m=j
 ·subst h;simp only[if_true,hm];rw[List.getElem?_eq_getElem hm];rfl
 ·rw[if_neg h];cases H[j]? with
  | none=>rfl
  | some b=>simp[Ne.symm h]
theorem EWH_sete (hn:je.Nodup) (hm:∀j∈je,j≠m) (hl:∀j∈je,j<H.length) {i j k:Nat} (h:je[i]? =some j) (K:List ak):
 (EWH X RO je m w H++K).set j (.row (((eRow X w.se i).set k true).map .bool))=EWH X RO je m ⟨w.se++ [(i,k)],w.fo⟩ H++K:=by
 have Ll:=List.mem_of_getElem? h;have oN:=hl j Ll;rw[List.set_append_left _ _ (by rw[EWH_len];exact oN)];congr 1
 apply List.ext_getElem?
 intro j';rw[List.getElem?_set,EWH_get,EWH_get,EWH_len,eRow_set];by_cases h':j=j'
 ·subst h';simp only[if_true,oN];rw[List.getElem?_eq_getElem oN];simp[hm j Ll,Ll,idxOf_get hn h]
 ·rw[if_neg h'];cases H[j']? with
  | none=>rfl
  | some b=>
   simp only[Option.map_some];congr 1
   split
   ·rfl
   ·split
    ·rename_i _ Nd;have dr:i≠je.idxOf j':=by
      intro e;have h1:=List.idxOf_lt_length_of_mem Nd;have h2:je[je.idxOf j']=j':=List.getElem_idxOf h1;have h3:je[i]? =some j':=by rw[e,List.getElem?_eq_getElem h1,h2]
      rw[h]at h3;injection h3 with h3;exact h' h3
     rw[eRow_ne dr]
    ·rfl
end
structure AM (X:List Pr) (RO:Int->ByteArray) (bk:V) (nm:ByteArray) (a:Nat) (jp je:List Nat) (kp ke:V) (m:Nat) (T:List (List Bool)) (w:EW) (H:List ak):Prop where
 box:H[a]? =some (.row [.agg [bk,.str nm,kp,ke,.map m]])
 rp:RW H jp kp T
 re:RW H je ke (eR X w.se)
 mp:H[m]? =some (foM RO w.fo)
 am:a≠m
 ej:∀j∈je,j≠m/\j≠a/\j∉jp/\a7 kp j
 pm:m∉jp
 km:a7 kp m
 kn:a7 ke m
 ap:a∉jp
 pe:∀j∈jp,a7 ke j
section
variable {X:List Pr} {RO:Int->ByteArray} {bk:V} {nm:ByteArray} {a:Nat} {jp je:List Nat} {kp ke:V} {m:Nat} {T:List (List Bool)} {w:EW} {H:List ak}
theorem AM.app (h:AM X RO bk nm a jp je kp ke m T w H) (J:List ak):AM X RO bk nm a jp je kp ke m T w (H++J):=
 ⟨by rw[List.getElem?_append_left (List.getElem?_eq_some_iff.1 h.box).1];exact h.box,h.rp.app J,h.re.app J,by rw[List.getElem?_append_left (List.getElem?_eq_some_iff.1 h.mp).1];exact h.mp,h.am,h.ej,h.pm,h.km,h.kn,h.ap,h.pe⟩
theorem AM.step (h:AM X RO bk nm a jp je kp ke m T w H) (w':EW):AM X RO bk nm a jp je kp ke m T w' (EWH X RO je m w' H) where
 box:=by rw[EWH_old h.am (fun hj=>(h.ej a hj).2.1 rfl)];exact h.box
 rp:=h.rp.congr (fun j hj=>EWH_old (fun e=>h.pm (e▸hj)) (fun Nd=>(h.ej j Nd).2.2.1 hj)) (fun id o n e=>EWH_old (fun e'=>h.km o n (e'▸e)) (fun Nd=>(h.ej id Nd).2.2.2 o n e))
 re:={
  len:=by rw[h.re.len,eR_len,eR_len]
  nd:=h.re.nd
  row:=fun i j l hj hl=>by
   have hi:i<X.length:=by have:=(List.getElem?_eq_some_iff.1 hl).1;rw[eR_len]at this;exact this
   rw[eR_get hi]at hl;injection hl with hl
   subst hl;have oN:=h.re.lt (List.mem_of_getElem? hj);exact EWH_row h.re.nd (h.ej j (List.mem_of_getElem? hj)).1 hj (List.getElem?_eq_getElem oN)
  ov:=by
   have hk:ksE je (eR X w'.se)=ksE je (eR X w.se):=by
    apply List.ext_getElem?
    intro i;simp only[ksE,List.getElem?_zipWith];by_cases hi:i<X.length
    ·rw[eR_get hi,eR_get hi];cases je[i]? with
     | none=>rfl
     | some j=>simp[eRow_len]
    ·have e1:∀se,(eR X se)[i]? =none:=fun se=>List.getElem?_eq_none (by rw[eR_len];omega)
     rw[e1,e1]
   rw[hk];rcases h.re.ov with h1 | ⟨a1,id,b1,c1⟩
   ·exact .inl h1
   ·refine .inr ⟨a1,id,b1,?_⟩;rw[EWH_old (fun e=>h.kn 0 _ (e▸b1)) (fun hj=>h.re.ne id hj 0 _ b1)];exact c1
  ne:=h.re.ne}
 mp:=EWH_map h.mp
 am:=h.am
 ej:=h.ej
 pm:=h.pm
 km:=h.km
 kn:=h.kn
 ap:=h.ap
 pe:=h.pe
theorem AM.same (h:AM X RO bk nm a jp je kp ke m T w H):EWH X RO je m w H=H:=by
 apply List.ext_getElem?
 intro j;rw[EWH_get];cases hb:H[j]? with
 | none=>rfl
 | some b=>
  simp only[Option.map_some];congr 1
  split
  ·rename_i e;subst e;have:=h.mp;rw[hb]at this;injection this with this;exact this.symm
  ·split
   ·rename_i hj;have hl:=List.idxOf_lt_length_of_mem hj;have h1:je[je.idxOf j]? =some j:=by rw[List.getElem?_eq_getElem hl,List.getElem_idxOf hl]
    have hi:je.idxOf j<X.length:=by have:=h.re.len;rw[eR_len]at this;omega
    have:=h.re.row _ _ _ h1 (eR_get hi);rw[hb]at this;injection this with this;exact this.symm
   ·rfl
theorem AM.putp (h:AM X RO bk nm a jp je kp ke m T w H) {i j:Nat} {l l':List Bool} (hj:jp[i]? =some j) (hl:T[i]? =some l) (MD:l'.length=l.length):AM X RO bk nm a jp je kp ke m (T.set i l') w (H.set j (.row (l'.map .bool))):=by
 have hm:=List.mem_of_getElem? hj;have h1:j≠a:=by rintro rfl;exact h.ap hm
 have h2:j≠m:=by rintro rfl;exact h.pm hm
 have h3:∀j'∈je,j≠j':=by rintro j' Nd rfl;exact(h.ej j Nd).2.2.1 hm
 have h4:∀id o n,ke=.ms id o n->j≠id:=by rintro id o n e rfl;exact h.pe j hm o n e
 exact{
  box:=by rw[List.getElem?_set_ne h1];exact h.box
  rp:=h.rp.put hj hl MD
  re:=h.re.congr (fun j' Nd=>List.getElem?_set_ne (h3 j' Nd)) (fun id o n e=>List.getElem?_set_ne (h4 id o n e))
  mp:=by rw[List.getElem?_set_ne h2];exact h.mp
  am:=h.am
  ej:=h.ej
  pm:=h.pm
  km:=h.km
  kn:=h.kn
  ap:=h.ap
  pe:=h.pe}
theorem AM.lt (h:AM X RO bk nm a jp je kp ke m T w H):m<H.length/\a<H.length/\∀j∈je,j<H.length:=
 ⟨(List.getElem?_eq_some_iff.1 h.mp).1,(List.getElem?_eq_some_iff.1 h.box).1,fun j hj=>h.re.lt hj⟩
end
theorem addG_cons {α:Type} [DecidableEq α] {x y:α} {l:List α} (h:y≠x):addG (x::l) y=x::addG l y:=by
 simp only[addG,List.mem_cons,h,false_or];split<;>simp
theorem kOkF (fo:List (Int×ByteArray)) (n:Int):ya (false,[false]) (fo.map fun x=> .int .i64 x.1) (.int .i64 n)=true:=by
 have:=bL (fo.map (·.1)) n;rwa[List.map_map]at this
theorem mputKF {nm:ByteArray} {n:Int}:∀{fo:List (Int×ByteArray)},(∀y∈fo,y.2=nm)->ja (fo.map fun x=>V.int .i64 x.1) (.int .i64 n)=(addG fo (n,nm)).map fun x=> .int .i64 x.1:=by
 intro fo h;have h1:=b8 n (fo.map (·.1));rw[List.map_map]at h1;have h2:fc (fo.map (·.1)) n=(addG fo (n,nm)).map (·.1):=by
  have hm:((fo.map (·.1)).contains n=true)↔(n,nm)∈fo:=by
   rw[List.contains_iff_mem,List.mem_map];constructor
   ·rintro⟨y,hy,rfl⟩;have:=h y hy;rw[<-this];exact hy
   ·intro hy;exact⟨_,hy,rfl⟩
  unfold fc addG
  by_cases hc:(n,nm)∈fo
  ·rw[if_pos hc,if_pos (hm.2 hc)]
  ·rw[if_neg hc,if_neg (fun hh=>hc (hm.1 hh))];simp
 rw[h2,List.map_map]at h1;exact h1
theorem mputVF {nm r:ByteArray} {RO:Int->ByteArray} {n:Int} (hr:RO n=r):∀{fo:List (Int×ByteArray)},(∀y∈fo,y.2=nm)->im (fo.map fun x=>V.int .i64 x.1) (fo.map fun x=> .str (RO x.1)) (.int .i64 n) (.str r)=(addG fo (n,nm)).map fun x=> .str (RO x.1)
 | [],_=>by simp[im,addG,hr]
 | x::fo,h=>by
  have ih:=mputVF hr (fo:=fo) (fun y hy=>h y (by simp[hy]));have hx:=h x (by simp);simp only[List.map_cons,im,gE,fF,if_true,Option.some.injEq,decide_eq_true_eq];by_cases hn:n=x.1
  ·have:(n,nm)=x:=by rw[hn,<-hx]
   rw[if_pos hn,addG,if_pos (by rw[this];simp),List.map_cons,<-hn,hr]
  ·rw[if_neg hn,ih,addG_cons (fun e=>hn (by rw[<-e])),List.map_cons]
mutual
def roS (RO:Int->ByteArray):St->Int->Prop
 | .mk _ r _ _ _ _ a b _ _,n=>RO n=r/\roL RO a (n+1)/\roL RO b (n+1+ai a)
def roL (RO:Int->ByteArray):List St->Int->Prop
 | [],_=>True
 | s::l,n=>roS RO s n/\roL RO l (n+dA s)
end
structure LW (X:List Pr) (RO:Int->ByteArray) (l:List St) (n:Int):Prop where
 wf:wfEs X l=true
 ok:okL2 X l=true
 dm:dmL X l=true
 ro:roL RO l n
structure PW (P:bH) (RO:Int->ByteArray):Prop where
 main:LW P.procs RO P.main 0
 body:∀i:Nat,i<P.procs.length->LW P.procs RO (aK P.procs i) (dc P i)
 role:∀(i:Nat) q (k:Nat) r,P.procs[i]? =some q->q.au[k]? =some r->r≠⟨#[]⟩
 dm:∀i,dmL P.procs (aK P.procs i)=true
def I304 (P:bH) (RO:Int->ByteArray) (nm:ByteArray) (a:Nat) (jp je:List Nat) (kp ke:V) (m:Nat) (T:List (List Bool)) (f:Nat):Prop:=
 ∀(l:List St) (n:Int) (role:ByteArray) (w:EW) (H:List ak),AM P.procs RO (.bc (fy P (bY P.procs))) nm a jp je kp ke m T w H->LW P.procs RO l n->role≠⟨#[]⟩->(∀y∈w.fo,y.2=nm)->muE P w l<f->
  av Tryz.prog 166 [.ptr a 0 0,.fs ((num l n).map (cb P.procs)),.str role] H (bX (.bool (ulL P.procs (CT (bY P.procs) (MK T)) nm role l)) (EWH P.procs RO je m (wkE P (CT (bY P.procs) (MK T)) nm f l n role w) H))
section
variable {P:bH} {RO:Int->ByteArray} {nm:ByteArray} {a:Nat} {jp je:List Nat} {kp ke:V} {m:Nat} {T:List (List Bool)}
theorem t329 (hP:PW P RO) {f:Nat} (ih:I304 P RO nm a jp je kp ke m T f) (i k:Nat) (hi:i<P.procs.length) (hk:k<rolesN P.procs i) (w:EW) (H:List ak) (h:AM P.procs RO (.bc (fy P (bY P.procs))) nm a jp je kp ke m T w H) (Jx:∀y∈w.fo,y.2=nm)
 (hmu:(i,k)∉w.se->muE P ⟨w.se++ [(i,k)],w.fo⟩ (aK P.procs i)<f):
 av Tryz.prog 202 [.ptr a 0 0,.int .i64 i,.int .i64 k] H (bX (.dJ []) (EWH P.procs RO je m (if(i,k)∉w.se then wkE P (CT (bY P.procs) (MK T)) nm f (aK P.procs i) (dc P i) (roA P.procs i k) ⟨w.se++ [(i,k)],w.fo⟩else w) H)):=by
 have hbox:=h.box;obtain⟨ide,j,l,rfl,hide,hj,hl,W6,hjr⟩:=h.re.get (i:=i) (by rw[eR_len];exact hi);rw[eR_get hi]at hl;injection hl with hl
 subst hl;obtain⟨q,hq⟩:∃q,P.procs[i]? =some q:=⟨_,List.getElem?_eq_getElem hi⟩;have PA:rolesN P.procs i=q.au.length:=by simp[rolesN,hq]
 have Ie:k<q.au.length:=by omega
 have hgb:((eRow P.procs w.se i).map V.bool).getD k .any=.bool (decide ((i,k)∈w.se)):=by
  rw[List.getD_eq_getElem?_getD,List.getElem?_map,eRow_get hk];rfl
 have DX:(P.procs.map aF).getD i .any=.agg [.str q.name,.fs (q.au.map .str),.fs (q.steps.map encS)]:=by
  rw[List.getD_eq_getElem?_getD,List.getElem?_map,hq];rfl
 have hgr:(q.au.map V.str).getD k .any=.str (roA P.procs i k):=by
  have hr:q.au[k]? =some q.au[k]:=List.getElem?_eq_getElem Ie;rw[roA_of hq hr,List.getD_eq_getElem?_getD,List.getElem?_map,hr];rfl
 have tW:=mX P i hi;have l6:=cT P.procs P.procs (ai P.main);have kD:=eR_len P.procs w.se;have herl:=eRow_len P.procs w.se i;have ED:(ksE je (eR P.procs w.se)).length=P.procs.length:=by rw[ksE_len h.re.len,kD]
 have hro:roA P.procs i k≠⟨#[]⟩:=by
  have hr:q.au[k]? =some q.au[k]:=List.getElem?_eq_getElem Ie;rw[roA_of hq hr];exact hP.role i q k _ hq hr
 by_cases oO:(i,k)∈w.se
 ·rw[if_neg (fun hh=>hh oO),h.same];rw[decide_eq_true oO]at hgb;simp only[fy,lE]at hbox;refine av.intro c329 400 (by simp) ?_;simp -implicitDefEqProofs only[s329,hbox,hide,W6,hjr,hgb,hi,hk,kD,herl,ED,ne_eq,not_false_eq_true,fv,fK,Nat.reduceMul,go_sem];repeat' (first | ((with_reducible refine aD ?_);simp -implicitDefEqProofs only[hbox,hide,W6,hjr,hgb,hi,hk,kD,herl,ED,ne_eq,not_false_eq_true,fv,fK,Nat.reduceMul,go_sem]) | (with_reducible refine aA.mk ?_ ?_) | (with_reducible refine And.intro ?_ ?_) | ((with_reducible refine bz ?_);simp -implicitDefEqProofs only[r329,ne_eq,not_false_eq_true,fv,fK,Nat.reduceMul,push_cast,go_sem_proc]) | intro _)
 ·rw[if_pos oO];rw[decide_eq_false oO]at hgb;have ct:=h.lt;have iI:H.set j (.row (((eRow P.procs w.se i).map V.bool).set k (.bool true)))=EWH P.procs RO je m ⟨w.se++ [(i,k)],w.fo⟩ H:=by
   have:=EWH_sete (X:=P.procs) (RO:=RO) (w:=w) (H:=H) h.re.nd (fun j hj=>(h.ej j hj).1) ct.2.2 (k:=k) hj [];rw[h.same,List.append_nil,List.append_nil,List.map_set]at this;exact this
  have Om:=h.step ⟨w.se++ [(i,k)],w.fo⟩;have cH:=ih (aK P.procs i) (dc P i) (roA P.procs i k) ⟨w.se++ [(i,k)],w.fo⟩ _ Om (hP.body i hi) hro Jx (hmu oO);rw[EWH_EWH]at cH;have hbox2:=Om.box;generalize EWH P.procs RO je m ⟨w.se++ [(i,k)],w.fo⟩ H=H2 at*;simp only[fy,lE]at hbox hbox2;refine av.intro c329 400 (by simp) ?_;simp -implicitDefEqProofs only[s329,hbox,hide,W6,hjr,hgb,hi,hk,kD,herl,ED,iI,ne_eq,not_false_eq_true,fv,fK,Nat.reduceMul,go_sem];repeat' (first | ((first | (with_reducible refine bR cH ?_) | (with_reducible refine aD ?_));simp -implicitDefEqProofs only[hbox,hbox2,hide,W6,hjr,hgb,hi,hk,kD,herl,ED,iI,tW,l6,DX,Ie,hgr,ne_eq,not_false_eq_true,fv,fK,Nat.reduceMul,go_sem]) | (with_reducible refine aA.mk ?_ ?_) | (with_reducible refine And.intro ?_ ?_) | ((with_reducible refine bz ?_);simp -implicitDefEqProofs only[r329,ne_eq,not_false_eq_true,fv,fK,Nat.reduceMul,push_cast,go_sem_proc]) | intro _)
end
theorem wkE_nil (P:bH) (C:Nat->Int->Bool) (nm:ByteArray) (f:Nat) (n:Int) (role:ByteArray) (w:EW):wkE P C nm f [] n role w=w:=by cases f<;>rfl
theorem WE.nm {P:bH} {C:Nat->Int->Bool} {nm:ByteArray} {ks:List (Nat×Nat)} {vs:List Int} {w w':EW} (h:WE P C nm ks vs w w') (h0:∀y∈w.fo,y.2=nm):∀y∈w'.fo,y.2=nm:=fun y hy=>by
 rcases(h.found y).1 hy with hy | ⟨hy,_⟩
 ·exact h0 y hy
 ·exact hy
section
variable {P:bH} {RO:Int->ByteArray} {nm:ByteArray} {a:Nat} {jp je:List Nat} {kp ke:V} {m:Nat} {T:List (List Bool)}
theorem EWH_ok {X:List Pr} {w:EW} {H:List ak}:∀(i:Nat) b,(EWH X RO je m w H)[i]? =some b->H[i]? =some b\/b.nr=true:=by
 intro i b h;rw[EWH_get]at h;cases hb:H[i]? with
 | none=>rw[hb]at h;cases h
 | some c=>
  rw[hb]at h;simp only[Option.map_some,Option.some.injEq]at h;split at h
  ·subst h;right;simp only[foM,ak.nr,Bool.and_eq_true];exact⟨bS (fun x=>by simp[al]) _,bS (fun x=>by simp[al]) _⟩
  ·split at h
   ·subst h;right;simp[ak.nr]
   ·subst h;exact .inl rfl
theorem t304s (hP:PW P RO) (hS:KS P.procs T) {f:Nat} (ih:∀k,k<=f->I304 P RO nm a jp je kp ke m T k):I304 P RO nm a jp je kp ke m T (f+1):=by
 intro l n role w H hA hl hro Jx hmu;have ct:=hA.lt;have hEl:=(vZ P.procs).1;have xY:=fun w' K=>(hA.step w').app K
 have V4:∀w' K,(EWH P.procs RO je m w' H++K)[m]? =some (.mp (w'.fo.map fun x=> .int .i64 x.1) (w'.fo.map fun x=> .str (RO x.1))):=fun w' K=>(xY w' K).mp
 have hzp:=fun w' K=>(xY w' K).rp.fz 16
 have hze:=fun w' K=>(xY w' K).re.fz 16
 have hzm:∀w' K,fz (EWH P.procs RO je m w' H++K) 19 (.map m)=some (.db (w'.fo.map fun x=> .int .i64 x.1) (w'.fo.map fun x=> .str (RO x.1))):=fun w' K=>by
  rw[fz_map,V4,mw,dg _ _ (fun x=>jZ _ _ _ _),dg _ _ (fun x=>dN _ _ _)]
 have cH:∀k,k<=f->∀l' n' w' K,LW P.procs RO l' n'->(∀y∈w'.fo,y.2=nm)->muE P w' l'<k->av Tryz.prog 166 [.ptr a 0 0,.fs ((num l' n').map (cb P.procs)),.str role] (EWH P.procs RO je m w' H++K)
  (bX (.bool (ulL P.procs (CT (bY P.procs) (MK T)) nm role l')) (EWH P.procs RO je m (wkE P (CT (bY P.procs) (MK T)) nm k l' n' role w') H++K)):=fun k hk l' n' w' K hl' nH hm'=>by
  have:=ih k hk l' n' role w' _ (xY w' K) hl' hro nH hm';rwa[EWH_app (by rw[EWH_len];exact ct.1) (fun j hj=>by rw[EWH_len];exact ct.2.2 j hj),EWH_EWH]at this
 have henter:∀k,k<=f->∀(i j:Nat) w' K,i<P.procs.length->j<rolesN P.procs i->(∀y∈w'.fo,y.2=nm)->((i,j)∉w'.se->muE P ⟨w'.se++ [(i,j)],w'.fo⟩ (aK P.procs i)<k)->av Tryz.prog 202 [.ptr a 0 0,.int .i64 i,.int .i64 j] (EWH P.procs RO je m w' H++K)
  (bX (.dJ []) (EWH P.procs RO je m (if(i,j)∉w'.se then wkE P (CT (bY P.procs) (MK T)) nm k (aK P.procs i) (dc P i) (roA P.procs i j) ⟨w'.se++ [(i,j)],w'.fo⟩else w') H++K)):=fun k hk i j w' K hi hj nH hm'=>by
  have:=t329 hP (ih k hk) i j hi hj w' _ (xY w' K) nH hm';rwa[EWH_app (by rw[EWH_len];exact ct.1) (fun j hj=>by rw[EWH_len];exact ct.2.2 j hj),EWH_EWH]at this
 have gi:ae (eF P.procs P.procs (ai P.main))=true:=ee (eG _ _ _);have h326:∀(w':EW) r t v lb ek en es aR sa sb p ps i,okS2 P.procs (.mk 5 r t v lb (.mk ek en es aR) sa sb p ps)=true->af Tryz.prog 199 [.bc [.bc (fy P (bY P.procs)),.str nm,.fs (T.map encB),.fs ((eR P.procs w'.se).map encB),.db (w'.fo.map fun x=> .int .i64 x.1) (w'.fo.map fun x=> .str (RO x.1))],cb P.procs (.mk 5 r t v lb (.mk ek en es aR) sa sb p ps,i),.str role] (·=.bool (CT (bY P.procs) (MK T) (procI P.procs p).toNat (ixR role ps))):=
  fun w' r t v lb ek en es aR sa sb p ps i dx=>t326 P.procs (bY P.procs) hEl T hS nm _ _ _ _ _ _ (by simp[al,aq]) (by simp[al,ah]) (by simp[al]) (by simp[al,gi]) (by simp[al,norefL_encB]) (by simp only[al,Bool.and_eq_true];exact⟨bS (fun x=>by simp[al]) _,bS (fun x=>by simp[al]) _⟩) role r t v lb ek en es aR sa sb p ps i dx
 have hzb:∀(H:List ak) (n:Nat),fz H (n+1) (.bc (fy P (bY P.procs)))=some (.bc (fy P (bY P.procs))):=fun H n=>by
  rw[pC,if_pos];simp[fy,lE,ae,al,aq,ah,gi]
 have hbox:=fun w' K=>(xY w' K).box
 generalize CT (bY P.procs) (MK T)=C at*;generalize V.bc (fy P (bY P.procs))=bkV at*;refine av.trim ?_;refine av.intro c304 800 (by simp) ?_;simp -implicitDefEqProofs only[s304,go_sem];intro hlen;refine aL (fun mm e H1=>∃pre post f' n' w' J,num l n=pre++num post n'/\mm=post.length/\LW P.procs RO post n'/\f'<=f+1/\muE P w' post<f'/\(∀y∈w'.fo,y.2=nm)/\wkE P C nm (f+1) l n role w=wkE P C nm f' post n' role w'/\ulL P.procs C nm role l=ulL P.procs C nm role post/\
  e 0=.ptr a 0 0/\e 2=.str role/\e 13=.fs ((num l n).map (cb P.procs))/\e 14=.int .i64 (num l n).length/\e 15=.int .i64 pre.length/\H1=EWH P.procs RO je m w' H++J) l.length
  ⟨[],l,f+1,n,w,[],rfl,rfl,hl,Nat.le_refl _,hmu,Jx,rfl,rfl,by simp[az,aC],by simp[az,aC],by simp[az,aC],by simp[az,aC],by simp[az,aC],by rw[hA.same,List.append_nil]⟩ ?_
 rintro mm e H1 ⟨pre,post,f',n',w',J,ao,rfl,MN,JK,hmu',hnm',qx,hul,h0,h2,eV,dG,gy,rfl⟩;cases post with
 | nil=>
  simp only[num]at ao;simp -implicitDefEqProofs only[h0,h2,eV,dG,gy,aI ao,go_sem];simp -implicitDefEqProofs only[r304,push_cast,go_sem_proc];rw[wkE_nil]at qx;refine⟨_,J,rfl,EWH_len,EWH_ok,?_⟩;rw[qx,hul];exact⟨rfl,rfl⟩
 | cons s rest=>
  cases f' with
  | zero=>omega
  | succ k=>
  have hk:k<=f:=by omega
  simp only[num]at ao;have hg:=aO (cb P.procs) ao;obtain⟨hwf,Zo,hdm,hroL⟩:=MN;simp only[wfEs,okL2,dmL,roL,Bool.and_eq_true]at hwf Zo hdm hroL;rcases s with⟨sk,r,t,v,lb,⟨ek,en,es,aR⟩,sa,sb,p,ps⟩
  have Ub:LW P.procs RO rest (n'+dA (.mk sk r t v lb (.mk ek en es aR) sa sb p ps)):=⟨hwf.2,Zo.2,hdm.2,hroL.2⟩;have AL:=Zo.1;have zL:=hwf.1;have vi:=hdm.1;have Bu:=hroL.1;simp only[wfE,dmS,roS,okS2,Bool.and_eq_true,Bool.or_eq_true,decide_eq_true_eq,List.isEmpty_iff,List.all_eq_true,bne_iff_ne,ne_eq]at zL vi Bu Zo;have Ii:LW P.procs RO sa (n'+1):=⟨zL.2.1,Zo.1.2.1,vi.2.1,Bu.2.1⟩;have EN:LW P.procs RO sb (n'+1+ai sa):=⟨zL.2.2,Zo.1.2.2,vi.2.2,Bu.2.2⟩;have hncnt:dA (.mk sk r t v lb (.mk ek en es aR) sa sb p ps)=1+ai sa+ai sb:=rfl;simp only[muE,ai,dA]at hmu';simp only[wkE]at qx;rw[ulL]at hul;have h326:=fun w'=>h326 w' r t v lb ek en es aR sa sb p ps n'
  have h327:=t327 sk r t v lb ek en es aR sa sb p ps role nm;have h328:=t328 sk r t v lb ek en es aR sa sb p ps nm;have oU:=t58 ps role;rw[<-ixR]at oU;rw[ay]at h327 h328;have hgN:=ic P.procs sk r t v lb ek en es aR sa sb p ps n';rw[hgN]at hg;generalize hnd0:V.agg [.int .i64 n',.int .i64 sk,.str r,.str t,.str v,.str lb,.int .i64 ek,.int .i64 en,.str es,.fs (aR.map bu),.fs (sa.map encS),.fs (sb.map encS),.str p,.fs (ps.map .str),.int .i64 (kI P.procs sk p),.fs ((num sa (n'+1)).map (cb P.procs)),.fs ((num sb (n'+1+ai sa)).map (cb P.procs))]=nd at*;have AQ:∀w1 w2,(EWH P.procs RO je m w1 H++(J++ [ak.row [nd]]))[(EWH P.procs RO je m w2 H).length+J.length]? =some (.row [nd]):=fun w1 w2=>by
   rw[List.getElem?_append_right (by rw[EWH_len,EWH_len];omega),EWH_len,EWH_len,List.getElem?_append_right (by omega)];simp
  have iI:∀fo',(EWH P.procs RO je m w' H++(J++ [ak.row [nd]])).set m (.mp (fo'.map fun x=> .int .i64 x.1) (fo'.map fun x=> .str (RO x.1)))=EWH P.procs RO je m ⟨w'.se,fo'⟩ H++(J++ [ak.row [nd]]):=fun fo'=>EWH_setm ct.1 fo' _
  have hpk:=mputKF (n:=n') hnm';have hpv:=mputVF (RO:=RO) Bu.1 hnm';have LF:∃w1:EW,(if r=role/\inE nm (.mk ek en es aR)=true then(⟨w'.se,addG w'.fo (n',nm)⟩:EW)else w')=w1/\(∀y∈w1.fo,y.2=nm)/\frE P.procs w1<=frE P.procs w'/\((r≠role/\w1=w')\/(r=role/\inE nm (.mk ek en es aR)=false/\w1=w')\/(r=role/\inE nm (.mk ek en es aR)=true/\w1=⟨w'.se,addG w'.fo (n',nm)⟩)):=by
   by_cases hr:r=role
   ·by_cases hn:inE nm (.mk ek en es aR)=true
    ·rw[if_pos ⟨hr,hn⟩];exact⟨_,rfl,fun y hy=>by rcases mem_addG.1 hy with hy | rfl;exact hnm' y hy;rfl,Nat.le_refl _,.inr (.inr ⟨hr,by simpa using hn,rfl⟩)⟩
    ·rw[if_neg (fun h=>hn h.2)];exact⟨_,rfl,hnm',Nat.le_refl _,.inr (.inl ⟨hr,by simpa using hn,rfl⟩)⟩
   ·rw[if_neg (fun h=>hr h.1)];exact⟨_,rfl,hnm',Nat.le_refl _,.inl ⟨hr,rfl⟩⟩
  obtain⟨w1,hw1e,hnm1,Ef,lI⟩:=LF;rw[hw1e]at qx;clear hw1e;generalize inE nm (.mk ek en es aR)=bv at*;have oM:=Nat.mul_le_mul_right (total P+1) Ef;by_cases h4:sk=4
  ·subst h4;have hul4:ulS P.procs C nm role (.mk 4 r t v lb (.mk ek en es aR) sa sb p ps)=(ulL P.procs C nm role sa || ulL P.procs C nm role sb):=by rw[ulS,if_pos rfl]
   rw[hul4]at hul qx;rw[if_neg (show¬((4:Int)=5/\_) from fun h=>absurd h.1 (by decide))]at qx;have ha:=fun K=>cH k hk sa (n'+1) w1 K Ii hnm1 (by simp only[muE];omega)
   have LQ:=wkE_post P C nm hP.dm k sa (n'+1) role w1 (by simp only[muE];omega) Ii.dm;have hnm2:=LQ.nm hnm1;have iS:=frE_le (X:=P.procs) LQ.mono;generalize wkE P C nm k sa (n'+1) role w1=w2 at*;have hm2:=Nat.mul_le_mul_right (total P+1) iS;have hb:=fun K=>cH k hk sb (n'+1+ai sa) w2 K EN hnm2 (by simp only[muE];omega)
   have hpb:=wkE_post P C nm hP.dm k sb (n'+1+ai sa) role w2 (by simp only[muE];omega) EN.dm;have hnm3:=hpb.nm hnm2;have yN:=frE_le (X:=P.procs) hpb.mono;generalize wkE P C nm k sb (n'+1+ai sa) role w2=w3 at*;have hm3:=Nat.mul_le_mul_right (total P+1) yN;generalize ulL P.procs C nm role sa=ua at*;generalize ulL P.procs C nm role sb=ub at*;clear cH henter h326 h327 oU;subst hnd0;rcases lI with⟨hr,rfl⟩ | ⟨hr,rfl,rfl⟩ | ⟨hr,rfl,rfl⟩
   ·simp -implicitDefEqProofs only[h0,h2,eV,dG,gy,an ao,aa ao hlen,hg,hbox,AQ,decide_true,decide_false,Int.reduceEq,hr,go_sem];repeat' (first | ((first | (with_reducible first | refine bR ((ha _)) ?_ | refine bR ((hb _)) ?_) | (with_reducible refine aD ?_));simp -implicitDefEqProofs only[h0,h2,eV,dG,gy,an ao,aa ao hlen,hg,hbox,AQ,decide_true,decide_false,Int.reduceEq,hr,go_sem]) | (with_reducible refine aA.mk ?_ ?_) | (with_reducible refine And.intro ?_ ?_) | ((with_reducible refine bz ?_);simp -implicitDefEqProofs only[r304,push_cast,go_sem_proc]) | intro _)
    ·have Ir:(ua || ub)=true:=by rw[show ua=true from by assumption];rfl
     rw[Ir,Bool.true_and]at hul;rw[Ir,if_pos rfl]at qx;exact⟨rest.length,Nat.lt_succ_self _,pre++ [_],rest,k,_,w3,J++ [_],by rw[ao,List.append_assoc];rfl,rfl,Ub,by omega,by simp only[muE];rw[hncnt]at*;omega,hnm3,qx,hul,by simp,rfl⟩
    ·have Ir:(ua || ub)=false:=by rw[show ua=false from by assumption,Bool.false_or];simpa using(show(!ub)=true from by assumption)
     rw[Ir,Bool.false_and]at hul;rw[Ir,if_neg (by decide)]at qx;exact⟨_,_,rfl,EWH_len,EWH_ok,hul.symm,by rw[qx]⟩
    ·have Ir:(ua || ub)=true:=by rw[show ub=true from by simpa using(show(!ub)=false from by assumption),Bool.or_true]
     rw[Ir,Bool.true_and]at hul;rw[Ir,if_pos rfl]at qx;exact⟨rest.length,Nat.lt_succ_self _,pre++ [_],rest,k,_,w3,J++ [_],by rw[ao,List.append_assoc];rfl,rfl,Ub,by omega,by simp only[muE];rw[hncnt]at*;omega,hnm3,qx,hul,by simp,rfl⟩
   ·subst hr;simp -implicitDefEqProofs only[h0,h2,eV,dG,gy,an ao,aa ao hlen,hg,hbox,AQ,decide_true,decide_false,Int.reduceEq,go_sem];repeat' (first | ((first | (with_reducible first | refine bR ((ha _)) ?_ | refine bR ((hb _)) ?_) | ((with_reducible refine bj h328 ?_ ?_);(·simp[ae,al,cm,hzb,hzp,hze,hzm,hbox,aY,bf,ah,aE])) | ((with_reducible apply cj);(·simp -implicitDefEqProofs only[List.map_cons,List.map_nil,hzb,hzp,hze,hzm,hbox,aY,bf,ah,aE,push_cast,go_sem_proc]<;>rfl);(with_reducible exact h328);(·rfl)) | (with_reducible refine aD ?_));simp -implicitDefEqProofs only[h0,h2,eV,dG,gy,an ao,aa ao hlen,hg,hbox,AQ,decide_true,decide_false,Int.reduceEq,go_sem]) | (with_reducible refine aA.mk ?_ ?_) | (with_reducible refine And.intro ?_ ?_) | ((with_reducible refine bz ?_);simp -implicitDefEqProofs only[r304,push_cast,go_sem_proc]) | intro _)
    ·have Ir:(ua || ub)=true:=by rw[show ua=true from by assumption];rfl
     rw[Ir,Bool.true_and]at hul;rw[Ir,if_pos rfl]at qx;exact⟨rest.length,Nat.lt_succ_self _,pre++ [_],rest,k,_,w3,J++ [_],by rw[ao,List.append_assoc];rfl,rfl,Ub,by omega,by simp only[muE];rw[hncnt]at*;omega,hnm3,qx,hul,by simp,rfl⟩
    ·have Ir:(ua || ub)=false:=by rw[show ua=false from by assumption,Bool.false_or];simpa using(show(!ub)=true from by assumption)
     rw[Ir,Bool.false_and]at hul;rw[Ir,if_neg (by decide)]at qx;exact⟨_,_,rfl,EWH_len,EWH_ok,hul.symm,by rw[qx]⟩
    ·have Ir:(ua || ub)=true:=by rw[show ub=true from by simpa using(show(!ub)=false from by assumption),Bool.or_true]
     rw[Ir,Bool.true_and]at hul;rw[Ir,if_pos rfl]at qx;exact⟨rest.length,Nat.lt_succ_self _,pre++ [_],rest,k,_,w3,J++ [_],by rw[ao,List.append_assoc];rfl,rfl,Ub,by omega,by simp only[muE];rw[hncnt]at*;omega,hnm3,qx,hul,by simp,rfl⟩
   ·subst hr;simp -implicitDefEqProofs only[h0,h2,eV,dG,gy,an ao,aa ao hlen,hg,hbox,AQ,decide_true,decide_false,Int.reduceEq,go_sem];repeat' (first | ((first | (with_reducible first | refine bR ((ha _)) ?_ | refine bR ((hb _)) ?_) | ((with_reducible refine bj h328 ?_ ?_);(·simp[ae,al,cm,hzb,hzp,hze,hzm,hbox,aY,bf,ah,aE])) | ((with_reducible apply cj);(·simp -implicitDefEqProofs only[List.map_cons,List.map_nil,hzb,hzp,hze,hzm,hbox,aY,bf,ah,aE,push_cast,go_sem_proc]<;>rfl);(with_reducible exact h328);(·rfl)) | (with_reducible refine aD ?_));simp -implicitDefEqProofs only[h0,h2,eV,dG,gy,an ao,aa ao hlen,hg,hbox,AQ,decide_true,decide_false,Int.reduceEq,V4,kOkF,hpk,hpv,iI,go_sem]) | (with_reducible refine aA.mk ?_ ?_) | (with_reducible refine And.intro ?_ ?_) | ((with_reducible refine bz ?_);simp -implicitDefEqProofs only[r304,push_cast,go_sem_proc]) | intro _)
    ·have Ir:(ua || ub)=true:=by rw[show ua=true from by assumption];rfl
     rw[Ir,Bool.true_and]at hul;rw[Ir,if_pos rfl]at qx;exact⟨rest.length,Nat.lt_succ_self _,pre++ [_],rest,k,_,w3,J++ [_],by rw[ao,List.append_assoc];rfl,rfl,Ub,by omega,by simp only[muE];rw[hncnt]at*;omega,hnm3,qx,hul,by simp,rfl⟩
    ·have Ir:(ua || ub)=false:=by rw[show ua=false from by assumption,Bool.false_or];simpa using(show(!ub)=true from by assumption)
     rw[Ir,Bool.false_and]at hul;rw[Ir,if_neg (by decide)]at qx;exact⟨_,_,rfl,EWH_len,EWH_ok,hul.symm,by rw[qx]⟩
    ·have Ir:(ua || ub)=true:=by rw[show ub=true from by simpa using(show(!ub)=false from by assumption),Bool.or_true]
     rw[Ir,Bool.true_and]at hul;rw[Ir,if_pos rfl]at qx;exact⟨rest.length,Nat.lt_succ_self _,pre++ [_],rest,k,_,w3,J++ [_],by rw[ao,List.append_assoc];rfl,rfl,Ub,by omega,by simp only[muE];rw[hncnt]at*;omega,hnm3,qx,hul,by simp,rfl⟩
  ·by_cases h5:sk=5
   ·subst h5;obtain⟨hr0,hps0,hpi⟩:=zL.1.2.resolve_left (fun h=>h rfl);have hr:r≠role:=fun h=>hro (h▸hr0)
    have hw1e:w1=w':=by
     rcases lI with⟨_,h⟩ | ⟨h,_⟩ | ⟨h,_⟩
     ·exact h
     ·exact absurd h hr
     ·exact absurd h hr
    clear lI;subst hw1e;obtain⟨hsa,Ag⟩:=zL.1.1.resolve_left (by decide);have e1:wkE P C nm k sa (n'+1) role w1=w1:=by rw[hsa,wkE_nil]
    have e2:wkE P C nm k sb (n'+1+ai sa) role w1=w1:=by rw[Ag,wkE_nil]
    rw[e1,e2]at qx;have hulS:ulS P.procs C nm role (.mk 5 r t v lb (.mk ek en es aR) sa sb p ps)=C (procI P.procs p).toNat (ixR role ps):=by rw[ulS,if_neg (by decide),if_pos rfl]
    rw[hulS]at hul qx;replace h326:=fun w2=>h326 w2 AL
    obtain⟨i,hi⟩:∃i:Nat,procI P.procs p=i:=⟨(procI P.procs p).toNat,by omega⟩;have hkI:kI P.procs 5 p=(i:Int):=by simp[kI,hi]
    have hilt:i<P.procs.length:=by have:=fO hpi;omega
    rw[hi,Int.toNat_natCast]at hul qx;have cR:rolesN P.procs i=ps.length:=by
     have hq:=(Zo.1.1.resolve_left (fun h=>h rfl)).2;rw[hi,Int.toNat_natCast]at hq;rw[rolesN];cases hx:P.procs[i]? with
     | none=>rw[hx]at hq;cases hq
     | some q=>rw[hx]at hq;simpa using hq
    have hpd:=(vi.1.resolve_left (fun h=>h rfl)).2;rw[hi,Int.toNat_natCast]at h326;simp only[hgN]at h326;subst hnd0;simp only[hkI]at hg AQ iI h326;clear h327 h328;by_cases gj:0<=ixR role ps
    ·obtain⟨j,hj⟩:∃j:Nat,ixR role ps=j:=⟨(ixR role ps).toNat,by omega⟩;have oN:j<ps.length:=by
      obtain⟨z,hz,_⟩:=ixF_get (fun y=>decide (role=y)) ps gj;have:=(List.getElem?_eq_some_iff.1 hz).1;rw[<-ixR,hj]at this;omega
     rw[hj]at oU hul qx h326;rw[Int.toNat_natCast]at qx;have hdm:=dmE_mem (X:=P.procs) (i:=i) (k:=j);have hmu4:(i,j)∉w1.se->muE P ⟨w1.se++ [(i,j)],w1.fo⟩ (aK P.procs i)<k:=fun hn=>by
      have hlt2:=frE_lt (X:=P.procs) (fo:=w1.fo) (hdm.2 ⟨hilt,by omega⟩) hn;have hb:=qZ hilt;have:=Nat.mul_le_mul_right (total P+1) hlt2;simp only[Nat.succ_mul]at this;simp only[muE];omega
     have h329:=fun K=>henter k hk i j w1 K hilt (by omega) hnm1 hmu4
     have hw4:∃w4,(if(i,j)∉w1.se then wkE P C nm k (aK P.procs i) (dc P i) (roA P.procs i j) ⟨w1.se++ [(i,j)],w1.fo⟩else w1)=w4/\(∀y∈w4.fo,y.2=nm)/\frE P.procs w4<=frE P.procs w1:=by
      refine⟨_,rfl,?_⟩;split
      ·rename_i hn;have hp4:=wkE_post P C nm hP.dm k (aK P.procs i) (dc P i) (roA P.procs i j) ⟨w1.se++ [(i,j)],w1.fo⟩ (hmu4 hn) (hP.dm i);exact⟨hp4.nm hnm1,Nat.le_trans (frE_le hp4.mono) (frE_le (fun p hp=>List.mem_append_left _ hp))⟩
      ·exact⟨hnm1,Nat.le_refl _⟩
     obtain⟨w4,hw4e,hnm4,hfr4⟩:=hw4;have hm4:=Nat.mul_le_mul_right (total P+1) hfr4;rw[hw4e]at h329;have hif:(if(5:Int)=5/\0<=(j:Int)/\(i,j)∉w1.se then wkE P C nm k (aK P.procs i) (dc P i) (roA P.procs i j) ⟨w1.se++ [(i,j)],w1.fo⟩else w1)=w4:=by
      rw[<-hw4e];by_cases hn:(i,j)∉w1.se
      ·rw[if_pos hn,if_pos ⟨rfl,by omega,hn⟩]
      ·rw[if_neg hn,if_neg (fun h=>hn h.2.2)]
     rw[hif]at qx;clear hif hw4e cH henter;replace h326:=h326 w4
     have Rt:(0:Int)<=(j:Int):=by omega
     generalize C i j=D at*;simp -implicitDefEqProofs only[h0,h2,eV,dG,gy,an ao,aa ao hlen,hg,hbox,AQ,decide_true,decide_false,Int.reduceEq,hr,go_sem];repeat' (first | ((first | (with_reducible refine bR ((h329 _)) ?_) | ((with_reducible first | refine bj oU ?_ ?_ | refine bj h326 ?_ ?_);(·simp[ae,al,cm,hzb,hzp,hze,hzm,hbox,aY,bf,ah,aE])) | ((with_reducible apply cj);(·simp -implicitDefEqProofs only[List.map_cons,List.map_nil,hzb,hzp,hze,hzm,hbox,aY,bf,ah,aE,push_cast,go_sem_proc]<;>rfl);(with_reducible first | exact oU | exact h326);(·rfl)) | (with_reducible refine aD ?_));simp -implicitDefEqProofs only[h0,h2,eV,dG,gy,an ao,aa ao hlen,hg,hbox,AQ,decide_true,decide_false,Int.reduceEq,hr,Rt,go_sem]) | (with_reducible refine aA.mk ?_ ?_) | (with_reducible refine And.intro ?_ ?_) | ((with_reducible refine bz ?_);simp -implicitDefEqProofs only[r304,push_cast,go_sem_proc]) | intro _)
     ·have Ir:D=false:=by simpa using(show(!D)=true from by assumption)
      rw[Ir,Bool.false_and]at hul;rw[Ir,if_neg (by decide)]at qx;exact⟨_,_,rfl,EWH_len,EWH_ok,hul.symm,by rw[qx]⟩
     ·have Ir:D=true:=by simpa using(show(!D)=false from by assumption)
      rw[Ir,Bool.true_and]at hul;rw[Ir,if_pos rfl]at qx;exact⟨rest.length,Nat.lt_succ_self _,pre++ [_],rest,k,_,w4,J++ [_],by rw[ao,List.append_assoc];rfl,rfl,Ub,by omega,by simp only[muE];rw[hncnt]at*;omega,hnm4,qx,hul,by simp,rfl⟩
    ·have hif:(if(5:Int)=5/\0<=ixR role ps/\(i,(ixR role ps).toNat)∉w1.se then wkE P C nm k (aK P.procs i) (dc P i) (roA P.procs i ((ixR role ps).toNat:Nat)) ⟨w1.se++ [(i,(ixR role ps).toNat)],w1.fo⟩else w1)=w1:=if_neg (fun h=>gj h.2.1);rw[hif]at qx;clear hif cH henter;replace h326:=h326 w1
     generalize C i (ixR role ps)=D at*;generalize ixR role ps=jx at*;simp -implicitDefEqProofs only[h0,h2,eV,dG,gy,an ao,aa ao hlen,hg,hbox,AQ,decide_true,decide_false,Int.reduceEq,hr,go_sem];repeat' (first | ((first | ((with_reducible first | refine bj oU ?_ ?_ | refine bj h326 ?_ ?_);(·simp[ae,al,cm,hzb,hzp,hze,hzm,hbox,aY,bf,ah,aE])) | ((with_reducible apply cj);(·simp -implicitDefEqProofs only[List.map_cons,List.map_nil,hzb,hzp,hze,hzm,hbox,aY,bf,ah,aE,push_cast,go_sem_proc]<;>rfl);(with_reducible first | exact oU | exact h326);(·rfl)) | (with_reducible refine aD ?_));simp -implicitDefEqProofs only[h0,h2,eV,dG,gy,an ao,aa ao hlen,hg,hbox,AQ,decide_true,decide_false,Int.reduceEq,hr,gj,go_sem]) | (with_reducible refine aA.mk ?_ ?_) | (with_reducible refine And.intro ?_ ?_) | ((with_reducible refine bz ?_);simp -implicitDefEqProofs only[r304,push_cast,go_sem_proc]) | intro _)
     ·have Ir:D=false:=by simpa using(show(!D)=true from by assumption)
      rw[Ir,Bool.false_and]at hul;rw[Ir,if_neg (by decide)]at qx;exact⟨_,_,rfl,EWH_len,EWH_ok,hul.symm,by rw[qx]⟩
     ·have Ir:D=true:=by simpa using(show(!D)=false from by assumption)
      rw[Ir,Bool.true_and]at hul;rw[Ir,if_pos rfl]at qx;exact⟨rest.length,Nat.lt_succ_self _,pre++ [_],rest,k,_,w1,J++ [_],by rw[ao,List.append_assoc];rfl,rfl,Ub,by omega,by simp only[muE];rw[hncnt]at*;omega,hnm1,qx,hul,by simp,rfl⟩
   ·have hw1e:True:=trivial;obtain⟨hsa,Ag⟩:=zL.1.1.resolve_left h4;have e1:wkE P C nm k sa (n'+1) role w1=w1:=by rw[hsa,wkE_nil]
    have e2:wkE P C nm k sb (n'+1+ai sa) role w1=w1:=by rw[Ag,wkE_nil]
    rw[e1,e2,if_neg (show¬(sk=5/\_) from fun h=>h5 h.1)]at qx;have hulS:ulS P.procs C nm role (.mk sk r t v lb (.mk ek en es aR) sa sb p ps)= !seF sk r t v nm role:=by rw[ulS,if_neg h4,if_neg h5,decide_eq_true hro,Bool.true_and]
    rw[hulS]at hul qx;generalize seF sk r t v nm role=D at*;subst hnd0;clear cH henter h326 oU;rcases lI with⟨hr,rfl⟩ | ⟨hr,rfl,rfl⟩ | ⟨hr,rfl,rfl⟩
    ·simp -implicitDefEqProofs only[h0,h2,eV,dG,gy,an ao,aa ao hlen,hg,hbox,AQ,decide_true,decide_false,Int.reduceEq,hr,h4,h5,go_sem];repeat' (first | ((first | ((with_reducible refine bj h327 ?_ ?_);(·simp[ae,al,cm,hzb,hzp,hze,hzm,hbox,aY,bf,ah,aE])) | ((with_reducible apply cj);(·simp -implicitDefEqProofs only[List.map_cons,List.map_nil,hzb,hzp,hze,hzm,hbox,aY,bf,ah,aE,push_cast,go_sem_proc]<;>rfl);(with_reducible exact h327);(·rfl)) | (with_reducible refine aD ?_));simp -implicitDefEqProofs only[h0,h2,eV,dG,gy,an ao,aa ao hlen,hg,hbox,AQ,decide_true,decide_false,Int.reduceEq,hr,h4,h5,go_sem]) | (with_reducible refine aA.mk ?_ ?_) | (with_reducible refine And.intro ?_ ?_) | ((with_reducible refine bz ?_);simp -implicitDefEqProofs only[r304,push_cast,go_sem_proc]) | intro _)
     ·have Ir:(!D)=false:=by first | (rw[show D=true from by assumption];rfl) | (simpa using(show(! !D)=true from by assumption))
      rw[Ir,Bool.false_and]at hul;rw[Ir,if_neg (by decide)]at qx;exact⟨_,_,rfl,EWH_len,EWH_ok,hul.symm,by rw[qx]⟩
     ·have Ir:(!D)=true:=by first | (rw[show D=false from by assumption];rfl) | (simpa using(show(! !D)=false from by assumption))
      rw[Ir,Bool.true_and]at hul;rw[Ir,if_pos rfl]at qx;exact⟨rest.length,Nat.lt_succ_self _,pre++ [_],rest,k,_,_,J++ [_],by rw[ao,List.append_assoc];rfl,rfl,Ub,by omega,by simp only[muE];rw[hncnt]at*;omega,hnm1,qx,hul,by simp,rfl⟩
    ·subst hr;simp -implicitDefEqProofs only[h0,h2,eV,dG,gy,an ao,aa ao hlen,hg,hbox,AQ,decide_true,decide_false,Int.reduceEq,h4,h5,go_sem];repeat' (first | ((first | ((with_reducible first | refine bj h328 ?_ ?_ | refine bj h327 ?_ ?_);(·simp[ae,al,cm,hzb,hzp,hze,hzm,hbox,aY,bf,ah,aE])) | ((with_reducible apply cj);(·simp -implicitDefEqProofs only[List.map_cons,List.map_nil,hzb,hzp,hze,hzm,hbox,aY,bf,ah,aE,push_cast,go_sem_proc]<;>rfl);(with_reducible first | exact h328 | exact h327);(·rfl)) | (with_reducible refine aD ?_));simp -implicitDefEqProofs only[h0,h2,eV,dG,gy,an ao,aa ao hlen,hg,hbox,AQ,decide_true,decide_false,Int.reduceEq,h4,h5,go_sem]) | (with_reducible refine aA.mk ?_ ?_) | (with_reducible refine And.intro ?_ ?_) | ((with_reducible refine bz ?_);simp -implicitDefEqProofs only[r304,push_cast,go_sem_proc]) | intro _)
     ·have Ir:(!D)=false:=by first | (rw[show D=true from by assumption];rfl) | (simpa using(show(! !D)=true from by assumption))
      rw[Ir,Bool.false_and]at hul;rw[Ir,if_neg (by decide)]at qx;exact⟨_,_,rfl,EWH_len,EWH_ok,hul.symm,by rw[qx]⟩
     ·have Ir:(!D)=true:=by first | (rw[show D=false from by assumption];rfl) | (simpa using(show(! !D)=false from by assumption))
      rw[Ir,Bool.true_and]at hul;rw[Ir,if_pos rfl]at qx;exact⟨rest.length,Nat.lt_succ_self _,pre++ [_],rest,k,_,_,J++ [_],by rw[ao,List.append_assoc];rfl,rfl,Ub,by omega,by simp only[muE];rw[hncnt]at*;omega,hnm1,qx,hul,by simp,rfl⟩
    ·subst hr;simp -implicitDefEqProofs only[h0,h2,eV,dG,gy,an ao,aa ao hlen,hg,hbox,AQ,decide_true,decide_false,Int.reduceEq,h4,h5,go_sem];repeat' (first | ((first | ((with_reducible first | refine bj h328 ?_ ?_ | refine bj h327 ?_ ?_);(·simp[ae,al,cm,hzb,hzp,hze,hzm,hbox,aY,bf,ah,aE])) | ((with_reducible apply cj);(·simp -implicitDefEqProofs only[List.map_cons,List.map_nil,hzb,hzp,hze,hzm,hbox,aY,bf,ah,aE,push_cast,go_sem_proc]<;>rfl);(with_reducible first | exact h328 | exact h327);(·rfl)) | (with_reducible refine aD ?_));simp -implicitDefEqProofs only[h0,h2,eV,dG,gy,an ao,aa ao hlen,hg,hbox,AQ,decide_true,decide_false,Int.reduceEq,h4,h5,V4,kOkF,hpk,hpv,iI,go_sem]) | (with_reducible refine aA.mk ?_ ?_) | (with_reducible refine And.intro ?_ ?_) | ((with_reducible refine bz ?_);simp -implicitDefEqProofs only[r304,push_cast,go_sem_proc]) | intro _)
     ·have Ir:(!D)=false:=by first | (rw[show D=true from by assumption];rfl) | (simpa using(show(! !D)=true from by assumption))
      rw[Ir,Bool.false_and]at hul;rw[Ir,if_neg (by decide)]at qx;exact⟨_,_,rfl,EWH_len,EWH_ok,hul.symm,by rw[qx]⟩
     ·have Ir:(!D)=true:=by first | (rw[show D=false from by assumption];rfl) | (simpa using(show(! !D)=false from by assumption))
      rw[Ir,Bool.true_and]at hul;rw[Ir,if_pos rfl]at qx;exact⟨rest.length,Nat.lt_succ_self _,pre++ [_],rest,k,_,_,J++ [_],by rw[ao,List.append_assoc];rfl,rfl,Ub,by omega,by simp only[muE];rw[hncnt]at*;omega,hnm1,qx,hul,by simp,rfl⟩
end
theorem t302 (P:bH) (E:List Bool) (ew:P.procs.length<=1000000) (Cu:∀q∈P.procs,q.au.length<=12) (H:List ak):
 av Tryz.prog 164 [.bc (fy P E)] H (fun r H'=>∃js,RW H' js r (K0 P.procs)/\H.length<=H'.length/\(∀j,j<H.length->H'[j]? =H[j]?)/\(∀j∈js,H.length<=j)/\(∀id o n,r=.ms id o n->H.length<=id)):=by
 simp only[fy,lE];refine av.intro c302 600 (by simp) ?_;simp -implicitDefEqProofs only[s302,go_sem];intro hlen;refine aL (fun m e H1=>∃pre post kv js,P.procs=pre++post/\m=post.length/\e 3=kv/\e 10=.fs (P.procs.map aF)/\e 11=.int .i64 P.procs.length/\e 12=.int .i64 pre.length/\
  RW H1 js kv (K0 pre)/\H.length<=H1.length/\(∀j,j<H.length->H1[j]? =H[j]?)/\(∀j∈js,H.length<=j)/\(∀id o n,kv=.ms id o n->H.length<=id)) P.procs.length
  ⟨[],P.procs,.ag,[],rfl,rfl,by simp[az,aC],by simp[az,aC],by simp[az,aC],by simp[az,aC],RW.nil H,Nat.le_refl _,fun _ _=>rfl,fun j h=>by simp at h,fun id o n h=>by cases h⟩ ?_
 rintro m e H1 ⟨pre,post,kv,js,ao,rfl,h3,eb,ez,dU,JU,hle,cp,WL,eJ⟩;have cP:=JU.ov.one;have ba:=JU.ov.cS;simp only[V.one]at ba;cases post with
 | nil=>
  have ev:pre=P.procs:=by rw[ao];simp
  simp -implicitDefEqProofs only[h3,eb,ez,dU,aI ao,go_sem];simp -implicitDefEqProofs only[r302,h3,push_cast,go_sem_proc];rw[ev]at JU;exact⟨js,JU,hle,cp,WL,eJ⟩
 | cons q post=>
  have hg:=aO aF ao;simp only[aF]at hg;have hq:=Cu q (by rw[ao];simp);have hr0:(0:Int)<=(q.au.length:Int)/\(q.au.length:Int)<=1000000000:=by omega
  have ED:(ksE js (K0 pre)).length=pre.length:=by rw[ksE_len JU.len];simp[K0]
  have cR:pre.length<P.procs.length:=by rw[ao];simp
  simp -implicitDefEqProofs only[h3,eb,ez,dU,an ao,aa ao hlen,hg,hr0,Int.toNat_natCast,cP,ba,go_sem];repeat' (first | ((with_reducible refine aD ?_);simp -implicitDefEqProofs only[h3,eb,ez,dU,an ao,aa ao hlen,hg,hr0,Int.toNat_natCast,cP,ba,go_sem]) | (with_reducible refine aA.mk ?_ ?_) | (with_reducible refine And.intro ?_ ?_) | ((with_reducible refine bz ?_);simp -implicitDefEqProofs only[r302,push_cast,go_sem_proc]) | intro _)
  refine cu (JU.app _).ov (fun i o l h=>by cases h) (headOk_ksE _ _) (by simp[ED];omega) ?_;rintro bN H' bo hle' G6;simp -implicitDefEqProofs only[h3,eb,ez,dU,an ao,aa ao hlen,go_sem];have hK:K0 (pre++ [q])=K0 pre++ [List.replicate q.au.length false]:=by simp[K0]
  have Tn:∀id o n,bN=.ms id o n->H.length<=id:=fun id o n hk=>by
   refine Classical.byContradiction fun ct=> ?_
   have ct:id<H.length:=by omega
   exact(G6 id (by simp only[List.length_append];omega) (fun a b he=>by have:=eJ _ _ _ he;omega)).2 o n hk
  refine⟨_,Nat.lt_succ_self _,pre++ [q],post,bN,js++ [H1.length+1],by simp[ao],rfl,rfl,by simp,?_,by simp only[List.length_append]at hle';omega,fun j hj=> ?_,fun j hj=> ?_,Tn⟩
  ·rw[hK];exact JU.grow _ (l:=List.replicate q.au.length false) (by omega) (by rw[List.getElem?_append_right (by omega)];simp) (by simpa using bo) G6
  ·rw[(G6 j (by simp only[List.length_append];omega) (fun a b he=>by have:=eJ _ _ _ he;omega)).1,List.getElem?_append_left (by omega)];exact cp j hj
  ·rcases List.mem_append.1 hj with hj | hj
   ·exact WL j hj
   ·simp at hj;omega
end Go.Proofs.YtdgoeblpcnjlbaaGreatDoor.Av

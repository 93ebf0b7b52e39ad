/- Proved: for every list of numbers the law PlaysChanged answers true and leaves its argument as it was (the tied card); no condition beyond the row's own. Text 10 of 17. -/
import Derived.Test.YtdgoeblpcnjlbaaGreatDoorProg
import Derived.Test.YtdgoeblpcnjlbaaGreatDoorK9
set_option linter.all false
set_option maxRecDepth 100000
set_option maxHeartbeats 64000000
namespace Go.Proofs.YtdgoeblpcnjlbaaGreatDoor.Av
open Go.RowKit List
theorem OV.lt {H:List ak} {kv:V} {acc:List V} (h:OV H kv acc) {id:Nat} (hi:H.length<=id):a7 kv id:=by
 intro a b hk;rcases h with⟨_,rfl⟩ | ⟨_,i2,rfl,h3⟩
 ·cases hk
 ·injection hk with h4 _ _
  have:=(List.getElem?_eq_some_iff.1 h3).1;omega
theorem OV.frame {H H':List ak} {kv:V} {acc:List V} (h:OV H kv acc) (hf:∀id o n,kv=.ms id o n->id<H.length->H'[id]? =H[id]?):OV H' kv acc:=by
 rcases h with h | ⟨h1,id,h2,h3⟩
 ·exact .inl h
 ·exact .inr ⟨h1,id,h2,by rw[hf id _ _ h2 (List.getElem?_eq_some_iff.1 h3).1];exact h3⟩
structure G4 (H:List ak) (N:Nat) (ps:List Pr) (cf:V) (bQ:List V):Prop where
 st:rG H (N+1) ⟨ps,[]⟩ cf .ag bQ
 sep:Sep (N+1) (N+1) cf .ag bQ
 z:H[N]? =some Z2
theorem fw (i:Nat):a7 .ag i:=fun _ _ h=>by cases h
theorem G4.w9 {H:List ak} {N:Nat} {ps:List Pr} {cf:V} {bQ:List V} (h:G4 H N ps cf bQ):∀kv∈cf::bQ,∀id,H.length<=id->a7 kv id:=by
 intro kv eJ id hi;rcases List.mem_cons.1 eJ with rfl | hm
 ·exact h.st.qw.lt hi
 ·obtain⟨i,DF⟩:=List.mem_iff_getElem?.1 hm;have hl:i<ps.length:=by have:=(List.getElem?_eq_some_iff.1 DF).1;have:=h.st.len;simp only at this;omega
  exact(h.st.uT i ps[i] kv (getElem?_eq_getElem hl) DF).lt hi
theorem G4.frame {H H':List ak} {N:Nat} {ps:List Pr} {cf kv1:V} {bQ:List V} (h:G4 H N ps cf bQ) (hd:∀kv∈cf::bQ,dj kv kv1) (h0:a7 kv1 N) (h1:a7 kv1 (N+1))
 (hf:∀j,N<=j->j<H.length->a7 kv1 j->H'[j]? =H[j]?):G4 H' N ps cf bQ where
 st:={
  cell:=by rw[hf (N+1) (by omega) (List.getElem?_eq_some_iff.1 h.st.cell).1 h1];exact h.st.cell
  qw:=h.st.qw.frame fun id o n hk hl=>hf id (by
   by_cases hh:N<=id
   ·exact hh
   ·exact absurd hk (h.sep.ge cf (by simp) id (by omega) _ _)) hl ((hd cf (by simp)).ne hk)
  sD:=.inl ⟨rfl,rfl⟩
  len:=h.st.len
  uT:=fun i q kv h2 h3=>(h.st.uT i q kv h2 h3).frame fun id o n hk hl=>hf id (by
   by_cases hh:N<=id
   ·exact hh
   ·exact absurd hk (h.sep.ge kv (mem_of h3) id (by omega) _ _)) hl ((hd kv (by simp[mem_of_getElem? h3])).ne hk)}
 sep:=h.sep
 z:=by rw[hf N (Nat.le_refl _) (List.getElem?_eq_some_iff.1 h.z).1 h0];exact h.z
theorem Oe {ps:List Pr} {bQ:List V} (h:bQ.length=ps.length) (q:Pr) (kv:V):zw (ps++ [q]) (bQ++ [kv])=zw ps bQ++ [Cd q kv]:=by
 simp[zw,zipWith_append,h]
theorem G4.add {H H':List ak} {N:Nat} {ps:List Pr} {cf jv fH:V} {bQ:List V} {q:Pr} (h:G4 H N ps cf bQ) (hd:∀kv∈cf::bQ,dj kv fH) (h2:OV H fH (q.steps.map encS)) (hn:∀i,i<N+2->a7 fH i)
 (bm:OV H' jv (zw ps bQ++ [Cd q fH])) (cp:∀j,j<H.length->a7 cf j->H'[j]? =H[j]? /\a7 jv j) (hle:H.length<=H'.length):
 G4 (H'.set (N+1) (.row [.agg [jv,.ag]])) N (ps++ [q]) jv (bQ++ [fH]):=by
 have QH:N+1<H.length:=(List.getElem?_eq_some_iff.1 h.st.cell).1;have Of:∀i,i<N+2->a7 cf i:=fun i hi=>by
  by_cases hh:i<N+1
  ·exact h.sep.ge cf (by simp) i hh
  ·obtain rfl:i=N+1:=by omega
   exact h.sep.ne cf (by simp)
 have hlen:bQ.length=ps.length:=h.st.len;have Oc:dj cf fH:=hd cf (by simp);have ne1:∀kv∈bQ++ [fH],a7 kv (N+1):=by
  intro kv eJ;rcases List.mem_append.1 eJ with hm | hm
  ·exact h.sep.ne kv (by simp[hm])
  ·simp at hm;subst hm;exact hn _ (by omega)
 have Lt:∀(i:Nat) q' kv,(ps++ [q])[i]? =some q'->(bQ++ [fH])[i]? =some kv->OV H kv (q'.steps.map encS):=by
  intro i q' kv h3 h4;by_cases hi:i<ps.length
  ·rw[getElem?_append_left hi]at h3;rw[getElem?_append_left (by omega)]at h4;exact h.st.uT i q' kv h3 h4
  ·rw[getElem?_append_right (by omega)]at h3 h4;obtain rfl:i=ps.length:=by
    have:=(List.getElem?_eq_some_iff.1 h3).1;simp at this;omega
   simp at h3;simp[hlen]at h4;subst h3;subst h4;exact h2
 have djP:∀kv∈bQ++ [fH],dj cf kv:=by
  intro kv eJ;rcases List.mem_append.1 eJ with hm | hm
  ·exact(List.pairwise_cons.1 h.sep.pw).1 kv (by simp[hm])
  ·simp at hm;subst hm;exact Oc
 have ZV:∀kv∈bQ++ [fH],dj jv kv:=by
  intro kv eJ id;by_cases hk:a7 kv id
  ·exact .inr hk
  ·left;obtain⟨i,hi⟩:=List.mem_iff_getElem?.1 eJ;have dF:i<(ps++ [q]).length:=by have:=(List.getElem?_eq_some_iff.1 hi).1;simp at this⊢;omega
   have ho:=Lt i _ kv (getElem?_eq_getElem dF) hi;have jl:id<H.length:=by
    by_cases hh:id<H.length
    ·exact hh
    ·exact absurd (ho.lt (by omega)) hk
   rcases djP kv eJ id with h5 | h5
   ·exact(cp id jl h5).2
   ·exact absurd h5 hk
 refine⟨⟨?_,?_,.inl ⟨rfl,rfl⟩,by simp[hlen],?_⟩,⟨?_,?_,?_⟩,?_⟩
 ·rw[getElem?_set,if_pos rfl,if_pos (by omega)]
 ·show OV _ _ (zw (ps++ [q]) (bQ++ [fH]));rw[Oe hlen];exact bm.ju (cp (N+1) QH (Of _ (by omega))).2
 ·intro i q' kv h3 h4;have hm:kv∈bQ++ [fH]:=mem_of_getElem? h4;refine((Lt i q' kv h3 h4).frame fun id o n hk hl=> ?_).ju (ne1 kv hm);exact(cp id hl ((djP kv hm).ne' hk)).1
 ·rw[pairwise_cons,pairwise_cons];refine⟨?_,fun _ _ id=> .inl (fw id),?_⟩
  ·intro kv eJ;rcases List.mem_cons.1 eJ with rfl | hm
   ·exact fun id=> .inr (fw id)
   ·exact ZV kv hm
  ·rw[pairwise_append];refine⟨(List.pairwise_cons.1 (List.pairwise_cons.1 h.sep.pw).2).2,by simp,?_⟩;intro x hx y hy;simp at hy;subst hy;exact hd x (by simp[hx])
 ·intro kv eJ i hi;rcases List.mem_cons.1 eJ with rfl | hm
  ·exact(cp i (by omega) (Of i (by omega))).2
  ·rcases List.mem_cons.1 hm with rfl | hm
   ·exact fw i
   ·rcases List.mem_append.1 hm with hm | hm
    ·exact h.sep.ge kv (by simp[hm]) i hi
    ·simp at hm;subst hm;exact hn i (by omega)
 ·intro kv eJ;rcases List.mem_cons.1 eJ with rfl | hm
  ·exact(cp (N+1) QH (Of _ (by omega))).2
  ·rcases List.mem_cons.1 hm with rfl | hm
   ·exact fw _
   ·exact ne1 kv hm
 ·rw[getElem?_set,if_neg (by omega),(cp N (by omega) (Of N (by omega))).1];exact h.z
theorem DG (ps:List Pr) (bQ:List V):df 3 (zw ps bQ):=by
 intro e he;cases ps with
 | nil=>simp[zw]at he
 | cons q ps=>
  cases bQ with
  | nil=>simp[zw]at he
  | cons kv bQ=>simp[zw]at he;subst he;simp[Cd,aw]
theorem Gp {L:List Int} {ca N:Nat} {T:Nat->List ak} (hT:MS L ca N T) (a:Nat) (J:List ak) (jb:Nat) (nm:ByteArray) (rs:List ByteArray) (zs:List St) (ps:List Pr) (cf fH:V) (bQ:List V) (e:Env) (m:Nat) (k:fW)
 (hG:G4 (T a++J) N ps cf bQ) (hb:J[jb]? =some (.row [.agg [.str nm,.fs (rs.map .str)]])) (e3:e 3=.ptr (N+1) 0 0) (e8:e 8=.ptr (N+jb) 0 0) (e9:e 9=fH) (bJ:OV (T a++J) fH (zs.map encS))
 (hd:∀kv∈cf::bQ,dj kv fH) (hn:∀i,i<N+2->a7 fH i) (cR:ps.length<=100)
 (hk:∀p e' jv J',(∀x,x<61->e' x=e x)->G4 (T a++J') N (ps++ [⟨nm,rs,zs⟩]) jv (bQ++ [fH])->F Tryz.prog (p+20) (.app k .normal e' (T a++J'))):
 F Tryz.prog (m+100) (.code sB e (T a++J) k):=by
 have cr:=hG.st.cell;rw[hT.tok.bT]at cr;have ba:=hG.st.qw.cS;simp only[V.one]at ba;have cP:=hG.st.qw.one;have cY:=bJ.cS;simp only[V.one]at cY;have j8:=bJ.one;have zS:=w7 hG.st.len;simp only at zS;simp -implicitDefEqProofs only[sB,e3,e8,e9,cr,hb,hT.tok.len,hT.tok.bW,hT.tok.bT,hT.tok.aZ,hT.tok.aW,hT.tok.get,ba,cP,cY,j8,go_sem];refine⟨by rcases bJ with⟨_,rfl⟩ | ⟨_,_,rfl,_⟩<;>rfl,?_⟩
 refine cu hG.st.qw ?_ (DG _ _) ?_ ?_
 ·intro i o l h;cases h
 ·simp only[length_cons,length_nil,zS];omega
 intro jv H' bo hle cp;have Xe:N+2<=(T a++J).length:=(List.getElem?_eq_some_iff.1 hG.st.cell).1;have Of:∀i,i<N+2->a7 cf i:=fun i hi=>by
  by_cases hh:i<N+1
  ·exact hG.sep.ge cf (by simp) i hh
  ·obtain rfl:i=N+1:=by omega
   exact hG.sep.ne cf (by simp)
 obtain⟨J',rfl⟩:=gP (H:=H') (A:=T a) (by rw[length_append]at hle;omega) (fun j hj=>by
  have yE:j<N:=by rw[hT.tok.len]at hj;exact hj
  rw[(cp j (by omega) (Of j (by omega))).1,getElem?_append_left hj])
 have qY:J'[1]? =some (.row [.agg [cf,.ag]]):=by
  rw[<-hT.tok.bT a J' 1,(cp (N+1) (by omega) (Of _ (by omega))).1,hT.tok.bT];exact cr
 have ej:=bo.cS;simp only[V.one]at ej;have gQ:=bo.one;have Tn:=hG.add (q:=⟨nm,rs,zs⟩) hd bJ hn bo cp hle;rw[hT.tok.aW]at Tn;simp -implicitDefEqProofs only[sB,e3,e8,e9,qY,hT.tok.len,hT.tok.bW,hT.tok.bT,hT.tok.aZ,hT.tok.aW,hT.tok.get,ej,gQ,go_sem];refine hk _ _ jv _ ?_ Tn;intro x hx;simp(disch:=omega) only[oy]
theorem Sep.weaken {ny N M:Nat} {cf dO:V} {bQ:List V} (h:Sep ny N cf dO bQ) (hm:M<=N):Sep ny M cf dO bQ:=⟨h.pw,fun kv hk i hi=>h.ge kv hk i (by omega),h.ne⟩
theorem G4.tail {A B X:List ak} {N:Nat} {ps:List Pr} {cf:V} {bQ:List V} (h:G4 (A++X) N ps cf bQ) (hA:A.length=N) (hB:B.length=N):G4 (B++X) N ps cf bQ where
 st:=h.st.tail (h.sep.weaken (by omega)) hA hB
 sep:=h.sep
 z:=by
  have:=h.z;rw[getElem?_append_right (by omega),hA]at this;rw[getElem?_append_right (by omega),hB];exact this
theorem G4.app {H:List ak} {N:Nat} {ps:List Pr} {cf:V} {bQ:List V} (h:G4 H N ps cf bQ) (X:List ak):G4 (H++X) N ps cf bQ:=
 h.frame (kv1:=.ag) (fun _ _ id=> .inr (fw id)) (fw _) (fw _) (fun j _ hj _=>getElem?_append_left hj)
theorem AH {A:List ak} {xs:List St} {n:Nat} (hn:A.length=n):OV (A++nw xs) (ox n xs) (xs.map encS):=by
 by_cases hx:xs=[]
 ·subst hx;exact .inl ⟨rfl,rfl⟩
 ·refine .inr ⟨by simpa using hx,n,by simp[ox,hx],?_⟩;rw[getElem?_append_right (by omega),hn];simp[nw,hx]
theorem kX {xs:List St} {n i:Nat} (h:i≠n):a7 (ox n xs) i:=by
 intro a b hk;unfold ox at hk
 split at hk
 ·cases hk
 ·injection hk with h1;exact h h1.symm
def A4 (L:List Int) (ax:List Hd) (nm:ByteArray) (rs:List ByteArray) (a1:Nat) (mW zs:List St) (a3:Nat):Prop:=
 ∀(ca N:Nat) (T:Nat->List ak),MS L ca N T->∀(J:List ak) (jb:Nat) (ps:List Pr) (cf kv1:V) (bQ:List V) (e:Env) (m:Nat) (k:fW),
  G4 (T a1++J) N ps cf bQ->J[jb]? =some (.row [.agg [.str nm,.fs (rs.map .str)]])->e 0=.ptr ca 0 0->e 3=.ptr (N+1) 0 0->e 4=.fs (ax.map dH)->e 8=.ptr (N+jb) 0 0->e 9=kv1->
  OV (T a1++J) kv1 (mW.map encS)->(∀kv∈cf::bQ,dj kv kv1)->(∀i,i<N+2->a7 kv1 i)->a7 kv1 (N+jb)->ps.length<=100->
  (∀p e' jv fH J',(∀x,x<44->x≠9->e' x=e x)->G4 (T a3++J') N (ps++ [⟨nm,rs,zs⟩]) jv (bQ++ [fH])->F Tryz.prog (p+20) (.app k .normal e' (T a3++J')))->
  F Tryz.prog (m+300) (.code pU e (T a1++J) k)
theorem Og (L:List Int) (ax:List Hd) (nm:ByteArray) (rs:List ByteArray) (a1:Nat) (ha:a1<=100000) (mW:List St) (v:Int) (hv:dz L a1 6=v) (h0:¬v=0) (h1:¬v=1) (h2:¬v=2):A4 L ax nm rs a1 mW mW (a1+1):=by
 intro ca N T hT J jb ps cf kv1 bQ e m k hG hb e0 e3 e4 e8 e9 bm hd hn DH cR hk;have f1:=t16 L a1 6 (by omega);rw[hv]at f1;have Oh:=hG.tail (hT.tok.len _) (hT.tok.len (a1+1));have bo:=bm.tail (hT.tok.len _) (fun i hi=>hn i (by omega)) (hT.tok.len (a1+1));simp -implicitDefEqProofs only[pU,e0,e3,e4,e8,e9,hT.tok.len,hT.tok.bW,hT.tok.bT,hT.tok.aZ,hT.tok.aW,hT.tok.get,h0,h1,h2,go_sem];repeat' (first | ((first | (with_reducible refine bR ((f1.at hT _)) ?_) | (with_reducible refine aD ?_));simp -implicitDefEqProofs only[e0,e3,e4,e8,e9,hT.tok.len,hT.tok.bW,hT.tok.bT,hT.tok.aZ,hT.tok.aW,hT.tok.get,h0,h1,h2,go_sem]) | (with_reducible refine aA.mk ?_ ?_) | (with_reducible refine And.intro ?_ ?_) | ((with_reducible refine bz ?_);simp -implicitDefEqProofs only[EL,hT.tok.len,hT.tok.bW,hT.tok.bT,hT.tok.aZ,hT.tok.aW,hT.tok.get,push_cast,go_sem_proc]) | intro _)
 refine Gp hT (a1+1) J jb nm rs mW ps cf kv1 bQ _ _ k Oh hb (by simp[az,e3]) (by simp[az,e8]) (by simp[az,e9]) bo hd hn cR (fun p e' jv J' kd Gq=>hk p e' jv kv1 J' ?_ Gq);intro x hx hx9;rw[kd x (by omega)];simp(disch:=omega) only[oy]
theorem Oi (L:List Int) (ax:List Hd) (nm:ByteArray) (rs:List ByteArray) (a1:Nat) (ha:a1<=100000) (mW AI:List St) (a2:Nat) (hv:dz L a1 6=2)
 (gy:Zx 37 L (a1+1) [.fs (rs.map .str),.int .i64 2,.int .i64 3,.fs (ax.map dH)] AI a2):A4 L ax nm rs a1 mW AI a2:=by
 intro ca N T hT J jb ps cf kv1 bQ e m k hG hb e0 e3 e4 e8 e9 bm hd hn DH cR hk;have f1:=t16 L a1 6 (by omega);rw[hv]at f1;have Oh:=(hG.tail (hT.tok.len _) (hT.tok.len a2)).app (nw AI);have Oj:=gy ca (N+J.length) _ (hT.app J);have vg:2<=J.length:=by
  have:=(List.getElem?_eq_some_iff.1 hG.st.cell).1;rw[length_append,hT.tok.len]at this;omega
 have bJ:OV (T a2++J++nw AI) (ox (N+J.length) AI) (AI.map encS):=AH (by rw[length_append,hT.tok.len]);have l3:∀kv∈cf::bQ,dj kv (ox (N+J.length) AI):=by
  intro kv eJ id;by_cases hid:id=N+J.length
  ·left;exact hG.w9 kv eJ id (by rw[length_append,hT.tok.len];omega)
  ·right;exact kX hid
 have Qr:(J++nw AI)[jb]? =some (.row [.agg [.str nm,.fs (rs.map .str)]]):=by rw[getElem?_append_left (List.getElem?_eq_some_iff.1 hb).1];exact hb
 rw[append_assoc]at Oh bJ;simp -implicitDefEqProofs only[pU,e0,e3,e4,e8,e9,hT.tok.len,hT.tok.bW,hT.tok.bT,hT.tok.aZ,hT.tok.aW,hT.tok.get,Int.reduceEq,go_sem];repeat' (first | ((first | (with_reducible first | refine bR ((f1.at hT _)) ?_ | refine bR Oj ?_) | (with_reducible refine aD ?_));simp -implicitDefEqProofs only[e0,e3,e4,e8,e9,hb,hT.tok.len,hT.tok.bW,hT.tok.bT,hT.tok.aZ,hT.tok.aW,hT.tok.get,Int.reduceEq,go_sem]) | (with_reducible refine aA.mk ?_ ?_) | (with_reducible refine And.intro ?_ ?_) | ((with_reducible refine bz ?_);simp -implicitDefEqProofs only[EL,hT.tok.len,hT.tok.bW,hT.tok.bT,hT.tok.aZ,hT.tok.aW,hT.tok.get,push_cast,go_sem_proc]) | intro _)
 refine Gp hT a2 (J++nw AI) jb nm rs AI ps cf (ox (N+J.length) AI) bQ _ _ k Oh Qr (by simp[az,e3]) (by simp[az,e8]) (by simp[az]) bJ l3 (fun i hi=>kX (by omega)) cR (fun p e' jv J' kd Gq=>hk p e' jv _ J' ?_ Gq);intro x hx hx9;rw[kd x (by omega)];simp(disch:=omega) only[oy]
theorem Ol (L:List Int) (ax:List Hd) (nm:ByteArray) (rs:List ByteArray) (a1:Nat) (ha:a1<=100000) (mW:List St) (hx1:mW.length<=100000) (x:St) (a2:Nat) (v:Int) (hv:dz L a1 6=v) (Gr:v=0\/v=1)
 (ea:MC 39 L (a1+1) [dH (nm,rs)] (.fs [encS x]) a2):A4 L ax nm rs a1 mW (mW++ [x]) a2:=by
 intro ca N T hT J jb ps cf kv1 bQ e m k hG hb e0 e3 e4 e8 e9 bm hd hn DH cR hk;have f1:=t16 L a1 6 (by omega);rw[hv]at f1;simp only[dH]at ea;have Oh:=(hG.tail (hT.tok.len _) (hT.tok.len a2));have bo:=bm.tail (hT.tok.len _) (fun i hi=>hn i (by omega)) (hT.tok.len a2);have vg:2<=J.length:=by
  have:=(List.getElem?_eq_some_iff.1 hG.st.cell).1;rw[length_append,hT.tok.len]at this;omega
 rcases Gr with rfl | rfl
 all_goals
  simp -implicitDefEqProofs only[pU,e0,e3,e4,e8,e9,hT.tok.len,hT.tok.bW,hT.tok.bT,hT.tok.aZ,hT.tok.aW,hT.tok.get,Int.reduceEq,go_sem];repeat' (first | ((first | (with_reducible first | refine bR ((f1.at hT _)) ?_ | refine bR ((ea.at hT _)) ?_) | (with_reducible refine aD ?_));simp -implicitDefEqProofs only[e0,e3,e4,e8,e9,hb,hT.tok.len,hT.tok.bW,hT.tok.bT,hT.tok.aZ,hT.tok.aW,hT.tok.get,Int.reduceEq,go_sem]) | (with_reducible refine aA.mk ?_ ?_) | (with_reducible refine And.intro ?_ ?_) | ((with_reducible refine bz ?_);simp -implicitDefEqProofs only[EL,hT.tok.len,hT.tok.bW,hT.tok.bT,hT.tok.aZ,hT.tok.aW,hT.tok.get,push_cast,go_sem_proc]) | intro _)
 all_goals first
  | (obtain⟨k,r,t,vv,l,⟨ek,en,es,aR⟩,sa,sb,p,ps⟩:=x;rw[ay];rfl)
  | skip
 all_goals refine cu bo ?_ (cx _) ?_ ?_
 all_goals first
  | (intro i o l h;cases h;done)
  | (simp;omega)
  | skip
 all_goals
  intro fH H' bJ hle cp;have Ik:(T a2++J).length=N+J.length:=by rw[length_append,hT.tok.len]
  obtain⟨J',rfl⟩:=gP (H:=H') (A:=T a2) (by rw[hT.tok.len];omega) (fun j hj=>by
   have yE:j<N:=by rw[hT.tok.len]at hj;exact hj
   rw[(cp j (by omega) (hn j (by omega))).1,getElem?_append_left hj])
  have Gq:G4 (T a2++J') N ps cf bQ:=Oh.frame hd (hn N (by omega)) (hn (N+1) (by omega)) (fun j _ hj dr=>(cp j hj dr).1);have l3:∀kv∈cf::bQ,dj kv fH:=by
   intro kv eJ id;by_cases hid:id<(T a2++J).length
   ·rcases hd kv eJ id with h | h
    ·exact .inl h
    ·exact .inr (cp id hid h).2
   ·exact .inl (Oh.w9 kv eJ id (by omega))
  have nY:∀i,i<N+2->a7 fH i:=fun i hi=>(cp i (by omega) (hn i hi)).2
  have Qr:J'[jb]? =some (.row [.agg [.str nm,.fs (rs.map .str)]]):=by
   have oN:=(List.getElem?_eq_some_iff.1 hb).1;rw[<-hT.tok.bT a2 J' jb,(cp (N+jb) (by omega) DH).1,hT.tok.bT];exact hb
  simp -implicitDefEqProofs only[e0,e3,e4,e8,e9,Int.reduceEq,go_sem];refine Gp hT a2 J' jb nm rs (mW++ [x]) ps cf fH bQ _ _ k Gq Qr (by simp[az,e3]) (by simp[az,e8]) (by simp[az]) (by simpa using bJ) l3 nY cR (fun p e' jv J' kd Gq=>hk p e' jv _ J' ?_ Gq);intro x hx hx9;rw[kd x (by omega)];simp(disch:=omega) only[oy]
def B4 (L:List Int) (ax:List Hd) (j a:Nat) (zs:List St) (a3:Nat):Prop:=
 ∀(ca N:Nat) (T:Nat->List ak),MS L ca N T->∀(J:List ak) (ps:List Pr) (cf:V) (bQ:List V) (e:Env) (m:Nat) (k:fW),
  G4 (T a++J) N ps cf bQ->ps.length<=100->e 0=.ptr ca 0 0->e 3=.ptr (N+1) 0 0->e 4=.fs (ax.map dH)->e 29=.fs (ax.map dH)->e 30=.int .i64 ax.length->e 31=.int .i64 j->
  (∀p e' jv fH J',(∀x,x<31->x≠7->x≠8->x≠9->e' x=e x)->e' 31=.int .i64 ((j+1:Nat):Int)->G4 (T a3++J') N (ps++ [⟨(ax.getD j (em,[])).1,(ax.getD j (em,[])).2,zs⟩]) jv (bQ++ [fH])->F Tryz.prog (p+1) (.app k .normal e' (T a3++J')))->
  F Tryz.prog (m+500) (.code yT e (T a++J) k)
theorem b4 (L:List Int) (ax:List Hd) (hh:ax.length<=10) (j a:Nat) (hj:j<ax.length) (mW zs:List St) (a1 a3:Nat)
 (gy:Zx 37 L a [.fs ((ax.getD j (em,[])).2.map .str),.int .i64 2,.int .i64 3,.fs ((ax.drop (j+1)).map dH)] mW a1)
 (hA:A4 L ax (ax.getD j (em,[])).1 (ax.getD j (em,[])).2 a1 mW zs a3):B4 L ax j a zs a3:=by
 intro ca N T hT J ps cf bQ e m k hG cR e0 e3 e4 Lu Lv Lw hk;have vj:(ax.map dH).getD j .any=dH (ax.getD j (em,[])):=by simp[List.getD,hj]
 generalize ax.getD j (em,[])=hd at*;obtain⟨nm,rs⟩:=hd;simp only[dH]at vj;simp only at gy hA hk;have ct:((j:Int)<ax.length):=by omega
 have gj:iD (j:Int) ax.length=True:=by simp[iD];omega
 have fS:IntKind.i64.wrap ((j:Int)+1)=((j+1:Nat):Int):=bG (by omega);have AA:j+1<=ax.length:=hj;have Oj:=gy ca (N+(J++ [ak.row [.agg [.str nm,.fs (rs.map .str)]]]).length) _ (hT.app (J++ [ak.row [.agg [.str nm,.fs (rs.map .str)]]]));have yZ:(ax.map dH).take ax.length=ax.map dH:=take_of_length_le (by simp);have To:(ax.map dH).drop (j+1)=(ax.drop (j+1)).map dH:=by rw[map_drop]
 have dx:df 2 (ax.map dH):=cA dH 2 (fun _=>rfl) _;have rZ:(((j+1:Nat):Int)<=ax.length):=by omega
 have Tp:(0<=((j+1:Nat):Int)):=by omega
 simp -implicitDefEqProofs only[yT,e0,e3,e4,Lu,Lv,Lw,ct,gj,vj,fS,hT.tok.len,hT.tok.bW,hT.tok.bT,hT.tok.aZ,hT.tok.aW,hT.tok.get,hT.tok.set,yZ,To,dx,rZ,Tp,Int.le_refl,go_sem];repeat' (first | ((first | (with_reducible refine bR Oj ?_) | (with_reducible refine aD ?_));simp -implicitDefEqProofs only[e0,e3,e4,Lu,Lv,Lw,ct,gj,vj,fS,hT.tok.len,hT.tok.bW,hT.tok.bT,hT.tok.aZ,hT.tok.aW,hT.tok.get,hT.tok.set,yZ,To,dx,rZ,Tp,Int.le_refl,go_sem]) | (with_reducible refine aA.mk ?_ ?_) | (with_reducible refine And.intro ?_ ?_) | ((with_reducible refine bz ?_);simp -implicitDefEqProofs only[EL,hT.tok.len,hT.tok.bW,hT.tok.bT,hT.tok.aZ,hT.tok.aW,hT.tok.get,push_cast,go_sem_proc]) | intro _)
 have Ik:(T a++J).length=N+J.length:=by rw[length_append,hT.tok.len]
 have vg:N+2<=N+J.length:=by
  have:=(List.getElem?_eq_some_iff.1 hG.st.cell).1;omega
 have hG1:G4 (T a1++(J++ak.row [.agg [.str nm,.fs (rs.map .str)]]::nw mW)) N ps cf bQ:=by
  have:=(hG.tail (hT.tok.len _) (hT.tok.len a1)).app (ak.row [.agg [.str nm,.fs (rs.map .str)]]::nw mW);rwa[append_assoc]at this
 have bm:OV (T a1++(J++ak.row [.agg [.str nm,.fs (rs.map .str)]]::nw mW)) (ox (N+(J.length+1)) mW) (mW.map encS):=by
  have:=AH (A:=T a1++(J++ [ak.row [.agg [.str nm,.fs (rs.map .str)]]])) (xs:=mW) (n:=N+(J.length+1)) (by simp[hT.tok.len]);simpa using this
 have hd:∀kv∈cf::bQ,dj kv (ox (N+(J.length+1)) mW):=by
  intro kv eJ id;by_cases hid:id=N+(J.length+1)
  ·left;exact hG.w9 kv eJ id (by omega)
  ·right;exact kX hid
 refine hA ca N T hT (J++ak.row [.agg [.str nm,.fs (rs.map .str)]]::nw mW) J.length ps cf _ bQ _ _ _ hG1 (by simp) (by simp[az,e0]) (by simp[az,e3]) (by simp[az,e4]) (by simp[az]) (by simp[az]) bm hd (fun i hi=>kX (by omega)) (kX (by omega)) cR ?_;intro p e' jv fH J' kd Gq;have f31:e' 31=.int .i64 j:=(kd 31 (by omega) (by omega)).trans (by simp[az,Lw]);simp -implicitDefEqProofs only[f31,fS,go_sem];refine hk _ _ jv fH J' ?_ (by simp[az]) Gq;intro x hx h7 h8 h9;simp(disch:=omega) only[oy];rw[kd x (by omega) h9];simp(disch:=omega) only[oy]
theorem Tq (L:List Int) (ax:List Hd) (hh:ax.length<=10) (oS:∀h∈ax,2<=h.2.length/\h.2.length<=3) (j a:Nat) (hj:j<ax.length) (ha:a<=60000):
 ∃zs a3,a<=a3/\a3<=a+10000/\dn zs<=6000/\B4 L ax j a zs a3:=by
 have hc:cW 2=1652:=by decide
 have da:ax.getD j (em,[])∈ax:=by simp[List.getD,hj]
 obtain⟨Bu,lJ⟩:=oS _ da;obtain⟨mW,a1,g1,g2,g3,g4⟩:=t15 L (ax.getD j (em,[])).2 (ax.drop (j+1)) (by omega) (by omega) (by simp;omega) (fun h hm=>by have:=oS h (mem_of_mem_drop hm);omega) 2 220000 (by omega) (by omega) (by omega) 3 a (by omega) (by omega) (by omega);simp only[hc]at g2 g3;have g2':a1<=a+1+3*1652:=g2;have g3':dn mW<=3*1652:=g3;clear g2 g3;have hb:=cq (L:=L) (a:=a1) (n:=6) (by omega) (by omega);have uN:=jQ mW;by_cases Gr:dz L a1 6=0\/dz L a1 6=1
 ·obtain⟨x,a2,k1,k2,k3,k4⟩:=t17 L (a1+1) (by omega) (ax.getD j (em,[])) Bu (by omega);refine⟨mW++ [x],a2,by omega,by omega,?_,b4 L ax hh j a hj mW _ a1 a2 g4.S3 (Ol L ax _ _ a1 (by omega) mW (by omega) x a2 _ rfl Gr k4)⟩;rw[cB];simp only[dn];omega
 ·by_cases I4:dz L a1 6=2
  ·obtain⟨AI,a2,k1,k2,k3,k4⟩:=t15 L (ax.getD j (em,[])).2 ax (by omega) (by omega) hh (fun h hm=>by have:=oS h hm;omega) 2 220000 (by omega) (by omega) (by omega) 3 (a1+1) (by omega) (by omega) (by omega);simp only[hc]at k2 k3;have k2':a2<=a1+1+1+3*1652:=k2;have k3':dn AI<=3*1652:=k3;clear k2 k3;exact⟨AI,a2,by omega,by omega,by omega,b4 L ax hh j a hj mW _ a1 a2 g4.S3 (Oi L ax _ _ a1 (by omega) mW AI a2 I4 k4.S3)⟩
  ·exact⟨mW,a1+1,by omega,by omega,by omega,b4 L ax hh j a hj mW _ a1 _ g4.S3 (Og L ax _ _ a1 (by omega) mW _ rfl (fun h=>Gr (.inl h)) (fun h=>Gr (.inr h)) I4)⟩
theorem JO {α:Type} (x0:α) {P:Nat->Nat->α->Prop} {n M:Nat} (h:∀j,j<n->∀a,a<=M->∃x,P j a x):∃f:Nat->Nat->α,∀j,j<n->∀a,a<=M->P j a (f j a):=by
 have:∀j,∃g:Nat->α,j<n->∀a,a<=M->P j a (g a):=fun j=>by
  by_cases hj:j<n
  ·obtain⟨g,hg⟩:=iW x0 (h j hj);exact⟨g,fun _=>hg⟩
  ·exact⟨fun _=>x0,fun h=>absurd h hj⟩
 exact⟨fun j=>(this j).choose,fun j hj=>(this j).choose_spec hj⟩
def sq (ax:List Hd) (f:Nat->Nat->List St×Nat) (a:Nat):Nat->List Pr×Nat
 | 0=>([],a)
 | j+1=>((sq ax f a j).1++ [⟨(ax.getD j (em,[])).1,(ax.getD j (em,[])).2,(f j (sq ax f a j).2).1⟩],(f j (sq ax f a j).2).2)
theorem Tr (L:List Int) (ax:List Hd) (hh:ax.length<=3) (oS:∀h∈ax,2<=h.2.length/\h.2.length<=3) (a:Nat) (ha:a<=1000):
 ∃ps a',a<=a'/\a'<=a+30000/\lM ps<=20000/\ps.length<=3/\∀(ca N:Nat) (T:Nat->List ak),MS L ca N T->∀(J:List ak) (e:Env) (m:Nat) (k:fW),
  G4 (T a++J) N [] .ag []->e 0=.ptr ca 0 0->e 2=.ptr N 0 0->e 3=.ptr (N+1) 0 0->e 4=.fs (ax.map dH)->e 29=.fs (ax.map dH)->e 30=.int .i64 ax.length->e 31=.int .i64 0->
  (∀p e' cf bQ J',m<=p->e' 0=.ptr ca 0 0->e' 2=.ptr N 0 0->e' 3=.ptr (N+1) 0 0->e' 4=.fs (ax.map dH)->G4 (T a'++J') N ps cf bQ->F Tryz.prog (p+3) (.app k (.exit 2) e' (T a'++J')))->
  F Tryz.prog (m+520) (.code (.loop yT) e (T a++J) k):=by
 obtain⟨f,hf⟩:∃f:Nat->Nat->List St×Nat,∀j,j<ax.length->∀a,a<=60000->a<=(f j a).2/\(f j a).2<=a+10000/\dn (f j a).1<=6000/\B4 L ax j a (f j a).1 (f j a).2:=by
  have h:∀j,j<ax.length->∀a,a<=60000->∃x:List St×Nat,a<=x.2/\x.2<=a+10000/\dn x.1<=6000/\B4 L ax j a x.1 x.2:=fun j hj a ha=>by
   obtain⟨zs,a3,h1,h2,h3,h4⟩:=Tq L ax (by omega) oS j a hj ha;exact⟨(zs,a3),h1,h2,h3,h4⟩
  exact JO ([],0) h
 have WJ:∀j,j<=ax.length->a<=(sq ax f a j).2/\(sq ax f a j).2<=a+j*10000/\lM (sq ax f a j).1<=j*6003/\(sq ax f a j).1.length=j:=by
  intro j;induction j with
  | zero=>intro _;simp[sq,lM]
  | succ j ih=>
   intro hj;obtain⟨h1,h2,h3,h4⟩:=ih (by omega);obtain⟨g1,g2,g3,_⟩:=hf j (by omega) (sq ax f a j).2 (by omega);have da:ax.getD j (em,[])∈ax:=by
    have:j<ax.length:=by omega
    simp[List.getD,this]
   have:=(oS _ da).2;simp only[sq,fZ,lM,length_append,length_cons,length_nil];refine⟨by omega,by omega,by omega,by omega⟩
 obtain⟨q1,q2,q3,q4⟩:=WJ ax.length (Nat.le_refl _);refine⟨(sq ax f a ax.length).1,(sq ax f a ax.length).2,q1,by omega,by omega,by omega,?_⟩;intro ca N T hT J e m k hG e0 e2 e3 e4 Lu Lv Lw hk;refine aL (fun q e H=>∃j cf bQ J,q=ax.length - j/\j<=ax.length/\e 0=.ptr ca 0 0/\e 2=.ptr N 0 0/\e 3=.ptr (N+1) 0 0/\e 4=.fs (ax.map dH)/\e 29=.fs (ax.map dH)/\e 30=.int .i64 ax.length/\e 31=.int .i64 (j:Nat)/\
  H=T (sq ax f a j).2++J/\G4 H N (sq ax f a j).1 cf bQ) ax.length ?_ ?_
 ·exact⟨0,.ag,[],J,rfl,by omega,e0,e2,e3,e4,Lu,Lv,Lw,rfl,hG⟩
 rintro q e H ⟨j,cf,bQ,J,rfl,hj,e0,e2,e3,e4,Lu,Lv,Lw,rfl,hG⟩;by_cases nZ:j=ax.length
 ·subst nZ;have j6:¬((ax.length:Int)<ax.length):=by omega
  simp -implicitDefEqProofs only[yT,e0,e2,e3,e4,Lu,Lv,Lw,j6,go_sem];exact hk _ _ cf bQ J (by omega) (by simp[az,e0]) (by simp[az,e2]) (by simp[az,e3]) (by simp[az,e4]) hG
 ·obtain⟨h1,h2,h3,h4⟩:=WJ j hj;obtain⟨_,_,_,hB⟩:=hf j (by omega) (sq ax f a j).2 (by omega);refine hB ca N T hT J _ cf bQ e _ _ hG (by omega) e0 e3 e4 Lu Lv Lw ?_;intro p e' jv fH J' kd f31 Gq;rw[wK];refine⟨ax.length - (j+1),by omega,j+1,jv,bQ++ [fH],J',rfl,by omega,(kd 0 (by omega) (by omega) (by omega) (by omega)).trans e0,(kd 2 (by omega) (by omega) (by omega) (by omega)).trans e2,(kd 3 (by omega) (by omega) (by omega) (by omega)).trans e3,(kd 4 (by omega) (by omega) (by omega) (by omega)).trans e4,
   (kd 29 (by omega) (by omega) (by omega) (by omega)).trans Lu,(kd 30 (by omega) (by omega) (by omega) (by omega)).trans Lv,f31,rfl,Gq⟩
theorem JP (H:List ak) (n:Nat) (h:Hd):fz H (n+2) (dH h)=some (dH h):=by
 unfold dH
 simp -implicitDefEqProofs only[push_cast,go_sem_proc]
theorem rG.ZW {H:List ak} {ny N i:Nat} {P:bH} {cf dO:V} {bQ:List V} (h:rG H ny P cf dO bQ) (hs:Sep ny N cf dO bQ) (hi:i<N) (dr:i≠ny) (b:ak):rG (H.set i b) ny P cf dO bQ where
 cell:=by rw[getElem?_set,if_neg dr];exact h.cell
 qw:=h.qw.ju (hs.ge cf (by simp) i hi)
 sD:=h.sD.ju (hs.ge dO (by simp) i hi)
 len:=h.len
 uT j q kv h1 h2:=(h.uT j q kv h1 h2).ju (hs.ge kv (mem_of h2) i hi)
theorem G4.main {H:List ak} {N:Nat} {ps:List Pr} {cf dO:V} {bQ:List V} {xs:List St} (h:G4 H N ps cf bQ) (bm:OV H dO (xs.map encS)) (hd:∀kv∈cf::bQ,dj kv dO) (hn:∀i,i<N+2->a7 dO i):
 rG (H.set (N+1) (.row [.agg [cf,dO]])) (N+1) ⟨ps,xs⟩ cf dO bQ/\Sep (N+1) (N+1) cf dO bQ:=by
 refine⟨⟨?_,?_,?_,h.st.len,?_⟩,⟨?_,?_,?_⟩⟩
 ·rw[getElem?_set,if_pos rfl,if_pos (List.getElem?_eq_some_iff.1 h.st.cell).1]
 ·exact h.st.qw.ju (h.sep.ne cf (by simp))
 ·exact bm.ju (hn _ (by omega))
 ·intro i q kv h1 h2;exact(h.st.uT i q kv h1 h2).ju (h.sep.ne kv (mem_of h2))
 ·rw[pairwise_cons,pairwise_cons];have hp:=List.pairwise_cons.1 h.sep.pw;have Xf:=List.pairwise_cons.1 hp.2;refine⟨?_,?_,Xf.2⟩
  ·intro kv eJ;rcases List.mem_cons.1 eJ with rfl | hm
   ·exact hd cf (by simp)
   ·exact hp.1 kv (by simp[hm])
  ·intro kv eJ id;exact(hd kv (by simp[eJ]) id).symm
 ·intro kv eJ i hi;rcases List.mem_cons.1 eJ with rfl | hm
  ·exact h.sep.ge kv (by simp) i hi
  ·rcases List.mem_cons.1 hm with rfl | hm
   ·exact hn i (by omega)
   ·exact h.sep.ge kv (by simp[hm]) i hi
 ·intro kv eJ;rcases List.mem_cons.1 eJ with rfl | hm
  ·exact h.sep.ne kv (by simp)
  ·rcases List.mem_cons.1 hm with rfl | hm
   ·exact hn _ (by omega)
   ·exact h.sep.ne kv (by simp[hm])
def abc:List ByteArray:=[⟨#[97]⟩,⟨#[98]⟩,⟨#[99]⟩]
theorem t4 (L:List Int) (a:Nat) (ha:a<=500):∃P a',a<=a'/\a'<=a+80000/\iE P<=100000/\P.procs.length<=3/\MC 6 L a [] (aP P) a':=by
 have hhl:=w8 L a 3;have hhm:=Cg L a 3 (Nat.le_refl _);have hc:cW 3=6940:=by decide
 obtain⟨ps,a2,q1,q2,q3,q4,q5⟩:=Tr L (y0 L a 3) hhl hhm (a+3) (by omega);obtain⟨xs,a3,g1,g2,g3,g4⟩:=t15 L abc (y0 L a 3) (by decide) (by decide) (by omega) (fun h hm=>by have:=hhm h hm;omega) 3 100000 (by omega) (by omega) (by omega) 5 a2 (by omega) (by omega) (by omega);simp only[hc]at g2 g3;have g2':a3<=a2+1+5*6940:=g2;have g3':dn xs<=5*6940:=g3;clear g2 g3;have f1:=t14 L a3 12 (by omega);have hwp:iE ⟨ps,xs⟩<=60000:=by simp only[iE];omega
 have walk:∀(ca N:Nat) (T:Nat->List ak),MS L ca N T->∀(K:V->List ak->Prop),
  (∀(cf dO:V) (bQ:List V) (J:List ak) (e:Env) (m:Nat),rG (T a3++J) (N+1) ⟨ps,xs⟩ cf dO bQ->Sep (N+1) (N+1) cf dO bQ->J[0]? =some Z2->e 0=.ptr ca 0 0->e 2=.ptr N 0 0->e 3=.ptr (N+1) 0 0->
    F Tryz.prog (m+200) (.code sC e (T a3++J) (fin Tryz.prog EL K)))->av Tryz.prog 6 [.ptr ca 0 0] (T a) K:=by
  intro ca N T hT K hK;refine av.intro cm4 2000 (by simp) ?_;simp -implicitDefEqProofs only[sm4,hT.tok.len,hT.tok.bW,hT.tok.bT,hT.tok.aZ,hT.tok.aW,hT.tok.get,go_sem];intro _;refine Tm L a (by omega) hT _ _ _ ?_ ?_ ?_ ?_ ?_ ?_ ?_ ?_
  ·simp[az,aC]
  ·simp[az]
  ·simp[az]
  ·simp[az]
  ·simp[az,jR,dH]
  ·simp[az]
  ·simp[az]
  intro p e' kv J hp e0 e2 e3 e4 bm fI;obtain⟨p,rfl⟩:∃q,p=q+1500:=⟨p - 1500,by omega⟩;simp -implicitDefEqProofs only[e0,e2,e3,e4,go_sem];have Om:(T (a+3)++ [Z2,Z2]).length=N+2:=by simp[hT.tok.len]
  have On:T (a+3)++Z2::Z2::J=(T (a+3)++ [Z2,Z2])++J:=by simp
  refine⟨List.range' (N+2) J.length,.fs ((y0 L a 3).map dH),?_,?_⟩
  ·rw[On,iz Om rfl];refine dw (f:=dH) (n:=18) (fun H x=>JP H 17 x) ?_;refine OV.tail (A:=T (a+3)++ [Z2,Z2]) (n:=N+2) (by simpa using bm) Om fI (by simp)
  ·rw[On,mi Om rfl,append_assoc];generalize List.drop (N+2) _=J2;simp -implicitDefEqProofs only[e0,e2,e3,e4,go_sem];intro _;have hG0:G4 (T (a+3)++Z2::Z2::J2) N [] .ag []:=by
    refine⟨⟨?_,.inl ⟨rfl,rfl⟩,.inl ⟨rfl,rfl⟩,rfl,?_⟩,⟨?_,?_,?_⟩,?_⟩
    ·rw[hT.tok.bT];rfl
    ·intro i q kv h;simp at h
    ·simp[dj,a7]
    ·intro kv eJ i _;simp at eJ;subst eJ;exact fw i
    ·intro kv eJ;simp at eJ;subst eJ;exact fw _
    ·rw[hT.tok.bW];rfl
   refine q5 ca N T hT (Z2::Z2::J2) _ _ _ hG0 ?_ ?_ ?_ ?_ ?_ ?_ ?_ ?_
   ·simp[az,e0]
   ·simp[az,e2]
   ·simp[az,e3]
   ·simp[az]
   ·simp[az]
   ·simp[az]
   ·simp[az]
   intro p3 e3' cf bQ J3 hp3 f0 f2 f3 f4 hG;obtain⟨p3,rfl⟩:∃q,p3=q+700:=⟨p3 - 700,by omega⟩;have Ik:(T a2++J3).length=N+J3.length:=by rw[length_append,hT.tok.len]
   have cr:=hG.st.cell;have hz:=hG.z;rw[hT.tok.bT]at cr;rw[hT.tok.bW]at hz;have vg:2<=J3.length:=(List.getElem?_eq_some_iff.1 cr).1;have gy:=g4.S3 ca (N+J3.length) _ (hT.app J3);simp only[abc,map_cons,map_nil]at gy;have eT:∀X:List ak,(J3++X)[1]? =some (.row [.agg [cf,.ag]]):=fun X=>by rw[getElem?_append_left (by omega)];exact cr
   have bJ:OV (T a3++J3++nw xs) (ox (N+J3.length) xs) (xs.map encS):=AH (by rw[length_append,hT.tok.len]);have l3:∀kv∈cf::bQ,dj kv (ox (N+J3.length) xs):=by
    intro kv eJ id;by_cases hid:id=N+J3.length
    ·left;exact hG.w9 kv eJ id (by omega)
    ·right;exact kX hid
   have ba:=bJ.cS;simp only[V.one]at ba;have cP:=bJ.one;have pX:=hG.st.qw.cS;simp only[V.one]at pX;have QJ:=hG.st.qw.one;obtain⟨JQ,hS2⟩:=((hG.tail (hT.tok.len _) (hT.tok.len a3)).app (nw xs)).main bJ l3 (fun i hi=>kX (by omega));rw[append_assoc,hT.tok.aW]at JQ;have Jj:((J3++nw xs).set 1 (.row [.agg [cf,ox (N+J3.length) xs]]))[0]? =some Z2:=by
    rw[getElem?_set_ne (by omega),getElem?_append_left (by omega)];exact hz
   simp -implicitDefEqProofs only[f0,f2,f3,f4,hT.tok.len,hT.tok.bW,hT.tok.bT,hT.tok.aZ,hT.tok.aW,hT.tok.get,go_sem];repeat' (first | ((first | (with_reducible refine bR gy ?_) | (with_reducible refine aD ?_));simp -implicitDefEqProofs only[f0,f2,f3,f4,hT.tok.len,hT.tok.bW,hT.tok.bT,hT.tok.aZ,hT.tok.aW,hT.tok.get,eT,ba,cP,pX,QJ,go_sem]) | (with_reducible refine aA.mk ?_ ?_) | (with_reducible refine And.intro ?_ ?_) | ((with_reducible refine bz ?_);simp -implicitDefEqProofs only[EL,hT.tok.len,hT.tok.bW,hT.tok.bT,hT.tok.aZ,hT.tok.aW,hT.tok.get,push_cast,go_sem_proc]) | intro _)
   exact hK cf _ bQ _ _ _ JQ hS2 Jj (by simp[az,f0]) (by simp[az,f2]) (by simp[az,f3])
 have Ts:∀(ca N:Nat) (T:Nat->List ak),MS L ca N T->∀(b:Nat) (P:bH) (J:List ak) (cf dO:V) (bQ:List V),rG (T b++J) (N+1) P cf dO bQ->Sep (N+1) (N+1) cf dO bQ->
  ∃X,T b++J.set 0 (.row [.agg [cf,dO]])=T b++X/\∃r2,fz (List.replicate N .dead++X) 20 (.agg [cf,dO])=some r2/\r2=aP P:=by
  intro ca N T hT b P J cf dO bQ hP hS;refine⟨_,rfl,_,?_,rfl⟩;have h1:=hP.ZW hS (i:=N) (by omega) (by omega) (.row [.agg [cf,dO]]);rw[hT.tok.aZ]at h1;exact(h1.tail (hS.weaken (by omega)) (hT.tok.len b) (by simp):rG (List.replicate N .dead++_) (N+1) P cf dO bQ).Sl
 cases hb:decide (dz L a3 12=0)with
 | false=>
  rw[hb]at f1;refine⟨⟨ps,xs⟩,a3+1,by omega,by omega,by omega,q4,fun ca N T hT=>hT.rF (jM _) ?_⟩;refine walk ca N T hT _ (fun cf dO bQ J e m hP hS hz e0 e2 e3=> ?_);have cr:=hP.cell;rw[hT.tok.bT]at cr;have pX:=hP.qw.cS;simp only[V.one]at pX;have QJ:=hP.qw.one;have vY:=hP.sD.cS;simp only[V.one]at vY;have Xg:=hP.sD.one;have ZX:=hP.tail (hS.weaken (by omega)) (hT.tok.len _) (hT.tok.len (a3+1));simp only[Z2]at hz;have Ff:∀b,(J.set 0 b)[0]? =some b:=fun b=>by simp[(List.getElem?_eq_some_iff.1 hz).1]
  simp -implicitDefEqProofs only[sC,e0,e2,e3,cr,hz,hT.tok.len,hT.tok.bW,hT.tok.bT,hT.tok.aZ,hT.tok.aW,hT.tok.get,go_sem];repeat' (first | ((first | (with_reducible refine bR ((f1.at hT _)) ?_) | (with_reducible refine aD ?_));simp -implicitDefEqProofs only[e0,e2,e3,cr,hz,hT.tok.len,hT.tok.bW,hT.tok.bT,hT.tok.aZ,hT.tok.aW,hT.tok.get,pX,QJ,vY,Xg,go_sem]) | (with_reducible refine aA.mk ?_ ?_) | (with_reducible refine And.intro ?_ ?_) | ((with_reducible refine bz ?_);simp -implicitDefEqProofs only[EL,hT.tok.len,hT.tok.bW,hT.tok.bT,hT.tok.aZ,hT.tok.aW,hT.tok.get,Ff,e2,push_cast,go_sem_proc]) | intro _)
  all_goals (obtain⟨X,h1,r2,h2,h3⟩:=Ts ca N T hT (a3+1) _ J cf dO bQ ZX hS;simp -implicitDefEqProofs only[push_cast,go_sem_proc]at h2;exact⟨X,h1,r2,h2,h3⟩)
 | true=>
  rw[hb]at f1;obtain⟨P',a',k1,k2,k3,k4,k5⟩:=t18 L ⟨ps,xs⟩ (a3+1) (by omega) (by omega) (by simp only;omega);simp only at k4;refine⟨P',a',by omega,by omega,by omega,by omega,fun ca N T hT=>hT.rF (jM _) ?_⟩;refine walk ca N T hT _ (fun cf dO bQ J e m hP hS hz e0 e2 e3=> ?_);have ZX:=hP.tail (hS.weaken (by omega)) (hT.tok.len _) (hT.tok.len (a3+1));have ft:=k5 ca N T hT J 1 cf dO bQ ZX (hS.weaken (by omega));simp -implicitDefEqProofs only[sC,e0,e2,e3,hT.tok.len,hT.tok.bW,hT.tok.bT,hT.tok.aZ,hT.tok.aW,hT.tok.get,go_sem];repeat' (first | ((first | (with_reducible refine bR ((f1.at hT _)) ?_) | (with_reducible refine aD ?_));simp -implicitDefEqProofs only[e0,e2,e3,hT.tok.len,hT.tok.bW,hT.tok.bT,hT.tok.aZ,hT.tok.aW,hT.tok.get,go_sem]) | (with_reducible refine aA.mk ?_ ?_) | (with_reducible refine And.intro ?_ ?_) | ((with_reducible refine bz ?_);simp -implicitDefEqProofs only[EL,hT.tok.len,hT.tok.bW,hT.tok.bT,hT.tok.aZ,hT.tok.aW,hT.tok.get,push_cast,go_sem_proc]) | intro _)
  refine ft.mono ?_;rintro r H' ⟨rfl,J',rfl,JQ,cp⟩;have qJ:J'[0]? =some Z2:=(cp 0 (fun kv eJ=>hS.ge kv eJ (N+0) (by omega))).trans hz;have cr:=JQ.cell;rw[hT.tok.bT]at cr;have pX:=JQ.qw.cS;simp only[V.one]at pX;have QJ:=JQ.qw.one;have vY:=JQ.sD.cS;simp only[V.one]at vY;have Xg:=JQ.sD.one;simp only[Z2]at qJ;have Ff:∀b,(J'.set 0 b)[0]? =some b:=fun b=>by simp[(List.getElem?_eq_some_iff.1 qJ).1]
  simp -implicitDefEqProofs only[e0,e2,e3,cr,qJ,hT.tok.len,hT.tok.bW,hT.tok.bT,hT.tok.aZ,hT.tok.aW,hT.tok.get,pX,QJ,vY,Xg,go_sem];repeat' (first | ((with_reducible refine aD ?_);simp -implicitDefEqProofs only[e0,e2,e3,cr,qJ,hT.tok.len,hT.tok.bW,hT.tok.bT,hT.tok.aZ,hT.tok.aW,hT.tok.get,pX,QJ,vY,Xg,go_sem]) | (with_reducible refine aA.mk ?_ ?_) | (with_reducible refine And.intro ?_ ?_) | ((with_reducible refine bz ?_);simp -implicitDefEqProofs only[EL,hT.tok.len,hT.tok.bW,hT.tok.bT,hT.tok.aZ,hT.tok.aW,hT.tok.get,Ff,e2,push_cast,go_sem_proc]) | intro _)
  all_goals (obtain⟨X,h1,r2,h2,h3⟩:=Ts ca N T hT a' _ J' cf dO bQ JQ hS;simp -implicitDefEqProofs only[push_cast,go_sem_proc]at h2;exact⟨X,h1,r2,h2,h3⟩)
def P7:bH:=⟨[],[.mk 3 ⟨#[97]⟩ em ⟨#[120]⟩ em (.mk 1 7 em []) [] [] em []]⟩
theorem t38:af Tryz.prog 62 [] (·=aP P7):=by
 refine af.intro c38 100 (by simp) 20 ?_;simp -implicitDefEqProofs only[s38,go_sem];simp -implicitDefEqProofs only[r38,push_cast,go_sem_proc];simp[P7,aP,ay,em]
theorem ck7:rE P7=0:=by
 rw[yR];decide
theorem Tt:total P7=1:=by decide
theorem t13:af Tryz.prog 19 [] (·=.bool true):=by
 have h6:=t6 P7 (by rw[Tt];omega);rw[ck7,Tt]at h6;simp only[if_true]at h6;refine af.intro c13 200 (by simp) 20 ?_;simp -implicitDefEqProofs only[s13,go_sem];repeat' (first | ((first | ((with_reducible first | refine bj t38 ?_ ?_ | refine bj h6 ?_ ?_);(·simp[ae,al,cm])) | ((with_reducible apply cj);(·simp -implicitDefEqProofs only[map_cons,map_nil,push_cast,go_sem_proc]<;>rfl);(with_reducible first | exact t38 | exact h6);(·rfl)) | (with_reducible refine aD ?_));simp -implicitDefEqProofs only[Int.reduceEq,go_sem]) | (with_reducible refine aA.mk ?_ ?_) | (with_reducible refine And.intro ?_ ?_) | ((with_reducible refine bz ?_);simp -implicitDefEqProofs only[r13,push_cast,go_sem_proc]) | intro _)
 all_goals rfl
mutual
def oT (ec:ByteArray->Bool):St->Bool
 | .mk k _ _ _ _ _ a b p _=>if k=4 then lu ec a || lu ec b else if k=5 then ec p else true
def lu (ec:ByteArray->Bool):List St->Bool
 | []=>true
 | s::l=>oT ec s && lu ec l
end
theorem xa (ec:ByteArray->Bool):∀l,lu ec l=l.all (oT ec)
 | []=>by simp[lu]
 | s::l=>by simp[lu,xa ec l]
mutual
theorem Gs {ec JR:ByteArray->Bool} (h:∀p,ec p=true->JR p=true):∀s,oT ec s=true->oT JR s=true
 | .mk k r t v l e a b p ps,hs=>by
  simp only[oT]at hs⊢;split at hs
  ·rename_i hk;rw[if_pos hk];rw[Bool.or_eq_true]at hs⊢;exact hs.imp (pY h a) (pY h b)
  ·rename_i hk;rw[if_neg hk];split at hs
   ·rename_i ir;rw[if_pos ir];exact h p hs
   ·rename_i ir;rw[if_neg ir]
theorem pY {ec JR:ByteArray->Bool} (h:∀p,ec p=true->JR p=true):∀l,lu ec l=true->lu JR l=true
 | [],_=>by simp[lu]
 | s::l,hs=>by
  simp only[lu,Bool.and_eq_true]at hs⊢;exact⟨Gs h s hs.1,pY h l hs.2⟩
end
def ga (xs:List Pr) (E:List Bool) (p:ByteArray):Bool:=if bq xs p<0 then false else E.getD (bq xs p).toNat false
def Cl (xs:List Pr) (E:List Bool):Prop:=E.length=xs.length/\∀(i:Nat) q,xs[i]? =some q->lu (ga xs E) q.steps=true->E[i]? =some true
def Lo (xs:List Pr) (E:List Bool):Prop:=E.length=xs.length/\∀C,Cl xs C->∀i:Nat,E[i]? =some true->C[i]? =some true
theorem Gt {xs:List Pr} {E C:List Bool} (h:∀i:Nat,E[i]? =some true->C[i]? =some true) (p:ByteArray) (hp:ga xs E p=true):ga xs C p=true:=by
 unfold ga at*
 split at hp
 ·cases hp
 ·rename_i hn;rw[if_neg hn];have:E[(bq xs p).toNat]? =some true:=by
   rw[getD_eq_getElem?_getD]at hp;cases he:E[(bq xs p).toNat]? with
   | none=>rw[he]at hp;cases hp
   | some b=>rw[he]at hp;simp at hp;rw[hp]
  rw[getD_eq_getElem?_getD,h _ this];rfl
theorem Lo.init (xs:List Pr):Lo xs (List.replicate xs.length false):=⟨by simp,fun C _ i h=>by
 rw[getElem?_replicate]at h;split at h<;>cases h⟩
theorem Lo.step {xs:List Pr} {E:List Bool} (h:Lo xs E) {i:Nat} {q:Pr} (hq:xs[i]? =some q) (ht:lu (ga xs E) q.steps=true):Lo xs (E.set i true):=
 ⟨by rw[length_set];exact h.1,fun C hC j hj=>by
  rw[getElem?_set]at hj;split at hj
  ·rename_i rm;subst rm;exact hC.2 i q hq (pY (Gt (h.2 C hC)) _ ht)
  ·exact h.2 C hC j hj⟩
def jC (E:List Bool):Nat:=(E.filter (! ·)).length
theorem jS:∀{E:List Bool} {i:Nat},E[i]? =some false->jC (E.set i true)+1=jC E
 | [],i,h=>by simp at h
 | b::E,0,h=>by simp at h;subst h;simp[jC]
 | b::E,i+1,h=>by
  have:=jS (E:=E) (i:=i) (by simpa using h);cases b<;>simp[jC]at this⊢<;>omega
theorem xc (xs:List Pr):∀m E,Lo xs E->jC E<=m->∃E',Cl xs E'/\Lo xs E':=by
 intro m;induction m with
 | zero=>
  intro E hE hf;refine⟨E,⟨hE.1,fun i q hq ht=> ?_⟩,hE⟩;have hi:=(List.getElem?_eq_some_iff.1 hq).1;cases he:E[i]? with
  | none=>rw[List.getElem?_eq_none_iff]at he;have:=hE.1;omega
  | some b=>
   cases b
   ·have:=jS he;omega
   ·rfl
 | succ m ih=>
  intro E hE hf;by_cases hc:Cl xs E
  ·exact⟨E,hc,hE⟩
  ·have:∃(i:Nat) (q:Pr),xs[i]? =some q/\lu (ga xs E) q.steps=true/\E[i]? ≠some true:=by
    refine Classical.byContradiction fun hn=>hc ⟨hE.1,fun i q hq ht=> ?_⟩
    refine Classical.byContradiction fun he=>hn ⟨i,q,hq,ht,he⟩
   obtain⟨i,q,hq,ht,he⟩:=this;have hi:=(List.getElem?_eq_some_iff.1 hq).1;have kd:E[i]? =some false:=by
    cases h:E[i]? with
    | none=>rw[List.getElem?_eq_none_iff]at h;have:=hE.1;omega
    | some b=>cases b;rfl;exact absurd h he
   have:=jS kd;exact ih _ (hE.step hq ht) (by omega)
theorem DI {xs:List Pr} {E E':List Bool} (h1:Cl xs E) (h2:Lo xs E) (h3:Cl xs E') (h4:Lo xs E'):E=E':=by
 apply ext_getElem?
 intro i;by_cases hi:i<xs.length
 ·have l1:=h1.1;have l2:=h3.1;have a:=h2.2 E' h3 i;have b:=h4.2 E h1 i;rw[getElem?_eq_getElem (by omega),getElem?_eq_getElem (by omega)]at*;cases hx:E[i]<;>cases hy:E'[i]<;>simp_all
 ·rw[getElem?_eq_none (by rw[h1.1];omega),getElem?_eq_none (by rw[h3.1];omega)]
noncomputable def bY (xs:List Pr):List Bool:=(xc xs _ _ (Lo.init xs) (Nat.le_refl _)).choose
theorem vZ (xs:List Pr):Cl xs (bY xs):=(xc xs _ _ (Lo.init xs) (Nat.le_refl _)).choose_spec.1
theorem DJ (xs:List Pr):Lo xs (bY xs):=(xc xs _ _ (Lo.init xs) (Nat.le_refl _)).choose_spec.2
theorem v7 {xs:List Pr} {E:List Bool} (h1:Cl xs E) (h2:Lo xs E):E=bY xs:=DI h1 h2 (vZ xs) (DJ xs)
def aK (xs:List Pr) (i:Nat):List St:=match xs[i]? with | some q=>q.steps | none=> []
def dc (P:bH) (i:Nat):Int:=((ai P.main+bD (P.procs.take i):Nat):Int)
mutual
def Oo (ec:ByteArray->Bool):St->Int->List Int
 | .mk _ _ _ _ _ _ a b _ _,n=>n::(y3 ec a (n+1)++y3 ec b (n+1+ai a))
def y3 (ec:ByteArray->Bool):List St->Int->List Int
 | [],_=> []
 | s::l,n=>Oo ec s n++if oT ec s then y3 ec l (n+dA s)else[]
end
mutual
def Lx (ec:ByteArray->Bool):St->List ByteArray
 | .mk k _ _ _ _ _ a b p _=>(if k=5 then[p]else[])++(iK ec a++iK ec b)
def iK (ec:ByteArray->Bool):List St->List ByteArray
 | []=> []
 | s::l=>Lx ec s++if oT ec s then iK ec l else[]
end
mutual
theorem AJ {ec:ByteArray->Bool}:∀(s:St) (n x:Int),x∈Oo ec s n->n<=x/\x<n+dA s
 | .mk k r t v l e a b p ps,n,x,h=>by
  simp only[Oo,mem_cons,mem_append]at h;simp only[dA];rcases h with rfl | h | h
  ·omega
  ·have:=mj a _ _ h;omega
  ·have:=mj b _ _ h;omega
theorem mj {ec:ByteArray->Bool}:∀(l:List St) (n x:Int),x∈y3 ec l n->n<=x/\x<n+ai l
 | [],n,x,h=>by simp[y3]at h
 | s::l,n,x,h=>by
  simp only[y3,mem_append]at h;simp only[ai];rcases h with h | h
  ·have:=AJ s _ _ h;omega
  ·split at h
   ·have:=mj l _ _ h;omega
   ·simp at h
end
def has (R:List Bool) (i:Int):Prop:=0<=i/\R[i.toNat]? =some true
def eK (xs:List Pr) (ks:List ByteArray) (R:List Bool):Prop:=∀p∈ks,∀i:Nat,bq xs p=(i:Int)->i<xs.length->R[i]? =some true
def Oq (P:bH) (ec:ByteArray->Bool) (R:List Bool):Prop:=R.length=P.procs.length/\eK P.procs (iK ec P.main) R/\∀i:Nat,R[i]? =some true->eK P.procs (iK ec (aK P.procs i)) R
def Xh (P:bH) (ec:ByteArray->Bool) (R:List Bool):Prop:=R.length=P.procs.length/\∀C,Oq P ec C->∀i:Nat,R[i]? =some true->C[i]? =some true
theorem AK {P:bH} {ec:ByteArray->Bool} {R R':List Bool} (h1:Oq P ec R) (h2:Xh P ec R) (h3:Oq P ec R') (h4:Xh P ec R'):R=R':=by
 apply ext_getElem?
 intro i;by_cases hi:i<P.procs.length
 ·have l1:=h1.1;have l2:=h3.1;have a:=h2.2 R' h3 i;have b:=h4.2 R h1 i;rw[getElem?_eq_getElem (by omega),getElem?_eq_getElem (by omega)]at*;cases hx:R[i]<;>cases hy:R'[i]<;>simp_all
 ·rw[getElem?_eq_none (by rw[h1.1];omega),getElem?_eq_none (by rw[h3.1];omega)]
structure WS where
 steps:List Int
 procs:List Bool
def fc (l:List Int) (n:Int):List Int:=if l.contains n then l else l++ [n]
theorem fN {l:List Int} {n x:Int}:x∈fc l n↔x∈l\/x=n:=by
 unfold fc
 split
 ·rename_i h;have:n∈l:=by simpa using h
  constructor
  ·exact .inl
  ·rintro(h | rfl)
   ·exact h
   ·exact this
 ·simp
def kI (xs:List Pr) (k:Int) (p:ByteArray):Int:=if k=5 then bq xs p else -1
def wk (P:bH) (ec:ByteArray->Bool):Nat->List St->Int->WS->WS
 | 0,_,_,w=>w
 | f+1,[],n,w=>w
 | f+1,.mk k r t v l e a b p ps::rest,n,w=>
  let w3:=wk P ec f b (n+1+ai a) (wk P ec f a (n+1) ⟨fc w.steps n,w.procs⟩)
  let i:=kI P.procs k p
  let w4:=if 0<=i/\w3.procs[i.toNat]? =some false then wk P ec f (aK P.procs i.toNat) (dc P i.toNat) ⟨w3.steps,w3.procs.set i.toNat true⟩else w3
  if oT ec (.mk k r t v l e a b p ps)then wk P ec f rest (n+dA (.mk k r t v l e a b p ps)) w4 else w4
def mu (P:bH) (w:WS) (l:List St):Nat:=jC w.procs*(total P+1)+ai l
theorem pZ {xs:List Pr} {ks:List ByteArray} {R R':List Bool} (h:eK xs ks R) (hm:∀i:Nat,R[i]? =some true->R'[i]? =some true):eK xs ks R':=
 fun p hp i hi hl=>hm i (h p hp i hi hl)
theorem ml {xs:List Pr} {ks ls:List ByteArray} {R:List Bool}:eK xs (ks++ls) R↔eK xs ks R/\eK xs ls R:=by
 unfold eK
 constructor
 ·intro h;exact⟨fun p hp=>h p (List.mem_append.2 (.inl hp)),fun p hp=>h p (List.mem_append.2 (.inr hp))⟩
 ·rintro⟨h1,h2⟩ p hp;rcases List.mem_append.1 hp with hp | hp
  ·exact h1 p hp
  ·exact h2 p hp
structure WP (P:bH) (ec:ByteArray->Bool) (ks:List ByteArray) (vs:List Int) (w w':WS):Prop where
 len:w'.procs.length=w.procs.length
 mono:∀i:Nat,w.procs[i]? =some true->w'.procs[i]? =some true
 calls:eK P.procs ks w'.procs
 new:∀i:Nat,w'.procs[i]? =some true->w.procs[i]? =some true\/eK P.procs (iK ec (aK P.procs i)) w'.procs
 steps:∀x,x∈w'.steps↔x∈w.steps\/x∈vs\/∃i:Nat,w'.procs[i]? =some true/\w.procs[i]? ≠some true/\x∈y3 ec (aK P.procs i) (dc P i)
 low:∀C:List Bool,(∀i:Nat,C[i]? =some true->eK P.procs (iK ec (aK P.procs i)) C)->eK P.procs ks C->(∀i:Nat,w.procs[i]? =some true->C[i]? =some true)->∀i:Nat,w'.procs[i]? =some true->C[i]? =some true
theorem WP.id {P:bH} {ec:ByteArray->Bool} {w:WS}:WP P ec [] [] w w:=
 ⟨rfl,fun _ h=>h,fun p hp=>by simp at hp,fun _ h=> .inl h,fun x=>by
  constructor
  ·exact .inl
  ·rintro(h | h | ⟨i,h1,h2,_⟩)
   ·exact h
   ·simp at h
   ·exact absurd h1 h2,fun C _ _ h=>h⟩
theorem WP.comp {P:bH} {ec:ByteArray->Bool} {k1 k2:List ByteArray} {v1 v2:List Int} {w w1 w2:WS} (h1:WP P ec k1 v1 w w1) (h2:WP P ec k2 v2 w1 w2):WP P ec (k1++k2) (v1++v2) w w2 where
 len:=h2.len.trans h1.len
 mono i h:=h2.mono i (h1.mono i h)
 calls:=ml.2 ⟨pZ h1.calls h2.mono,h2.calls⟩
 new i h:=by
  rcases h2.new i h with h | h
  ·rcases h1.new i h with h | h
   ·exact .inl h
   ·exact .inr (pZ h h2.mono)
  ·exact .inr h
 steps x:=by
  rw[h2.steps,h1.steps,mem_append];constructor
  ·rintro((h | h | ⟨i,a,b,c⟩) | h | ⟨i,a,b,c⟩)
   ·exact .inl h
   ·exact .inr (.inl (.inl h))
   ·exact .inr (.inr ⟨i,h2.mono i a,b,c⟩)
   ·exact .inr (.inl (.inr h))
   ·exact .inr (.inr ⟨i,a,fun h=>b (h1.mono i h),c⟩)
  ·rintro(h | (h | h) | ⟨i,a,b,c⟩)
   ·exact .inl (.inl h)
   ·exact .inl (.inr (.inl h))
   ·exact .inr (.inl h)
   ·by_cases hw:w1.procs[i]? =some true
    ·exact .inl (.inr (.inr ⟨i,hw,b,c⟩))
    ·exact .inr (.inr ⟨i,a,hw,c⟩)
 low C hC hk hw:=h2.low C hC (ml.1 hk).2 (h1.low C hC (ml.1 hk).1 hw)
theorem WP.congr {P:bH} {ec:ByteArray->Bool} {k1 k2:List ByteArray} {v1 v2:List Int} {w w1:WS} (h:WP P ec k1 v1 w w1) (hk:∀p,p∈k1↔p∈k2) (hv:∀x,x∈v1↔x∈v2):WP P ec k2 v2 w w1 where
 len:=h.len
 mono:=h.mono
 calls p hp:=h.calls p ((hk p).2 hp)
 new:=h.new
 steps x:=by rw[h.steps,hv]
 low C hC ir:=h.low C hC (fun p hp=>ir p ((hk p).1 hp))
theorem WP.add {P:bH} {ec:ByteArray->Bool} {w:WS} (n:Int):WP P ec [] [n] w ⟨fc w.steps n,w.procs⟩ where
 len:=rfl
 mono _ h:=h
 calls p hp:=by simp at hp
 new _ h:=.inl h
 steps x:=by
  show x∈fc w.steps n↔_;rw[fN];constructor
  ·rintro(h | h)
   ·exact .inl h
   ·exact .inr (.inl (by simp[h]))
  ·rintro(h | h | ⟨i,h1,h2,_⟩)
   ·exact .inl h
   ·exact .inr (by simpa using h)
   ·exact absurd h1 h2
 low C _ _ h:=h
theorem xd {A:List Bool} {i j:Nat} (hi:i<A.length):(A.set i true)[j]? =some true↔j=i\/A[j]? =some true:=by
 rw[getElem?_set];by_cases h:i=j
 ·subst h;simp[hi]
 ·rw[if_neg h];constructor
  ·exact .inr
  ·rintro(h' | h')
   ·exact absurd h'.symm h
   ·exact h'
theorem WP.enter {P:bH} {ec:ByteArray->Bool} {p:ByteArray} {i:Nat} {w w':WS} (hp:bq P.procs p=i) (hi:w.procs[i]? =some false) (hx:i<P.procs.length)
 (h:WP P ec (iK ec (aK P.procs i)) (y3 ec (aK P.procs i) (dc P i)) ⟨w.steps,w.procs.set i true⟩ w'):WP P ec [p] [] w w':=by
 have hl:i<w.procs.length:=(List.getElem?_eq_some_iff.1 hi).1;have hg:∀j:Nat,(w.procs.set i true)[j]? =some true↔j=i\/w.procs[j]? =some true:=fun j=>xd hl
 have hm:∀j:Nat,(j=i\/w.procs[j]? =some true)->w'.procs[j]? =some true:=fun j hj=>h.mono j ((hg j).2 hj)
 constructor
 ·rw[h.len];exact length_set
 ·exact fun j hj=>hm j (.inr hj)
 ·intro q hq j hj _;simp at hq;subst hq;rw[hp]at hj;exact hm j (.inl (by omega))
 ·intro j hj;rcases h.new j hj with hj | hj
  ·rcases(hg j).1 hj with rfl | hj
   ·exact .inr h.calls
   ·exact .inl hj
  ·exact .inr hj
 ·intro x;rw[h.steps];constructor
  ·rintro(hx | hx | ⟨j,a,b,c⟩)
   ·exact .inl hx
   ·exact .inr (.inr ⟨i,hm i (.inl rfl),by rw[hi];simp,hx⟩)
   ·exact .inr (.inr ⟨j,a,fun hj=>b ((hg j).2 (.inr hj)),c⟩)
  ·rintro(hx | hx | ⟨j,a,b,c⟩)
   ·exact .inl hx
   ·simp at hx
   ·by_cases Ij:j=i
    ·subst Ij;exact .inr (.inl c)
    ·exact .inr (.inr ⟨j,a,fun hj=>((hg j).1 hj).elim Ij b,c⟩)
 ·intro C hC hk hw;have hiC:C[i]? =some true:=hk p (by simp) i hp hx;refine h.low C hC (hC i hiC) fun j hj=> ?_
  rcases(hg j).1 hj with rfl | hj
  ·exact hiC
  ·exact hw j hj
theorem WP.known {P:bH} {ec:ByteArray->Bool} {p:ByteArray} {w:WS} (h:eK P.procs [p] w.procs):WP P ec [p] [] w w:=
 ⟨rfl,fun _ h=>h,h,fun _ h=> .inl h,(WP.id (P:=P) (ec:=ec)).steps,fun C _ _ h=>h⟩
theorem jw:∀{A B:List Bool},B.length=A.length->(∀i:Nat,A[i]? =some true->B[i]? =some true)->jC B<=jC A
 | [],[],_,_=>Nat.le_refl _
 | [],_::_,h,_=>by simp at h
 | _::_,[],h,_=>by simp at h
 | a::A,b::B,hl,h=>by
  have ih:=jw (A:=A) (B:=B) (by simpa using hl) (fun i hi=>by simpa using h (i+1) (by simpa using hi));have h0:=h 0;cases a<;>cases b<;>simp[jC]at* <;>omega
theorem qZ {P:bH} {i:Nat} (hi:i<P.procs.length):ai (aK P.procs i)<=total P:=by
 obtain⟨pre,q,post,h,hl⟩:∃pre q post,P.procs=pre++q::post/\pre.length=i:=⟨P.procs.take i,P.procs[i],P.procs.drop (i+1),by rw[<-drop_eq_getElem_cons hi,take_append_drop],by simp;omega⟩;have hb:aK P.procs i=q.steps:=by
  unfold aK
  rw[h,<-hl];simp
 rw[hb,total,h,bE,bD];omega
theorem p0 (P:bH) (ec:ByteArray->Bool):∀(f:Nat) (l:List St) (n:Int) (w:WS),mu P w l<f->w.procs.length=P.procs.length->WP P ec (iK ec l) (y3 ec l n) w (wk P ec f l n w):=by
 intro f;induction f with
 | zero=>intro l n w h;omega
 | succ f ih=>
  intro l n w hm hl;cases l with
  | nil=>simp only[wk,iK,y3];exact WP.id
  | cons s rest=>
   rcases s with⟨k,r,t,v,lb,e,a,b,p,ps⟩
   simp only[mu,ai,dA]at hm;simp only[wk];have h1:=WP.add (P:=P) (ec:=ec) (w:=w) n;have h2:=ih a (n+1) ⟨fc w.steps n,w.procs⟩ (by simp only[mu];omega) hl;have dU:=h1.comp h2;generalize wk P ec f a (n+1) ⟨fc w.steps n,w.procs⟩=w2 at*;have f2:jC w2.procs<=jC w.procs:=jw dU.len dU.mono;have m2:jC w2.procs*(total P+1)<=jC w.procs*(total P+1):=Nat.mul_le_mul_right _ f2;have h3:=ih b (n+1+ai a) w2 (by simp only[mu];omega) (dU.len.trans hl);have eV:=dU.comp h3;generalize wk P ec f b (n+1+ai a) w2=w3 at*;have f3:jC w3.procs<=jC w.procs:=jw eV.len eV.mono;have m3:jC w3.procs*(total P+1)<=jC w.procs*(total P+1):=Nat.mul_le_mul_right _ f3;have Gu:w3.procs.length=P.procs.length:=eV.len.trans hl;have h4:WP P ec (if k=5 then[p]else[]) [] w3 (if 0<=kI P.procs k p/\w3.procs[(kI P.procs k p).toNat]? =some false then wk P ec f (aK P.procs (kI P.procs k p).toNat) (dc P (kI P.procs k p).toNat) ⟨w3.steps,w3.procs.set (kI P.procs k p).toNat true⟩else w3):=by
    by_cases h5:k=5
    ·simp only[kI,h5,if_true];split
     ·rename_i hc;have ct:(bq P.procs p).toNat<P.procs.length:=by rw[<-Gu];exact(List.getElem?_eq_some_iff.1 hc.2).1
      have Ic:=jS hc.2;refine WP.enter (i:=(bq P.procs p).toNat) (by omega) hc.2 ct (ih _ _ _ ?_ (by simp[Gu]));have hb:=qZ ct;simp only[mu];have:jC w3.procs*(total P+1)=jC (w3.procs.set (bq P.procs p).toNat true)*(total P+1)+(total P+1):=by rw[<-Ic,Nat.add_mul];omega
      omega
     ·rename_i hc;refine WP.known fun q hq i hi hx=> ?_
      simp at hq;subst hq;have:w3.procs[i]? =some w3.procs[i]:=getElem?_eq_getElem (by omega);rw[hi]at hc;cases hv:w3.procs[i]with
      | true=>rw[this,hv]
      | false=>exact absurd ⟨by omega,by simpa[hv]using this⟩ hc
    ·have:kI P.procs k p= -1:=by simp[kI,h5]
     simp only[this,h5,if_false];rw[if_neg (by omega)];exact WP.id
   have dG:=eV.comp h4;generalize (if 0<=kI P.procs k p/\w3.procs[(kI P.procs k p).toNat]? =some false then wk P ec f (aK P.procs (kI P.procs k p).toNat) (dc P (kI P.procs k p).toNat) ⟨w3.steps,w3.procs.set (kI P.procs k p).toNat true⟩else w3)=w4 at*;have f4:jC w4.procs<=jC w.procs:=jw dG.len dG.mono;have m4:jC w4.procs*(total P+1)<=jC w.procs*(total P+1):=Nat.mul_le_mul_right _ f4;have hsS:WP P ec (Lx ec (.mk k r t v lb e a b p ps)) (Oo ec (.mk k r t v lb e a b p ps) n) w w4:=by
    refine dG.congr (fun q=> ?_) (fun x=> ?_)
    ·simp only[Lx,mem_append,nil_append];constructor
     ·rintro((h | h) | h)
      ·exact .inr (.inl h)
      ·exact .inr (.inr h)
      ·exact .inl h
     ·rintro(h | h | h)
      ·exact .inr h
      ·exact .inl (.inl h)
      ·exact .inl (.inr h)
    ·simp[Oo]
   simp only[iK,y3];split
   ·exact hsS.comp (ih rest _ w4 (by simp only[mu];omega) (dG.len.trans hl))
   ·simpa using hsS
end Go.Proofs.YtdgoeblpcnjlbaaGreatDoor.Av
namespace Go.Proofs.YtdgoeblpcnjlbaaGreatDoor.Av
open Go.RowKit List
def Ot:aB:=(.seq (.region [⟨some 1,.box (sT 0),none⟩,aQ 2 (.kb),aQ 3 (.int .i64 0)]) (.seq (.seq (.region [bU 5 2 1,bw 6 71 [.tmp 5],ab 4 6]) (.seq (.region [ab 7 4,bC 8 .neq 7 (.int .i64 0)]) (.cond (sT 8) (.seq (.region [ab 9 4,aQ 2 (.kb),ab 3 9])
 .ret) .skip))) (.seq (.region [bU 10 2 1,bw 11 117 [.tmp 10],ab 2 11,aQ 3 (.int .i64 0)])
 .ret)))
def Ou:List a8:=[.tmp 2,.tmp 3]
theorem Tu:aG Tryz.prog 41 Ot Ou 12:=codeOk Tryz.func41 rfl rfl
def Tv:aB:=(.seq (.region [⟨some 2,.box (sT 0),none⟩,aQ 4 (.bool false)]) (.seq (.region [ab 5 1,⟨some 6,.fC 119 [] [.tmp 2],none⟩,bw 7 118 [.tmp 5,.tmp 6],⟨some 8,.un .not (sT 7),none⟩,ab 4 8])
 .ret))
def Tw:List a8:=[.tmp 4]
theorem ZY:aG Tryz.prog 42 Tv Tw 9:=codeOk Tryz.func42 rfl rfl
def Tx:aB:=(.seq (.region [aQ 2 (.kb)]) (.seq (.region [ab 4 0,⟨some 5,.gm,none⟩,ab 6 0,⟨some 7,.b5 (sT 6),none⟩,aN 8 3 7,aH 9 8,cJ 10 9,⟨some 11,.Eu (.bool false) (sT 10),none⟩,⟨some 12,.build [.kb,.cG,.ag] [(0,1,.tmp 4),(1,1,.tmp 5),(2,1,.tmp 11)],none⟩,⟨some 13,.box (sT 12),none⟩,ab 3 13]) (.seq (.region [ab 14 3,ab 15 0,⟨some 16,.b5 (sT 15),none⟩,aN 17 2 16,aH 18 17,bw 19 121 [.tmp 14,.tmp 18]]) (.seq (.region [ab 20 3,ab 2 20])
 .ret))))
def Ty:List a8:=[.tmp 2]
theorem ZZ:aG Tryz.prog 43 Tx Ty 21:=codeOk Tryz.func43 rfl rfl
def Tz:aB:=(.seq (.region [⟨some 1,.box (sT 0),none⟩,aQ 2 (.cG)]) (.seq (.region [⟨some 7,.gm,none⟩,⟨some 3,.alloc (.cG),none⟩,⟨none,.store 1 (sT 3) (sT 7),none⟩]) (.seq (.seq (.region [aQ 4 (.bool true)]) (.block 0 (.loop (.seq (.seq (.region [ab 8 4]) (.cond (sT 8) .skip (.exit 0))) (.block 1 (.seq (.region [aQ 4 (.bool false)]) (.seq (.region [aN 9 0 1,aH 10 9,cJ 11 10,aQ 12 (.int .i64 0)]) (.block 2 (.loop (.seq (.region [cL 13 .lss 12 11]) (.seq (.cond (sT 13) .skip (.exit 2)) (.seq (.block 3 (.seq (.region [ab 14 12,cM 15 3 10 12,bU 16 3 15,⟨some 6,.alloc (.agg [.str ⟨#[]⟩,.ag,.ag]),none⟩,ab 5 14,⟨none,.store 3 (sT 6) (sT 16),none⟩]) (.seq (.region [aH 17 3,ab 18 5,⟨some 19,.eu (false,[false]) false (.bool false) (sT 17) (sT 18),none⟩,⟨some 20,.un .not (sT 19),none⟩,ab 21 20,⟨some 22,.load true 2 (sT 1),(some (21,true))⟩,dP 23 2 6 21 true,dy 24 23 21 true,⟨some 25,.fC 131 [] [.tmp 3,.tmp 1],(some (21,true))⟩,⟨some 26,.call (.val (.a6 54 [] [])) [.tmp 22,.tmp 24,.tmp 25,.val (.a6 56 [] [])],(some (21,true))⟩,⟨some 27,.pick (sT 21) (sT 26) (.val (.bool false)),none⟩]) (.cond (sT 27) (.region [aH 28 3,ab 29 5,⟨none,.kG (false,[false]) (sT 28) (sT 29) (.val (.bool true)),none⟩,aQ 4 (.bool true)]) .skip)))) (.region [bC 30 .add 12 (.int .i64 1),ab 12 30]))))))))))))) (.seq (.region [aH 31 3,ab 2 31])
 .ret))))
def Ov:List a8:=[.tmp 2]
theorem Z0:aG Tryz.prog 53 Tz Ov 32:=codeOk Tryz.func53 rfl rfl
def TA:aB:=(.seq (.region [⟨some 4,.box (sT 0),none⟩,⟨some 6,.box (sT 2),none⟩,⟨some 7,.box (sT 3),none⟩,aQ 8 (.bool false)]) (.seq (.region [ab 9 1,⟨some 10,.fC 133 [] [.tmp 7,.tmp 4,.tmp 6],none⟩,bw 11 132 [.tmp 9,.tmp 10],⟨some 12,.un .not (sT 11),none⟩,ab 8 12])
 .ret))
def TB:List a8:=[.tmp 8]
theorem Z1:aG Tryz.prog 54 TA TB 13:=codeOk Tryz.func54 rfl rfl
def TC:aB:=(.seq (.region [⟨some 1,.box (sT 0),none⟩,aQ 2 (.bool false)]) (.seq (.region [aQ 2 (.bool false)])
 .ret))
def TD:List a8:=[.tmp 2]
theorem Z3:aG Tryz.prog 56 TC TD 3:=codeOk Tryz.func56 rfl rfl
def TE:aB:=(.seq (.region [⟨some 1,.box (sT 0),none⟩,⟨some 2,.alloc (.agg [.ag,.ag]),none⟩,aQ 3 (.ag)]) (.seq (.region [bU 15 2 1,bw 16 53 [.tmp 15],ab 4 16]) (.seq (.region [⟨some 17,.gm,none⟩,⟨some 5,.alloc (.cG),none⟩,⟨none,.store 1 (sT 5) (sT 17),none⟩]) (.seq (.region [⟨some 6,.alloc (.ag),none⟩]) (.seq (.region [⟨some 18,.fC 134 [] [.tmp 5,.tmp 6],none⟩,ab 7 18]) (.seq (.region [bU 19 2 1,aN 20 1 1,aH 21 20,ab 22 4,ab 23 7,bw 24 135 [.tmp 19,.tmp 21,.tmp 22,.tmp 23],⟨some 25,.build [.ag,.ag] [(1,1,.tmp 24)],none⟩,⟨some 8,.alloc (.agg [.ag,.ag]),none⟩,⟨none,.store 2 (sT 8) (sT 25),none⟩]) (.seq (.region [⟨some 26,.gm,none⟩,ab 9 26]) (.seq (.block 0 (.loop (.seq (.seq (.region [aH 27 6,cJ 28 27,bC 29 .gtr 28 (.int .i64 0)]) (.cond (sT 29) .skip (.exit 0))) (.block 1 (.seq (.region [aH 30 6,⟨some 31,.gk 1 (sT 30) (.val (.int .i64 0)),none⟩,aH 32 31,ab 10 32]) (.seq (.region [aH 33 6,⟨some 34,.slice 1 (sT 33) (some (.val (.int .i64 1))) none,none⟩,⟨none,.store 1 (sT 6) (sT 34),none⟩]) (.qregion [⟨ab 35 9,false,0,1,0⟩,⟨ab 36 10,false,0,1,0⟩,⟨bU 37 2 1,false,0,0,0⟩,⟨aN 38 0 1,false,0,0,0⟩,⟨aH 39 38,false,0,0,8⟩,⟨ab 40 10,false,0,0,0⟩,⟨cM 41 3 39 40,false,0,0,56⟩,⟨aN 42 2 41,false,0,0,120⟩,⟨aH 43 42,false,0,0,248⟩,⟨ab 44 4,false,0,0,0⟩,⟨ab 45 7,false,0,0,0⟩,⟨bw 46 135 [.tmp 37,.tmp 43,.tmp 44,.tmp 45],true,0,0,2044⟩,⟨⟨none,.kG (false,[false]) (sT 35) (sT 36) (sT 46),none⟩,true,0,0,4095⟩]))))))) (.seq (.region [⟨some 9,.nS 9,none⟩,ab 47 9,bw 48 137 [.tmp 47],bw 49 136 [.tmp 48],ab 11 49]) (.seq (.seq (.region [ab 50 11,cJ 51 50,aQ 52 (.int .i64 0)]) (.block 2 (.loop (.seq (.region [cL 53 .lss 52 51]) (.seq (.cond (sT 53) .skip (.exit 2)) (.seq (.block 3 (.seq (.region [cM 54 1 50 52,aH 55 54,ab 13 55]) (.seq (.region [aN 56 0 1,aH 57 56,ab 58 13,cM 59 3 57 58,bU 60 3 59,⟨some 14,.alloc (.agg [.str ⟨#[]⟩,.ag,.ag]),none⟩,⟨none,.store 3 (sT 14) (sT 60),none⟩]) (.qregion [⟨aN 61 0 8,false,0,0,0⟩,⟨aH 62 61,false,0,0,1⟩,⟨aN 63 0 14,false,0,0,0⟩,⟨aH 64 63,false,0,0,4⟩,⟨aN 65 1 14,false,0,0,0⟩,⟨aH 66 65,false,0,0,16⟩,⟨bw 67 69 [.tmp 66],false,0,0,48⟩,⟨ab 68 9,false,0,0,0⟩,⟨ab 69 13,false,0,0,0⟩,⟨⟨some 70,.eu (false,[false]) false (.ag) (sT 68) (sT 69),none⟩,false,0,0,384⟩,⟨⟨some 71,.build [.str ⟨#[]⟩,.ag,.ag] [(0,1,.tmp 64),(1,1,.tmp 67),(2,1,.tmp 70)],none⟩,false,0,0,1020⟩,⟨⟨some 72,.aJ 3 [.tmp 71],none⟩,false,0,0,2044⟩,⟨⟨some 73,.append 3 64 (sT 62) (sT 72),none⟩,true,0,0,4095⟩,⟨aN 74 0 8,false,1,1,8191⟩,⟨⟨none,.store 1 (sT 74) (sT 73),none⟩,true,0,0,16383⟩])))) (.region [bC 75 .add 52 (.int .i64 1),ab 52 75]))))))) (.seq (.region [bU 76 2 8,ab 77 11,⟨none,.store 2 (sT 2) (sT 76),none⟩,ab 3 77])
 .ret)))))))))))
def xe:List a8:=[.cell true 2 2,.tmp 3]
theorem Z4:aG Tryz.prog 57 TE xe 78:=codeOk Tryz.func57 rfl rfl
def TF:aB:=(.seq (.region [⟨some 1,.box (sT 0),none⟩,aQ 2 (.kb)]) (.seq (.qregion [⟨bU 11 2 1,false,0,1,0⟩,⟨aN 12 0 1,false,0,0,0⟩,⟨aH 13 12,false,0,0,2⟩,⟨cJ 14 13,false,0,0,6⟩,⟨⟨some 15,.Eu (.bool false) (sT 14),none⟩,true,0,0,14⟩,⟨⟨some 16,.build [.ag,.ag,.ag,.ag,.ag] [(0,2,.tmp 11),(4,1,.tmp 15)],none⟩,false,1,1,31⟩,⟨⟨some 17,.box (sT 16),none⟩,true,0,0,63⟩,⟨ab 3 17,false,2,2,127⟩]) (.seq (.region [aQ 4 (.int .i64 0)]) (.seq (.region [ab 19 3,bU 20 2 1,aN 21 1 1,aH 22 21,bw 23 179 [.tmp 20,.tmp 22,.val (.int .i64 0)],ab 18 23,⟨some 24,.extract (sT 18) 0,none⟩,⟨some 25,.extract (sT 18) 1,none⟩,⟨some 26,.b5 (sT 19),none⟩,aN 27 2 26,⟨none,.store 1 (sT 27) (sT 24),none⟩,ab 4 25]) (.seq (.seq (.region [aN 28 0 1,aH 29 28,cJ 30 29,aQ 31 (.int .i64 0)]) (.block 0 (.loop (.seq (.region [cL 32 .lss 31 30]) (.seq (.cond (sT 32) .skip (.exit 0)) (.seq (.block 1 (.seq (.region [cM 33 3 29 31,bU 34 3 33,⟨some 6,.alloc (.agg [.str ⟨#[]⟩,.ag,.ag]),none⟩,⟨none,.store 3 (sT 6) (sT 34),none⟩]) (.seq (.region [aQ 7 (.ag)]) (.seq (.region [bU 36 2 1,aN 37 2 6,aH 38 37,ab 39 4,bw 40 179 [.tmp 36,.tmp 38,.tmp 39],ab 35 40,⟨some 41,.extract (sT 35) 0,none⟩,⟨some 42,.extract (sT 35) 1,none⟩,ab 7 41,ab 4 42]) (.region [ab 43 3,ab 44 3,⟨some 45,.b5 (sT 44),none⟩,aN 46 3 45,aH 47 46,ab 48 7,⟨some 49,.aJ 1 [.tmp 48],none⟩,⟨some 50,.append 1 24 (sT 47) (sT 49),none⟩,⟨some 51,.b5 (sT 43),none⟩,aN 52 3 51,⟨none,.store 1 (sT 52) (sT 50),none⟩]))))) (.region [bC 53 .add 31 (.int .i64 1),ab 31 53]))))))) (.seq (.seq (.region [aQ 8 (.bool true)]) (.block 2 (.loop (.seq (.seq (.region [ab 54 8]) (.cond (sT 54) .skip (.exit 2))) (.block 3 (.seq (.region [aQ 8 (.bool false)]) (.seq (.region [ab 55 3,⟨some 56,.b5 (sT 55),none⟩,aN 57 3 56,aH 58 57,cJ 59 58,aQ 60 (.int .i64 0)]) (.block 4 (.loop (.seq (.region [cL 61 .lss 60 59]) (.seq (.cond (sT 61) .skip (.exit 4)) (.seq (.block 5 (.seq (.region [ab 62 60,cM 63 1 58 60,aH 64 63,ab 9 62,ab 10 64]) (.seq (.region [ab 65 3,⟨some 66,.b5 (sT 65),none⟩,aN 67 4 66,aH 68 67,ab 69 9,cM 70 1 68 69,aH 71 70,⟨some 72,.un .not (sT 71),none⟩,ab 73 72,fD 74 3 73 true,fD 75 10 73 true,⟨some 76,.call (.val (.a6 42 [] [])) [.tmp 74,.tmp 75],(some (73,true))⟩,⟨some 77,.pick (sT 73) (sT 76) (.val (.bool false)),none⟩]) (.cond (sT 77) (.region [ab 78 3,⟨some 79,.b5 (sT 78),none⟩,aN 80 4 79,aH 81 80,ab 82 9,cM 83 1 81 82,⟨none,.store 1 (sT 83) (.val (.bool true)),none⟩,aQ 8 (.bool true)]) .skip)))) (.region [bC 84 .add 60 (.int .i64 1),ab 60 84]))))))))))))) (.seq (.region [ab 85 3,ab 2 85])
 .ret)))))))
def Gv:List a8:=[.tmp 2]
theorem Z5:aG Tryz.prog 117 TF Gv 86:=codeOk Tryz.func117 rfl rfl
def TG:aB:=(.seq (.region [aQ 4 (.bool false)]) (.seq (.region [ab 5 0,ab 6 1,bw 7 180 [.tmp 5,.tmp 6],bC 8 .geq 7 (.int .i64 0),ab 4 8])
 .ret))
def TH:List a8:=[.tmp 4]
theorem Z6:aG Tryz.prog 118 TG TH 9:=codeOk Tryz.func118 rfl rfl
def TI:aB:=(.seq (.region [⟨some 2,.box (sT 0),none⟩,aQ 3 (.bool false)]) (.seq (.region [aH 4 1,bU 5 17 2,bw 6 120 [.tmp 4,.tmp 5],⟨some 7,.un .not (sT 6),none⟩,ab 3 7])
 .ret))
def TJ:List a8:=[.tmp 3]
theorem Z7:aG Tryz.prog 119 TI TJ 8:=codeOk Tryz.func119 rfl rfl
def Ow:aB:=(.seq (.region [⟨some 3,.box (sT 1),none⟩,aQ 4 (.bool false)]) (.seq (.seq (.region [aN 5 1 3,aN 6 0 5,aH 7 6]) (.block 0 (.seq (.region [bC 9 .eql 7 (.int .i64 4),ab 8 9]) (.cond (sT 8) (.seq (.region [ab 10 0,aN 11 15 3,aH 12 11,bw 13 42 [.tmp 10,.tmp 12],ab 14 13,fD 15 0 14 false,dP 16 16 3 14 false,dy 17 16 14 false,⟨some 18,.call (.val (.a6 42 [] [])) [.tmp 15,.tmp 17],(some (14,false))⟩,⟨some 19,.pick (sT 14) (.val (.bool true)) (sT 18),none⟩,ab 4 19])
 .ret) (.seq (.region [bC 21 .eql 7 (.int .i64 5),ab 20 21]) (.cond (sT 20) (.seq (.qregion [⟨ab 22 0,false,0,0,0⟩,⟨⟨some 23,.b5 (sT 22),none⟩,false,0,0,1⟩,⟨aN 24 4 23,false,0,0,3⟩,⟨aH 25 24,false,0,0,7⟩,⟨aN 26 14 3,false,0,0,0⟩,⟨aH 27 26,false,0,0,16⟩,⟨cM 28 1 25 27,false,0,0,63⟩,⟨aH 29 28,false,0,0,127⟩,⟨ab 4 29,false,0,0,255⟩])
 .ret) .skip)))))) (.seq (.region [aQ 4 (.bool true)])
 .ret)))
def Ox:List a8:=[.tmp 4]
theorem Z8:aG Tryz.prog 120 Ow Ox 30:=codeOk Tryz.func120 rfl rfl
def TK:aB:=(.seq (.region [ab 6 1,cJ 7 6,aQ 8 (.int .i64 0)]) (.block 0 (.loop (.seq (.region [cL 9 .lss 8 7]) (.seq (.cond (sT 9) .skip (.exit 0)) (.seq (.block 1 (.seq (.region [cM 10 17 6 8,bU 11 17 10,⟨some 5,.alloc (.agg [.int .i64 0,.int .i64 0,.str ⟨#[]⟩,.str ⟨#[]⟩,.str ⟨#[]⟩,.str ⟨#[]⟩,.int .i64 0,.int .i64 0,.str ⟨#[]⟩,.ag,.ag,.ag,.str ⟨#[]⟩,.ag,.int .i64 0,.ag,.ag]),none⟩,⟨none,.store 17 (sT 5) (sT 11),none⟩]) (.seq (.qregion [⟨ab 12 0,false,0,0,0⟩,⟨⟨some 13,.b5 (sT 12),none⟩,false,0,0,1⟩,⟨aN 14 1 13,false,0,0,3⟩,⟨aH 15 14,false,0,0,7⟩,⟨aN 16 0 5,false,0,0,0⟩,⟨aH 17 16,false,0,0,16⟩,⟨⟨none,.kG (false,[false]) (sT 15) (sT 17) (.val (.bool true)),none⟩,true,0,0,63⟩]) (.seq (.region [ab 18 0,aN 19 15 5,aH 20 19,bw 21 121 [.tmp 18,.tmp 20]]) (.seq (.region [ab 22 0,aN 23 16 5,aH 24 23,bw 25 121 [.tmp 22,.tmp 24]]) (.seq (.seq (.qregion [⟨aN 26 14 5,false,0,0,0⟩,⟨aH 27 26,false,0,0,1⟩,⟨bC 28 .geq 27 (.int .i64 0),false,0,0,3⟩,⟨ab 29 28,false,0,0,7⟩,⟨fD 30 0 29 true,false,0,0,15⟩,⟨⟨some 31,.b5 (sT 30),(some (29,true))⟩,false,0,0,31⟩,⟨dP 32 2 31 29 true,false,0,0,63⟩,⟨dy 33 32 29 true,false,0,0,127⟩,⟨dP 34 14 5 29 true,false,0,0,15⟩,⟨dy 35 34 29 true,false,0,0,271⟩,⟨⟨some 36,.gk 1 (sT 33) (sT 35),(some (29,true))⟩,false,0,0,1023⟩,⟨dy 37 36 29 true,false,0,0,2047⟩,⟨⟨some 38,.un .not (sT 37),(some (29,true))⟩,false,0,0,4095⟩,⟨⟨some 39,.pick (sT 29) (sT 38) (.val (.bool false)),none⟩,false,0,0,8191⟩]) (.cond (sT 39) (.seq (.qregion [⟨ab 40 0,false,0,0,0⟩,⟨⟨some 41,.b5 (sT 40),none⟩,false,0,0,1⟩,⟨aN 42 2 41,false,0,0,3⟩,⟨aH 43 42,false,0,0,7⟩,⟨aN 44 14 5,false,0,0,0⟩,⟨aH 45 44,false,0,0,16⟩,⟨cM 46 1 43 45,false,0,0,63⟩,⟨⟨none,.store 1 (sT 46) (.val (.bool true)),none⟩,true,0,0,127⟩]) (.qregion [⟨ab 47 0,false,0,0,0⟩,⟨ab 48 0,false,0,0,0⟩,⟨⟨some 49,.b5 (sT 48),none⟩,false,0,0,2⟩,⟨aN 50 0 49,false,0,0,6⟩,⟨aH 51 50,false,0,0,14⟩,⟨⟨some 52,.b5 (sT 51),none⟩,false,0,0,30⟩,⟨aN 53 3 52,false,0,0,62⟩,⟨aH 54 53,false,0,0,126⟩,⟨aN 55 14 5,false,0,0,0⟩,⟨aH 56 55,false,0,0,256⟩,⟨cM 57 1 54 56,false,0,0,1022⟩,⟨aH 58 57,false,0,0,2046⟩,⟨bw 59 121 [.tmp 47,.tmp 58],true,0,0,4095⟩])) .skip)) (.seq (.qregion [⟨ab 60 0,false,0,0,0⟩,⟨⟨some 61,.b5 (sT 60),none⟩,false,0,0,1⟩,⟨aN 62 0 61,false,0,0,3⟩,⟨aH 63 62,false,0,0,7⟩,⟨bU 64 17 5,false,0,0,0⟩,⟨bw 65 120 [.tmp 63,.tmp 64],false,0,0,31⟩,⟨⟨some 66,.un .not (sT 65),none⟩,false,0,0,63⟩]) (.cond (sT 66) .ret .skip)))))))) (.region [bC 67 .add 8 (.int .i64 1),ab 8 67])))))))
def Gw:List a8:=[]
theorem Z9:aG Tryz.prog 121 TK Gw 68:=codeOk Tryz.func121 rfl rfl
def TL:aB:=(.seq (.region [⟨some 3,.box (sT 0),none⟩,aQ 4 (.bool false)]) (.seq (.qregion [⟨aH 5 1,false,0,0,0⟩,⟨bU 6 2 2,false,0,0,0⟩,⟨aN 7 11 3,false,0,0,0⟩,⟨aH 8 7,false,0,0,4⟩,⟨bw 9 52 [.tmp 6,.tmp 8],false,0,0,14⟩,⟨⟨some 10,.eu (false,[false]) false (.bool false) (sT 5) (sT 9),none⟩,false,0,0,31⟩,⟨ab 4 10,false,0,0,63⟩])
 .ret))
def TM:List a8:=[.tmp 4]
theorem aaa:aG Tryz.prog 131 TL TM 11:=codeOk Tryz.func131 rfl rfl
def TN:aB:=(.seq (.region [aQ 4 (.bool false)]) (.seq (.region [ab 5 0,ab 6 1,bw 7 183 [.tmp 5,.tmp 6],bC 8 .geq 7 (.int .i64 0),ab 4 8])
 .ret))
def TO:List a8:=[.tmp 4]
theorem aab:aG Tryz.prog 132 TN TO 9:=codeOk Tryz.func132 rfl rfl
def TP:aB:=(.seq (.region [⟨some 4,.box (sT 0),none⟩,aQ 5 (.bool false)]) (.seq (.block 0 (.seq (.region [aH 7 1,bU 8 13 4,⟨some 9,.call (sT 7) [.tmp 8],none⟩,ab 6 9]) (.cond (sT 6) (.seq (.region [aQ 5 (.bool true)])
 .ret) (.seq (.region [aN 11 0 4,aH 12 11,bC 13 .eql 12 (.int .i64 4),ab 10 13]) (.cond (sT 10) (.seq (.region [bU 14 2 2,aN 15 9 4,aH 16 15,aH 17 3,aH 18 1,bw 19 54 [.tmp 14,.tmp 16,.tmp 17,.tmp 18],⟨some 20,.un .not (sT 19),none⟩,ab 21 20,⟨some 22,.load true 2 (sT 2),(some (21,true))⟩,dP 23 10 4 21 true,dy 24 23 21 true,dy 25 3 21 true,dy 26 1 21 true,⟨some 27,.call (.val (.a6 54 [] [])) [.tmp 22,.tmp 24,.tmp 25,.tmp 26],(some (21,true))⟩,⟨some 28,.un .not (sT 27),(some (21,true))⟩,⟨some 29,.pick (sT 21) (sT 28) (.val (.bool false)),none⟩,ab 5 29])
 .ret) (.seq (.region [aN 31 0 4,aH 32 31,bC 33 .eql 32 (.int .i64 5),ab 30 33]) (.cond (sT 30) (.seq (.region [aH 34 3,bU 35 13 4,⟨some 36,.call (sT 34) [.tmp 35],none⟩,⟨some 37,.un .not (sT 36),none⟩,ab 5 37])
 .ret) .skip))))))) (.seq (.region [aQ 5 (.bool false)])
 .ret)))
def TQ:List a8:=[.tmp 5]
theorem aac:aG Tryz.prog 133 TP TQ 38:=codeOk Tryz.func133 rfl rfl
def Oy:aB:=(.seq (.region [aH 4 1,ab 5 0,⟨some 6,.eu (false,[false]) false (.bool false) (sT 4) (sT 5),none⟩,⟨some 7,.un .not (sT 6),none⟩]) (.cond (sT 7) (.seq (.region [aH 8 1,ab 9 0,⟨none,.kG (false,[false]) (sT 8) (sT 9) (.val (.bool true)),none⟩]) (.region [aH 10 2,ab 11 0,⟨some 12,.aJ 1 [.tmp 11],none⟩,⟨some 13,.append 1 8 (sT 10) (sT 12),none⟩,⟨none,.store 1 (sT 2) (sT 13),none⟩])) .skip))
def Gx:List a8:=[]
theorem aad:aG Tryz.prog 134 Oy Gx 14:=codeOk Tryz.func134 rfl rfl
def TR:aB:=(.seq (.region [⟨some 4,.box (sT 0),none⟩,⟨some 6,.box (sT 2),none⟩,aQ 8 (.ag)]) (.seq (.region [aQ 9 (.ag)]) (.seq (.seq (.region [ab 12 1,cJ 13 12,aQ 14 (.int .i64 0)]) (.block 0 (.loop (.seq (.region [cL 15 .lss 14 13]) (.seq (.cond (sT 15) .skip (.exit 0)) (.seq (.block 1 (.seq (.region [cM 16 13 12 14,bU 17 13 16,⟨some 11,.alloc (.agg [.int .i64 0,.str ⟨#[]⟩,.str ⟨#[]⟩,.str ⟨#[]⟩,.str ⟨#[]⟩,.int .i64 0,.int .i64 0,.str ⟨#[]⟩,.ag,.ag,.ag,.str ⟨#[]⟩,.ag]),none⟩,⟨none,.store 13 (sT 11) (sT 17),none⟩]) (.seq (.seq (.region [aN 18 0 11,aH 19 18,bC 20 .eql 19 (.int .i64 5)]) (.cond (sT 20) (.region [ab 21 3,bU 22 2 4,aN 23 11 11,aH 24 23,bw 25 52 [.tmp 22,.tmp 24],⟨some 26,.call (sT 21) [.tmp 25],none⟩]) .skip)) (.seq (.qregion [⟨bU 27 2 4,false,0,0,0⟩,⟨aN 28 9 11,false,0,0,0⟩,⟨aH 29 28,false,0,0,2⟩,⟨aH 30 6,false,0,0,0⟩,⟨ab 31 3,false,0,0,0⟩,⟨bw 32 135 [.tmp 27,.tmp 29,.tmp 30,.tmp 31],true,0,0,31⟩,⟨bU 33 2 4,false,0,1,0⟩,⟨aN 34 10 11,false,0,1,0⟩,⟨aH 35 34,false,0,1,128⟩,⟨aH 36 6,false,0,1,0⟩,⟨ab 37 3,false,0,1,0⟩,⟨bw 38 135 [.tmp 33,.tmp 35,.tmp 36,.tmp 37],true,0,0,2047⟩,⟨aN 39 9 11,false,1,2,447⟩,⟨⟨none,.store 1 (sT 39) (sT 32),none⟩,true,0,0,8191⟩,⟨aN 40 10 11,false,3,3,16383⟩,⟨⟨none,.store 1 (sT 40) (sT 38),none⟩,true,0,0,32767⟩]) (.seq (.region [ab 41 9,bU 42 13 11,⟨some 43,.aJ 13 [.tmp 42],none⟩,⟨some 44,.append 13 216 (sT 41) (sT 43),none⟩,ab 9 44]) (.seq (.region [bU 45 2 4,bU 46 13 11,⟨some 47,.aJ 13 [.tmp 46],none⟩,⟨some 48,.fC 184 [] [.tmp 6,.tmp 4],none⟩,⟨some 49,.call (.val (.a6 54 [] [])) [.tmp 45,.tmp 47,.tmp 48,.val (.a6 56 [] [])],none⟩,⟨some 50,.un .not (sT 49),none⟩]) (.cond (sT 50) (.exit 0) .skip))))))) (.region [bC 51 .add 14 (.int .i64 1),ab 14 51]))))))) (.seq (.region [ab 52 9,ab 8 52])
 .ret))))
def DK:List a8:=[.tmp 8]
theorem aae:aG Tryz.prog 135 TR DK 53:=codeOk Tryz.func135 rfl rfl
def TS:aB:=(.seq (.region [⟨some 1,.box (sT 0),none⟩,aQ 2 (.qH)]) (.seq (.region [⟨some 3,.fC 186 [] [.tmp 1],none⟩,ab 2 3])
 .ret))
def TT:List a8:=[.tmp 2]
theorem aaf:aG Tryz.prog 137 TS TT 4:=codeOk Tryz.func137 rfl rfl
def TU:aB:=(.seq (.region [⟨some 3,.box (sT 0),none⟩,aQ 6 (.ag),aQ 7 (.int .i64 0)]) (.seq (.region [aQ 8 (.ag)]) (.seq (.seq (.region [ab 12 1,cJ 13 12,aQ 14 (.int .i64 0)]) (.block 0 (.loop (.seq (.region [cL 15 .lss 14 13]) (.seq (.cond (sT 15) .skip (.exit 0)) (.seq (.block 1 (.seq (.region [cM 16 13 12 14,bU 17 13 16,⟨some 10,.alloc (.agg [.int .i64 0,.str ⟨#[]⟩,.str ⟨#[]⟩,.str ⟨#[]⟩,.str ⟨#[]⟩,.int .i64 0,.int .i64 0,.str ⟨#[]⟩,.ag,.ag,.ag,.str ⟨#[]⟩,.ag]),none⟩,⟨none,.store 13 (sT 10) (sT 17),none⟩]) (.seq (.region [ab 18 2,bU 19 13 10,⟨some 20,.build [.int .i64 0,.int .i64 0,.str ⟨#[]⟩,.str ⟨#[]⟩,.str ⟨#[]⟩,.str ⟨#[]⟩,.int .i64 0,.int .i64 0,.str ⟨#[]⟩,.ag,.ag,.ag,.str ⟨#[]⟩,.ag,.int .i64 0,.ag,.ag] [(0,1,.tmp 18),(1,13,.tmp 19),(14,1,.val (.int .i64 (-1)))],none⟩,⟨some 11,.alloc (.agg [.int .i64 0,.int .i64 0,.str ⟨#[]⟩,.str ⟨#[]⟩,.str ⟨#[]⟩,.str ⟨#[]⟩,.int .i64 0,.int .i64 0,.str ⟨#[]⟩,.ag,.ag,.ag,.str ⟨#[]⟩,.ag,.int .i64 0,.ag,.ag]),none⟩,⟨none,.store 17 (sT 11) (sT 20),none⟩]) (.seq (.seq (.region [aN 21 0 10,aH 22 21,bC 23 .eql 22 (.int .i64 5)]) (.cond (sT 23) (.region [bU 24 2 3,aN 25 11 10,aH 26 25,bw 27 192 [.tmp 24,.tmp 26],aN 28 14 11,⟨none,.store 1 (sT 28) (sT 27),none⟩]) .skip)) (.seq (.region [bU 30 2 3,aN 31 9 10,aH 32 31,ab 33 2,bC 34 .add 33 (.int .i64 1),bw 35 179 [.tmp 30,.tmp 32,.tmp 34],ab 29 35,⟨some 36,.extract (sT 29) 0,none⟩,⟨some 37,.extract (sT 29) 1,none⟩,aN 38 15 11,⟨none,.store 1 (sT 38) (sT 36),none⟩,ab 2 37]) (.seq (.region [bU 40 2 3,aN 41 10 10,aH 42 41,ab 43 2,bw 44 179 [.tmp 40,.tmp 42,.tmp 43],ab 39 44,⟨some 45,.extract (sT 39) 0,none⟩,⟨some 46,.extract (sT 39) 1,none⟩,aN 47 16 11,⟨none,.store 1 (sT 47) (sT 45),none⟩,ab 2 46]) (.region [ab 48 8,bU 49 17 11,⟨some 50,.aJ 17 [.tmp 49],none⟩,⟨some 51,.append 17 280 (sT 48) (sT 50),none⟩,ab 8 51]))))))) (.region [bC 52 .add 14 (.int .i64 1),ab 14 52]))))))) (.seq (.region [ab 53 8,ab 54 2,ab 6 53,ab 7 54])
 .ret))))
def Oz:List a8:=[.tmp 6,.tmp 7]
theorem aag:aG Tryz.prog 179 TU Oz 55:=codeOk Tryz.func179 rfl rfl
def TV:aB:=(.seq (.region [aQ 4 (.int .i64 0)]) (.seq (.seq (.region [ab 6 0,cJ 7 6,aQ 8 (.int .i64 0)]) (.block 0 (.loop (.seq (.region [cL 9 .lss 8 7]) (.seq (.cond (sT 9) .skip (.exit 0)) (.seq (.block 1 (.seq (.region [ab 10 8,ab 5 10]) (.seq (.region [ab 11 1,ab 12 0,ab 13 5,cM 14 17 12 13,bU 15 17 14,⟨some 16,.call (sT 11) [.tmp 15],none⟩]) (.cond (sT 16) (.seq (.region [ab 17 5,ab 4 17])
 .ret) .skip)))) (.region [bC 18 .add 8 (.int .i64 1),ab 8 18]))))))) (.seq (.region [aQ 4 (.int .i64 (-1))])
 .ret)))
def OA:List a8:=[.tmp 4]
theorem aah:aG Tryz.prog 180 TV OA 19:=codeOk Tryz.func180 rfl rfl
def TX:aB:=(.seq (.region [aQ 4 (.int .i64 0)]) (.seq (.seq (.region [ab 6 0,cJ 7 6,aQ 8 (.int .i64 0)]) (.block 0 (.loop (.seq (.region [cL 9 .lss 8 7]) (.seq (.cond (sT 9) .skip (.exit 0)) (.seq (.block 1 (.seq (.region [ab 10 8,ab 5 10]) (.seq (.region [ab 11 1,ab 12 0,ab 13 5,cM 14 13 12 13,bU 15 13 14,⟨some 16,.call (sT 11) [.tmp 15],none⟩]) (.cond (sT 16) (.seq (.region [ab 17 5,ab 4 17])
 .ret) .skip)))) (.region [bC 18 .add 8 (.int .i64 1),ab 8 18]))))))) (.seq (.region [aQ 4 (.int .i64 (-1))])
 .ret)))
def OB:List a8:=[.tmp 4]
theorem aai:aG Tryz.prog 183 TX OB 19:=codeOk Tryz.func183 rfl rfl
def TY:aB:=(.seq (.region [⟨some 3,.box (sT 0),none⟩,aQ 4 (.bool false)]) (.seq (.qregion [⟨aH 5 1,false,0,0,0⟩,⟨bU 6 2 2,false,0,0,0⟩,⟨aN 7 11 3,false,0,0,0⟩,⟨aH 8 7,false,0,0,4⟩,⟨bw 9 52 [.tmp 6,.tmp 8],false,0,0,14⟩,⟨⟨some 10,.eu (false,[false]) false (.bool false) (sT 5) (sT 9),none⟩,false,0,0,31⟩,⟨ab 4 10,false,0,0,63⟩])
 .ret))
def TZ:List a8:=[.tmp 4]
theorem aaj:aG Tryz.prog 184 TY TZ 11:=codeOk Tryz.func184 rfl rfl
def num:List St->Int->List (St×Int)
 | [],_=> []
 | s::l,n=>(s,n)::num l (n+dA s)
theorem gS:∀(a b:List St) (n:Int),num (a++b) n=num a n++num b (n+ai a)
 | [],b,n=>by simp[num,ai]
 | x::a,b,n=>by
  rw[cons_append,num,num,gS a b,ai,cons_append];congr 3;omega
theorem tU:∀(l:List St) (n:Int),(num l n).length=l.length
 | [],n=>rfl
 | x::l,n=>by simp[num,tU l]
mutual
def y4 (X:List Pr):St->Int->V
 | .mk k r t v l (.mk ek en es aR) a b p ps,n=> .agg [.int .i64 n,.int .i64 k,.str r,.str t,.str v,.str l,.int .i64 ek,.int .i64 en,.str es,.fs (aR.map bu),.fs (a.map encS),.fs (b.map encS),.str p,.fs (ps.map .str),.int .i64 (kI X k p),.fs (rH X a (n+1)),.fs (rH X b (n+1+ai a))]
def rH (X:List Pr):List St->Int->List V
 | [],_=> []
 | s::l,n=>y4 X s n::rH X l (n+dA s)
end
def cb (X:List Pr) (x:St×Int):V:=y4 X x.1 x.2
theorem q6 (X:List Pr):∀(l:List St) (n:Int),rH X l n=(num l n).map (cb X)
 | [],n=>rfl
 | s::l,n=>by rw[rH,num,map_cons,q6 X l];rfl
theorem ic (X:List Pr) (k:Int) (r t v l:ByteArray) (ek en:Int) (es:ByteArray) (aR:List Ex) (a b:List St) (p:ByteArray) (ps:List ByteArray) (n:Int):
 cb X (.mk k r t v l (.mk ek en es aR) a b p ps,n)=.agg [.int .i64 n,.int .i64 k,.str r,.str t,.str v,.str l,.int .i64 ek,.int .i64 en,.str es,.fs (aR.map bu),.fs (a.map encS),.fs (b.map encS),.str p,.fs (ps.map .str),.int .i64 (kI X k p),.fs ((num a (n+1)).map (cb X)),.fs ((num b (n+1+ai a)).map (cb X))]:=by
 rw[cb,y4,q6,q6]
mutual
theorem rI (X:List Pr):∀(s:St) (n:Int),al (y4 X s n)=true
 | .mk k r t v l (.mk ek en es aR) a b p ps,n=>by simp[y4,al,ae,bf,ah,aE,kY X a,kY X b]
theorem kY (X:List Pr):∀(l:List St) (n:Int),ae (rH X l n)=true
 | [],n=>by simp[rH,ae]
 | s::l,n=>by simp[rH,ae,rI X s,kY X l]
end
theorem tV (X:List Pr) (x:St×Int):al (cb X x)=true:=rI X x.1 x.2
theorem aY (X:List Pr) (l:List (St×Int)):ae (l.map (cb X))=true:=bS (tV X) l
theorem Ch (H:List ak) (n:Nat) (X:List Pr) (x:St×Int):fz H (n+2) (cb X x)=some (cb X x):=by
 obtain⟨s,i⟩:=x;rcases s with⟨k,r,t,v,l,⟨ek,en,es,aR⟩,a,b,p,ps⟩
 simp[ic,ma,b7,cN,jZ,dN,jL,bf,ah,aE,aY,dR]
attribute [push_cast] aY Ch
attribute [simp] aY tV
theorem Gy (X:List Pr) (l:List (St×Int)):df 17 (l.map (cb X)):=by
 intro e he;cases l with
 | nil=>simp at he
 | cons x l=>
  simp at he;subst he;obtain⟨s,i⟩:=x;rcases s with⟨k,r,t,v,l,⟨ek,en,es,aR⟩,a,b,p,ps⟩
  rw[ic];rfl
theorem T0 (P:bH) (xs:List St) (n:Int) (lV:0<=n) (hn:n+ai xs<=1000000)
 (h:∀k r t v l e a b p ps,St.mk k r t v l e a b p ps∈xs->∀n:Int,0<=n->
   (n+ai a<=1000000->af Tryz.prog 179 [aP P,.fs (a.map encS),.int .i64 n] (·=.dJ [.fs ((num a n).map (cb P.procs)),.int .i64 (n+ai a)]))/\
   (n+ai b<=1000000->af Tryz.prog 179 [aP P,.fs (b.map encS),.int .i64 n] (·=.dJ [.fs ((num b n).map (cb P.procs)),.int .i64 (n+ai b)]))):
 af Tryz.prog 179 [aP P,.fs (xs.map encS),.int .i64 n] (·=.dJ [.fs ((num xs n).map (cb P.procs)),.int .i64 (n+ai xs)]):=by
 have Zr:=eh xs;have qU:=fun p=>t65 P p
 simp only[aP]at h qU⊢;refine af.intro aag 400 (by simp) 20 ?_;simp -implicitDefEqProofs only[TU,go_sem];intro hlen;refine aL (fun m e H=>∃pre post kv,xs=pre++post/\m=post.length/\e 2=.int .i64 (n+ai pre)/\e 3=.ptr 0 0 0/\e 8=kv/\e 12=.fs (xs.map encS)/\e 13=.int .i64 xs.length/\e 14=.int .i64 pre.length/\OV H kv ((num pre n).map (cb P.procs))/\a7 kv 0/\H[0]? =some (.row [.agg [.fs (P.procs.map aF),.fs (P.main.map encS)]])) xs.length ⟨[],xs,.ag,by simp[az,aC,ai],rfl,by simp[az,aC,ai],by simp[az,aC],by simp[az,aC],by simp[az,aC],by simp[az,aC],by simp[az,aC],.inl ⟨rfl,rfl⟩,(fun a b h=>by cases h),rfl⟩ ?_;rintro m e H ⟨pre,post,kv,ao,rfl,h2,h3,h8,dU,eV,dG,bm,dW,mq⟩;cases post with
 | nil=>
  have ev:pre=xs:=by rw[ao];simp
  simp -implicitDefEqProofs only[h2,h3,h8,dU,eV,dG,aI ao,go_sem];have hz:fz H 19 kv=_:=dw (f:=cb P.procs) (n:=17) (fun H x=>Ch H 16 P.procs x) bm;rw[ev]at hz;simp -implicitDefEqProofs only[Oz,hz,push_cast,go_sem_proc];rw[ev]
 | cons y post=>
  have hg:=aO encS ao;have zP:ai xs=ai pre+(dA y+ai post):=by rw[ao,aX,ai]
  have cR:pre.length<=xs.length:=by rw[ao];simp
  have j6:=tU pre n;rcases y with⟨k,r,t,v,l,⟨ek,en,es,aR⟩,a,b,p,ps⟩
  have BV:num (pre++ [.mk k r t v l (.mk ek en es aR) a b p ps]) n=num pre n++ [(.mk k r t v l (.mk ek en es aR) a b p ps,n+ai pre)]:=by
   rw[gS];rfl
  simp only[dA]at zP;have hh:=h k r t v l (.mk ek en es aR) a b p ps (by rw[ao];simp);have ha:=(hh (n+ai pre+1) (by omega)).1 (by omega);have hb:=(hh (n+ai pre+1+ai a) (by omega)).2 (by omega);have qU:=qU p;have Dv:ai (pre++ [.mk k r t v l (.mk ek en es aR) a b p ps])=ai pre+(1+ai a+ai b):=by rw[aX];simp[ai,dA]
  have zK:=ic P.procs k r t v l ek en es aR a b p ps (n+ai pre);have Ci:kI P.procs k p=if k=5 then bq P.procs p else -1:=rfl
  generalize kI P.procs k p=ki at*;rw[ay]at hg;have w1:=bP (x:=n+ai pre+1) (by omega) (by omega);have j5:0<H.length:=(List.getElem?_eq_some_iff.1 mq).1;have hHa:∀l:List ak,(H++l)[0]? =some (.row [.agg [.fs (P.procs.map aF),.fs (P.main.map encS)]]):=fun l=>by rw[getElem?_append_left j5];exact mq
  simp -implicitDefEqProofs only[h2,h3,h8,dU,eV,dG,an ao,aa ao hlen,hg,w1,mq,hHa,go_sem];repeat' (first | ((first | ((with_reducible first | refine bj qU ?_ ?_ | refine bj ha ?_ ?_ | refine bj hb ?_ ?_);(·simp[ae,al,cm])) | ((with_reducible apply cj);(·simp -implicitDefEqProofs only[map_cons,map_nil,push_cast,go_sem_proc]<;>rfl);(with_reducible first | exact qU | exact ha | exact hb);(·rfl)) | (with_reducible refine aD ?_));simp -implicitDefEqProofs only[h2,h3,h8,dU,eV,dG,an ao,aa ao hlen,hg,w1,mq,hHa,go_sem]) | (with_reducible refine aA.mk ?_ ?_) | (with_reducible refine And.intro ?_ ?_) | ((with_reducible refine bz ?_);simp -implicitDefEqProofs only[Oz,push_cast,go_sem_proc]) | intro _)
  all_goals
   rename_i hk5;first | rw[Ci,if_pos (of_decide_eq_true hk5)]at zK | rw[Ci,if_neg (of_decide_eq_false hk5)]at zK
   refine cu (bm.app _) (fun i o l h=>by cases h) (Gy _ _) (by simp[j6];omega) ?_;rintro bN H' bo hle cp;obtain⟨pO,hn0'⟩:=cp 0 (by simp) dW;rw[hHa]at pO;simp -implicitDefEqProofs only[h2,h3,h8,dU,eV,dG,an ao,aa ao hlen,hg,pO,go_sem];refine⟨_,Nat.lt_succ_self _,pre++ [.mk k r t v l (.mk ek en es aR) a b p ps],post,bN,by simp[ao],rfl,?_,rfl,by simp,?_,hn0'⟩
   ·rw[Dv];simp only[Int.natCast_add,Int.natCast_one];congr 1;omega
   ·rw[BV,map_append,map_cons,map_nil,zK];exact bo
theorem br (E:List Bool):ae (E.map .bool)=true:=bS (fun x=>by simp[al]) E
attribute [simp] br
theorem t318 (X:List Pr) (xs:List (St×Int)) (g:FuncId) (first bB:List V) (p:St×Int->Bool) (hn:ae first=true) (nH:ae bB=true)
 (h:∀x∈xs,af Tryz.prog g (first++ [cb X x]++bB) (·=.bool (p x))):af Tryz.prog 180 [.fs (xs.map (cb X)),.a6 g first bB] (·=.int .i64 (oc p xs 0)):=by
 refine af.intro aah 200 (by simp) 20 ?_;simp -implicitDefEqProofs only[TV,go_sem];intro hlen;refine aL (fun m e H=>∃pre post,xs=pre++post/\m=post.length/\(∀y∈pre,p y=false)/\e 0=.fs (xs.map (cb X))/\e 1=.a6 g first bB/\e 7=.int .i64 xs.length/\e 8=.int .i64 pre.length) xs.length ⟨[],xs,by simp[az,aC]⟩ ?_
 rintro m e H ⟨pre,post,ao,rfl,hp,h0,h1,h7,h8⟩;cases post with
 | nil=>
  simp -implicitDefEqProofs only[h0,h1,h7,h8,aI ao,decide_false,go_sem];simp -implicitDefEqProofs only[OA,push_cast,go_sem_proc];rw[ao,dq _ pre [] 0 hp];rfl
 | cons y post=>
  have hg:=aO (cb X) ao;have hy:=h y (by simp[ao]);have Qo:∃k r t v l ek en es aR a b q ps n,y=(.mk k r t v l (.mk ek en es aR) a b q ps,n):=by
   obtain⟨s,n⟩:=y;rcases s with⟨k,r,t,v,l,⟨ek,en,es,aR⟩,a,b,q,ps⟩
   exact⟨_,_,_,_,_,_,_,_,_,_,_,_,_,_,rfl⟩
  obtain⟨k,r,t,v,l,ek,en,es,aR,a,b,q,ps,n,rfl⟩:=Qo;rw[ic]at hg hy;simp -implicitDefEqProofs only[h0,h1,h7,h8,an ao,hg,aa ao hlen,decide_true,go_sem];simp only[append_assoc,cons_append,nil_append]at hy;refine di (by simp[gK,ae,al,hn,nH,bf,ah,aY,aE]) hy ?_;simp -implicitDefEqProofs only[h0,h1,h7,h8,an ao,hg,aa ao hlen,decide_true,go_sem];refine⟨fun hc=> ?_,fun hc=> ?_⟩
  ·simp -implicitDefEqProofs only[OA,push_cast,go_sem_proc];rw[ao,dq _ pre _ 0 hp,oc,hc];simp
  ·exact⟨_,Nat.lt_succ_self _,pre++ [_],post,by simp[ao];rfl,rfl,fun z hz=>by rcases List.mem_append.1 hz with hz | hz;exact hp z hz;simp at hz;subst hz;exact hc,by simp⟩
theorem t278 (X:List Pr) (xs:List (St×Int)) (g:FuncId) (first bB:List V) (p:St×Int->Bool) (hn:ae first=true) (nH:ae bB=true)
 (h:∀x∈xs,af Tryz.prog g (first++ [cb X x]++bB) (·=.bool (p x))):af Tryz.prog 118 [.fs (xs.map (cb X)),.a6 g first bB] (·=.bool (xs.any p)):=by
 refine af.intro Z6 200 (by simp) 20 ?_;simp -implicitDefEqProofs only[TG,go_sem];refine di (by simp[ae,al,hn,nH,aY]) (t318 X xs g first bB p hn nH h) ?_
 simp -implicitDefEqProofs only[go_sem];simp -implicitDefEqProofs only[TH,push_cast,go_sem_proc];exact fY _ _ _ (by omega)
def lE (c0 c1 c2 c3:V) (E:List Bool):List V:=[c0,c1,c2,c3,.fs (E.map .bool)]
mutual
def DL (X:List Pr):St->Bool
 | .mk k _ _ _ _ _ a b p _=>(k !=5 || decide (0<=bq X p)) && (uU X a && uU X b)
def uU (X:List Pr):List St->Bool
 | []=>true
 | s::l=>DL X s && uU X l
end
theorem sE {X:List Pr}:∀{l:List St},uU X l=true->∀s∈l,DL X s=true
 | [],_,s,h=>by simp at h
 | x::l,h,s,hs=>by
  simp only[uU,Bool.and_eq_true]at h;rcases List.mem_cons.1 hs with rfl | hs
  ·exact h.1
  ·exact sE h.2 s hs
theorem Cj:∀{l:List St} {n:Int} {x:St×Int},x∈num l n->x.1∈l
 | [],n,x,h=>by simp[num]at h
 | s::l,n,x,h=>by
  simp only[num,mem_cons]at h;rcases h with rfl | h
  ·simp
  ·simp[Cj h]
theorem fO {X:List Pr} {p:ByteArray} (h:0<=bq X p):(bq X p).toNat<X.length:=by
 rcases jN (fun z:Pr=>decide (z.name=p)) X 0 (by omega)with⟨hI,_⟩ | ⟨pre,q,post,ao,hI,_⟩
 ·rw[bq,hI]at h;omega
 ·rw[bq,hI,ao];simp
theorem Ly (X:List Pr) (E:List Bool) (hE:E.length=X.length) (c0 c1 c2 c3:V) (h0:al c0=true) (h1:al c1=true) (h2:al c2=true) (h3:al c3=true)
 (k:Int) (r t v l:ByteArray) (ek en:Int) (es:ByteArray) (aR:List Ex) (a b:List St) (p:ByteArray) (ps:List ByteArray) (n:Int) (dx:DL X (.mk k r t v l (.mk ek en es aR) a b p ps)=true)
 (ha:af Tryz.prog 42 [.bc (lE c0 c1 c2 c3 E),.fs ((num a (n+1)).map (cb X))] (·=.bool (lu (ga X E) a)))
 (hb:af Tryz.prog 42 [.bc (lE c0 c1 c2 c3 E),.fs ((num b (n+1+ai a)).map (cb X))] (·=.bool (lu (ga X E) b))):
 af Tryz.prog 120 [.bc (lE c0 c1 c2 c3 E),cb X (.mk k r t v l (.mk ek en es aR) a b p ps,n)] (·=.bool (oT (ga X E) (.mk k r t v l (.mk ek en es aR) a b p ps))):=by
 simp only[lE]at ha hb⊢;rw[ic];simp only[DL,Bool.and_eq_true,Bool.or_eq_true,bne_iff_ne,ne_eq,decide_eq_true_eq]at dx;refine af.intro Z8 400 (by simp) 20 ?_;by_cases h5:k=5
 ·subst h5;have hp:0<=bq X p:=by rcases dx.1 with h | h;exact absurd rfl h;exact h
  have ct:=fO hp;have gj:iD (bq X p) E.length:=⟨hp,by omega⟩;have hgb:(E.map V.bool).getD (bq X p).toNat .any=.bool (E.getD (bq X p).toNat false):=by
   simp[List.getD,getElem?_map,getElem?_eq_getElem (show(bq X p).toNat<E.length by omega)]
  have Ci:kI X 5 p=bq X p:=by simp[kI]
  have Gz:ga X E p=E.getD (bq X p).toNat false:=by simp[ga,show¬bq X p<0 by omega]
  simp only[oT,Gz,show¬(5:Int)=4 by decide,if_false,if_true];rw[Ci];simp -implicitDefEqProofs only[Ow,hgb,gj,Int.reduceEq,go_sem];repeat' (first | ((first | ((with_reducible first | refine bj ha ?_ ?_ | refine bj hb ?_ ?_);(·simp[ae,al,cm,h0,h1,h2,h3])) | ((with_reducible apply cj);(·simp -implicitDefEqProofs only[map_cons,map_nil,h0,h1,h2,h3,push_cast,go_sem_proc]<;>rfl);(with_reducible first | exact ha | exact hb);(·rfl)) | (with_reducible refine aD ?_));simp -implicitDefEqProofs only[hgb,gj,Int.reduceEq,go_sem]) | (with_reducible refine aA.mk ?_ ?_) | (with_reducible refine And.intro ?_ ?_) | ((with_reducible refine bz ?_);simp -implicitDefEqProofs only[Ox,push_cast,go_sem_proc]) | intro _)
 ·have Ci:kI X k p= -1:=by simp[kI,h5]
  simp only[oT,h5,if_false];simp -implicitDefEqProofs only[Ow,h5,go_sem];repeat' (first | ((first | ((with_reducible first | refine bj ha ?_ ?_ | refine bj hb ?_ ?_);(·simp[ae,al,cm,h0,h1,h2,h3])) | ((with_reducible apply cj);(·simp -implicitDefEqProofs only[map_cons,map_nil,h0,h1,h2,h3,push_cast,go_sem_proc]<;>rfl);(with_reducible first | exact ha | exact hb);(·rfl)) | (with_reducible refine aD ?_));simp -implicitDefEqProofs only[h5,go_sem]) | (with_reducible refine aA.mk ?_ ?_) | (with_reducible refine And.intro ?_ ?_) | ((with_reducible refine bz ?_);simp -implicitDefEqProofs only[Ox,push_cast,go_sem_proc]) | intro _)
  all_goals (try(generalize lu (ga X E) a=A at*;generalize lu (ga X E) b=B at*;simp_all))
theorem T1 (X:List Pr) (E:List Bool) (c0 c1 c2 c3:V) (h0:al c0=true) (h1:al c1=true) (h2:al c2=true) (h3:al c3=true) (l:List St) (n:Int)
 (h:∀x∈num l n,af Tryz.prog 120 [.bc (lE c0 c1 c2 c3 E),cb X x] (·=.bool (oT (ga X E) x.1))):
 af Tryz.prog 42 [.bc (lE c0 c1 c2 c3 E),.fs ((num l n).map (cb X))] (·=.bool (lu (ga X E) l)):=by
 simp only[lE]at h⊢;have gi:ae (E.map V.bool)=true:=bS (fun x=>by simp[al]) E;have T2:∀x∈num l n,af Tryz.prog 119 ([]++ [cb X x]++ [.bc [.bc [c0,c1,c2,c3,.fs (E.map .bool)]]]) (·=.bool (!oT (ga X E) x.1)):=by
  intro x hx;have hx:=h x hx;obtain⟨s,i⟩:=x;rcases s with⟨k,r,t,v,lb,⟨ek,en,es,aR⟩,a,b,p,ps⟩
  rw[ic]at hx⊢;simp only[nil_append,cons_append];refine af.intro Z7 100 (by simp) 20 ?_;simp -implicitDefEqProofs only[TI,go_sem];repeat' (first | ((first | ((with_reducible refine bj hx ?_ ?_);(·simp[ae,al,cm,h0,h1,h2,h3,gi])) | ((with_reducible apply cj);(·simp -implicitDefEqProofs only[map_cons,map_nil,h0,h1,h2,h3,gi,push_cast,go_sem_proc]<;>rfl);(with_reducible exact hx);(·rfl)) | (with_reducible refine aD ?_));simp -implicitDefEqProofs only[go_sem]) | (with_reducible refine aA.mk ?_ ?_) | (with_reducible refine And.intro ?_ ?_) | ((with_reducible refine bz ?_);simp -implicitDefEqProofs only[TJ,push_cast,go_sem_proc]) | intro _)
 have JS:=t278 X (num l n) 119 [] [.bc [.bc [c0,c1,c2,c3,.fs (E.map .bool)]]] (fun x=> !oT (ga X E) x.1) rfl (by simp[ae,al,h0,h1,h2,h3,gi]) T2;have ey:(num l n).any (fun x=> !oT (ga X E) x.1)= !lu (ga X E) l:=by
  rw[xa];clear h T2 JS;induction l generalizing n with
  | nil=>rfl
  | cons s l ih=>simp only[num,any_cons,all_cons,ih,Bool.not_and]
 rw[ey]at JS;refine af.intro ZY 100 (by simp) 20 ?_;simp -implicitDefEqProofs only[Tv,go_sem];repeat' (first | ((first | ((with_reducible refine bj JS ?_ ?_);(·simp[ae,al,cm,h0,h1,h2,h3,gi])) | ((with_reducible apply cj);(·simp -implicitDefEqProofs only[map_cons,map_nil,h0,h1,h2,h3,gi,push_cast,go_sem_proc]<;>rfl);(with_reducible exact JS);(·rfl)) | (with_reducible refine aD ?_));simp -implicitDefEqProofs only[go_sem]) | (with_reducible refine aA.mk ?_ ?_) | (with_reducible refine And.intro ?_ ?_) | ((with_reducible refine bz ?_);simp -implicitDefEqProofs only[Tw,push_cast,go_sem_proc]) | intro _)
 all_goals (try simp)
theorem t230 (X:List Pr) (E:List Bool) (hE:E.length=X.length) (c0 c1 c2 c3:V) (h0:al c0=true) (h1:al c1=true) (h2:al c2=true) (h3:al c3=true):∀(m:Nat) (l:List St),SizeOf.sizeOf l<m->uU X l=true->∀n:Int,
 af Tryz.prog 42 [.bc (lE c0 c1 c2 c3 E),.fs ((num l n).map (cb X))] (·=.bool (lu (ga X E) l))
 | 0,l,h=>absurd h (Nat.not_lt_zero _)
 | m+1,l,hm=>fun dx n=>T1 X E c0 c1 c2 c3 h0 h1 h2 h3 l n (fun x hx=>by
  have da:=Cj hx;have AL:=sE dx _ da;have hs:=sizeOf_lt_of_mem da;obtain⟨s,i⟩:=x;rcases s with⟨k,r,t,v,lb,⟨ek,en,es,aR⟩,a,b,p,ps⟩
  simp only[St.mk.sizeOf_spec]at hs;have vk:=AL;simp only[DL,Bool.and_eq_true]at vk;exact Ly X E hE c0 c1 c2 c3 h0 h1 h2 h3 k r t v lb ek en es aR a b p ps i AL (t230 X E hE c0 c1 c2 c3 h0 h1 h2 h3 m a (by omega) vk.2.1 _) (t230 X E hE c0 c1 c2 c3 h0 h1 h2 h3 m b (by omega) vk.2.2 _))
end Go.Proofs.YtdgoeblpcnjlbaaGreatDoor.Av

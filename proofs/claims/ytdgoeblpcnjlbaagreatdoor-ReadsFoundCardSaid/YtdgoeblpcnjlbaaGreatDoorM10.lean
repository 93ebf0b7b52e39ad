/- ReadsFound. Text 10 of 17. -/
import Derived.Test.YtdgoeblpcnjlbaaGreatDoorProg
import Derived.Test.YtdgoeblpcnjlbaaGreatDoorM9
set_option linter.all false
set_option maxRecDepth 100000
set_option maxHeartbeats 64000000
namespace Go.Proofs.YtdgoeblpcnjlbaaGreatDoor.Av
open Go.RowKit List
theorem OV.lt {H:List ak} {kv:V} {acc:List V} (h:OV H kv acc) {id:Nat} (hi:H.length<=id):a7 kv id:=by
 intro a b hk;rcases h with⟨_,rfl⟩ | ⟨_,i2,rfl,h3⟩
 ·cases hk
 ·injection hk with h4 _ _
  have:=(List.getElem?_eq_some_iff.1 h3).1;omega
theorem OV.frame {H H':List ak} {kv:V} {acc:List V} (h:OV H kv acc) (hf:∀id o n,kv=.ms id o n->id<H.length->H'[id]? =H[id]?):OV H' kv acc:=by
 rcases h with h | ⟨h1,id,h2,h3⟩
 ·exact .inl h
 ·exact .inr ⟨h1,id,h2,by rw[hf id _ _ h2 (List.getElem?_eq_some_iff.1 h3).1];exact h3⟩
structure G4 (H:List ak) (N:Nat) (ps:List Pr) (kvP:V) (bQ:List V):Prop where
 st:rG H (N+1) ⟨ps,[]⟩ kvP .ag bQ
 sep:Sep (N+1) (N+1) kvP .ag bQ
 z:H[N]? =some Z2
theorem fw (i:Nat):a7 .ag i:=fun _ _ h=>by cases h
theorem G4.w9 {H:List ak} {N:Nat} {ps:List Pr} {kvP:V} {bQ:List V} (h:G4 H N ps kvP bQ):∀kv∈kvP::bQ,∀id,H.length<=id->a7 kv id:=by
 intro kv eJ id hi;rcases List.mem_cons.1 eJ with rfl | hm
 ·exact h.st.qw.lt hi
 ·obtain⟨i,DF⟩:=List.mem_iff_getElem?.1 hm;have hl:i<ps.length:=by have:=(List.getElem?_eq_some_iff.1 DF).1;have:=h.st.len;simp only at this;omega
  exact(h.st.uT i ps[i] kv (List.getElem?_eq_getElem hl) DF).lt hi
theorem G4.frame {H H':List ak} {N:Nat} {ps:List Pr} {kvP kv1:V} {bQ:List V} (h:G4 H N ps kvP bQ) (hd:∀kv∈kvP::bQ,dj kv kv1) (h0:a7 kv1 N) (h1:a7 kv1 (N+1))
 (hf:∀j,N<=j->j<H.length->a7 kv1 j->H'[j]? =H[j]?):G4 H' N ps kvP bQ where
 st:={
  cell:=by rw[hf (N+1) (by omega) (List.getElem?_eq_some_iff.1 h.st.cell).1 h1];exact h.st.cell
  qw:=h.st.qw.frame fun id o n hk hl=>hf id (by
   by_cases hh:N<=id
   ·exact hh
   ·exact absurd hk (h.sep.ge kvP (by simp) id (by omega) _ _)) hl ((hd kvP (by simp)).ne hk)
  sD:=.inl ⟨rfl,rfl⟩
  len:=h.st.len
  uT:=fun i q kv h2 h3=>(h.st.uT i q kv h2 h3).frame fun id o n hk hl=>hf id (by
   by_cases hh:N<=id
   ·exact hh
   ·exact absurd hk (h.sep.ge kv (mem_of h3) id (by omega) _ _)) hl ((hd kv (by simp[List.mem_of_getElem? h3])).ne hk)}
 sep:=h.sep
 z:=by rw[hf N (Nat.le_refl _) (List.getElem?_eq_some_iff.1 h.z).1 h0];exact h.z
theorem Oe {ps:List Pr} {bQ:List V} (h:bQ.length=ps.length) (q:Pr) (kv:V):zw (ps++ [q]) (bQ++ [kv])=zw ps bQ++ [Cd q kv]:=by
 simp[zw,List.zipWith_append,h]
theorem G4.add {H H':List ak} {N:Nat} {ps:List Pr} {kvP jv fH:V} {bQ:List V} {q:Pr} (h:G4 H N ps kvP bQ) (hd:∀kv∈kvP::bQ,dj kv fH) (h2:OV H fH (q.steps.map encS)) (hn:∀i,i<N+2->a7 fH i)
 (bm:OV H' jv (zw ps bQ++ [Cd q fH])) (cp:∀j,j<H.length->a7 kvP j->H'[j]? =H[j]? /\a7 jv j) (hle:H.length<=H'.length):
 G4 (H'.set (N+1) (.row [.agg [jv,.ag]])) N (ps++ [q]) jv (bQ++ [fH]):=by
 have QH:N+1<H.length:=(List.getElem?_eq_some_iff.1 h.st.cell).1;have Of:∀i,i<N+2->a7 kvP i:=fun i hi=>by
  by_cases hh:i<N+1
  ·exact h.sep.ge kvP (by simp) i hh
  ·obtain rfl:i=N+1:=by omega
   exact h.sep.ne kvP (by simp)
 have hlen:bQ.length=ps.length:=h.st.len;have Oc:dj kvP fH:=hd kvP (by simp);have ne1:∀kv∈bQ++ [fH],a7 kv (N+1):=by
  intro kv eJ;rcases List.mem_append.1 eJ with hm | hm
  ·exact h.sep.ne kv (by simp[hm])
  ·simp at hm;subst hm;exact hn _ (by omega)
 have Lt:∀(i:Nat) q' kv,(ps++ [q])[i]? =some q'->(bQ++ [fH])[i]? =some kv->OV H kv (q'.steps.map encS):=by
  intro i q' kv h3 h4;by_cases hi:i<ps.length
  ·rw[List.getElem?_append_left hi]at h3;rw[List.getElem?_append_left (by omega)]at h4;exact h.st.uT i q' kv h3 h4
  ·rw[List.getElem?_append_right (by omega)]at h3 h4;obtain rfl:i=ps.length:=by
    have:=(List.getElem?_eq_some_iff.1 h3).1;simp at this;omega
   simp at h3;simp[hlen]at h4;subst h3;subst h4;exact h2
 have djP:∀kv∈bQ++ [fH],dj kvP kv:=by
  intro kv eJ;rcases List.mem_append.1 eJ with hm | hm
  ·exact(List.pairwise_cons.1 h.sep.pw).1 kv (by simp[hm])
  ·simp at hm;subst hm;exact Oc
 have ZV:∀kv∈bQ++ [fH],dj jv kv:=by
  intro kv eJ id;by_cases hk:a7 kv id
  ·exact .inr hk
  ·left;obtain⟨i,hi⟩:=List.mem_iff_getElem?.1 eJ;have dF:i<(ps++ [q]).length:=by have:=(List.getElem?_eq_some_iff.1 hi).1;simp at this⊢;omega
   have ho:=Lt i _ kv (List.getElem?_eq_getElem dF) hi;have jl:id<H.length:=by
    by_cases hh:id<H.length
    ·exact hh
    ·exact absurd (ho.lt (by omega)) hk
   rcases djP kv eJ id with h5 | h5
   ·exact(cp id jl h5).2
   ·exact absurd h5 hk
 refine⟨⟨?_,?_,.inl ⟨rfl,rfl⟩,by simp[hlen],?_⟩,⟨?_,?_,?_⟩,?_⟩
 ·rw[List.getElem?_set,if_pos rfl,if_pos (by omega)]
 ·show OV _ _ (zw (ps++ [q]) (bQ++ [fH]));rw[Oe hlen];exact bm.ju (cp (N+1) QH (Of _ (by omega))).2
 ·intro i q' kv h3 h4;have hm:kv∈bQ++ [fH]:=List.mem_of_getElem? h4;refine((Lt i q' kv h3 h4).frame fun id o n hk hl=> ?_).ju (ne1 kv hm);exact(cp id hl ((djP kv hm).ne' hk)).1
 ·rw[List.pairwise_cons,List.pairwise_cons];refine⟨?_,fun _ _ id=> .inl (fw id),?_⟩
  ·intro kv eJ;rcases List.mem_cons.1 eJ with rfl | hm
   ·exact fun id=> .inr (fw id)
   ·exact ZV kv hm
  ·rw[List.pairwise_append];refine⟨(List.pairwise_cons.1 (List.pairwise_cons.1 h.sep.pw).2).2,by simp,?_⟩;intro x hx y hy;simp at hy;subst hy;exact hd x (by simp[hx])
 ·intro kv eJ i hi;rcases List.mem_cons.1 eJ with rfl | hm
  ·exact(cp i (by omega) (Of i (by omega))).2
  ·rcases List.mem_cons.1 hm with rfl | hm
   ·exact fw i
   ·rcases List.mem_append.1 hm with hm | hm
    ·exact h.sep.ge kv (by simp[hm]) i hi
    ·simp at hm;subst hm;exact hn i (by omega)
 ·intro kv eJ;rcases List.mem_cons.1 eJ with rfl | hm
  ·exact(cp (N+1) QH (Of _ (by omega))).2
  ·rcases List.mem_cons.1 hm with rfl | hm
   ·exact fw _
   ·exact ne1 kv hm
 ·rw[List.getElem?_set,if_neg (by omega),(cp N (by omega) (Of N (by omega))).1];exact h.z
theorem DG (ps:List Pr) (bQ:List V):df 3 (zw ps bQ):=by
 intro e he;cases ps with
 | nil=>simp[zw]at he
 | cons q ps=>
  cases bQ with
  | nil=>simp[zw]at he
  | cons kv bQ=>simp[zw]at he;subst he;simp[Cd,aw]
theorem Gp {L:List Int} {ca N:Nat} {T:Nat->List ak} (hT:MS L ca N T) (a:Nat) (J:List ak) (jb:Nat) (nm:ByteArray) (rs:List ByteArray) (zs:List St) (ps:List Pr) (kvP fH:V) (bQ:List V) (e:Env) (m:Nat) (k:fW)
 (hG:G4 (T a++J) N ps kvP bQ) (hb:J[jb]? =some (.row [.agg [.str nm,.fs (rs.map .str)]])) (e3:e 3=.ptr (N+1) 0 0) (e8:e 8=.ptr (N+jb) 0 0) (e9:e 9=fH) (bJ:OV (T a++J) fH (zs.map encS))
 (hd:∀kv∈kvP::bQ,dj kv fH) (hn:∀i,i<N+2->a7 fH i) (cR:ps.length<=100)
 (hk:∀p e' jv J',(∀x,x<61->e' x=e x)->G4 (T a++J') N (ps++ [⟨nm,rs,zs⟩]) jv (bQ++ [fH])->F Tryz.prog (p+20) (.app k .normal e' (T a++J'))):
 F Tryz.prog (m+100) (.code sB e (T a++J) k):=by
 have cr:=hG.st.cell;rw[hT.tok.bT]at cr;have ba:=hG.st.qw.cS;simp only[V.one]at ba;have cP:=hG.st.qw.one;have cY:=bJ.cS;simp only[V.one]at cY;have j8:=bJ.one;have zS:=w7 hG.st.len;simp only at zS;simp -implicitDefEqProofs only[sB,e3,e8,e9,cr,hb,hT.tok.len,hT.tok.bW,hT.tok.bT,hT.tok.aZ,hT.tok.aW,hT.tok.get,ba,cP,cY,j8,go_sem];refine⟨by rcases bJ with⟨_,rfl⟩ | ⟨_,_,rfl,_⟩<;>rfl,?_⟩
 refine cu hG.st.qw ?_ (DG _ _) ?_ ?_
 ·intro i o l h;cases h
 ·simp only[List.length_cons,List.length_nil,zS];omega
 intro jv H' bo hle cp;have Xe:N+2<=(T a++J).length:=(List.getElem?_eq_some_iff.1 hG.st.cell).1;have Of:∀i,i<N+2->a7 kvP i:=fun i hi=>by
  by_cases hh:i<N+1
  ·exact hG.sep.ge kvP (by simp) i hh
  ·obtain rfl:i=N+1:=by omega
   exact hG.sep.ne kvP (by simp)
 obtain⟨J',rfl⟩:=gP (H:=H') (A:=T a) (by rw[List.length_append]at hle;omega) (fun j hj=>by
  have yE:j<N:=by rw[hT.tok.len]at hj;exact hj
  rw[(cp j (by omega) (Of j (by omega))).1,List.getElem?_append_left hj])
 have qY:J'[1]? =some (.row [.agg [kvP,.ag]]):=by
  rw[<-hT.tok.bT a J' 1,(cp (N+1) (by omega) (Of _ (by omega))).1,hT.tok.bT];exact cr
 have hone':=bo.cS;simp only[V.one]at hone';have gQ:=bo.one;have Tn:=hG.add (q:=⟨nm,rs,zs⟩) hd bJ hn bo cp hle;rw[hT.tok.aW]at Tn;simp -implicitDefEqProofs only[sB,e3,e8,e9,qY,hT.tok.len,hT.tok.bW,hT.tok.bT,hT.tok.aZ,hT.tok.aW,hT.tok.get,hone',gQ,go_sem];refine hk _ _ jv _ ?_ Tn;intro x hx;simp(disch:=omega) only[oy]
theorem Sep.weaken {ny N M:Nat} {kvP dO:V} {bQ:List V} (h:Sep ny N kvP dO bQ) (hm:M<=N):Sep ny M kvP dO bQ:=⟨h.pw,fun kv hk i hi=>h.ge kv hk i (by omega),h.ne⟩
theorem G4.tail {A B X:List ak} {N:Nat} {ps:List Pr} {kvP:V} {bQ:List V} (h:G4 (A++X) N ps kvP bQ) (hA:A.length=N) (hB:B.length=N):G4 (B++X) N ps kvP bQ where
 st:=h.st.tail (h.sep.weaken (by omega)) hA hB
 sep:=h.sep
 z:=by
  have:=h.z;rw[List.getElem?_append_right (by omega),hA]at this;rw[List.getElem?_append_right (by omega),hB];exact this
theorem G4.app {H:List ak} {N:Nat} {ps:List Pr} {kvP:V} {bQ:List V} (h:G4 H N ps kvP bQ) (X:List ak):G4 (H++X) N ps kvP bQ:=
 h.frame (kv1:=.ag) (fun _ _ id=> .inr (fw id)) (fw _) (fw _) (fun j _ hj _=>List.getElem?_append_left hj)
theorem AH {A:List ak} {xs:List St} {n:Nat} (hn:A.length=n):OV (A++nw xs) (ox n xs) (xs.map encS):=by
 by_cases hx:xs=[]
 ·subst hx;exact .inl ⟨rfl,rfl⟩
 ·refine .inr ⟨by simpa using hx,n,by simp[ox,hx],?_⟩;rw[List.getElem?_append_right (by omega),hn];simp[nw,hx]
theorem kX {xs:List St} {n i:Nat} (h:i≠n):a7 (ox n xs) i:=by
 intro a b hk;unfold ox at hk
 split at hk
 ·cases hk
 ·injection hk with h1;exact h h1.symm
def A4 (L:List Int) (ax:List Hd) (nm:ByteArray) (rs:List ByteArray) (a1:Nat) (mW zs:List St) (a3:Nat):Prop:=
 ∀(ca N:Nat) (T:Nat->List ak),MS L ca N T->∀(J:List ak) (jb:Nat) (ps:List Pr) (kvP kv1:V) (bQ:List V) (e:Env) (m:Nat) (k:fW),
  G4 (T a1++J) N ps kvP bQ->J[jb]? =some (.row [.agg [.str nm,.fs (rs.map .str)]])->e 0=.ptr ca 0 0->e 3=.ptr (N+1) 0 0->e 4=.fs (ax.map dH)->e 8=.ptr (N+jb) 0 0->e 9=kv1->
  OV (T a1++J) kv1 (mW.map encS)->(∀kv∈kvP::bQ,dj kv kv1)->(∀i,i<N+2->a7 kv1 i)->a7 kv1 (N+jb)->ps.length<=100->
  (∀p e' jv fH J',(∀x,x<44->x≠9->e' x=e x)->G4 (T a3++J') N (ps++ [⟨nm,rs,zs⟩]) jv (bQ++ [fH])->F Tryz.prog (p+20) (.app k .normal e' (T a3++J')))->
  F Tryz.prog (m+300) (.code pU e (T a1++J) k)
theorem Og (L:List Int) (ax:List Hd) (nm:ByteArray) (rs:List ByteArray) (a1:Nat) (ha:a1<=100000) (mW:List St) (v:Int) (hv:dz L a1 6=v) (h0:¬v=0) (h1:¬v=1) (h2:¬v=2):A4 L ax nm rs a1 mW mW (a1+1):=by
 intro ca N T hT J jb ps kvP kv1 bQ e m k hG hb e0 e3 e4 e8 e9 bm hd hn DH cR hk;have f1:=t16 L a1 6 (by omega);rw[hv]at f1;have Oh:=hG.tail (hT.tok.len _) (hT.tok.len (a1+1));have bo:=bm.tail (hT.tok.len _) (fun i hi=>hn i (by omega)) (hT.tok.len (a1+1));simp -implicitDefEqProofs only[pU,e0,e3,e4,e8,e9,hT.tok.len,hT.tok.bW,hT.tok.bT,hT.tok.aZ,hT.tok.aW,hT.tok.get,h0,h1,h2,go_sem];repeat' (first | ((first | (with_reducible refine bR ((f1.at hT _)) ?_) | (with_reducible refine aD ?_));simp -implicitDefEqProofs only[e0,e3,e4,e8,e9,hT.tok.len,hT.tok.bW,hT.tok.bT,hT.tok.aZ,hT.tok.aW,hT.tok.get,h0,h1,h2,go_sem]) | (with_reducible refine aA.mk ?_ ?_) | (with_reducible refine And.intro ?_ ?_) | ((with_reducible refine bz ?_);simp -implicitDefEqProofs only[EL,hT.tok.len,hT.tok.bW,hT.tok.bT,hT.tok.aZ,hT.tok.aW,hT.tok.get,push_cast,go_sem_proc]) | intro _)
 refine Gp hT (a1+1) J jb nm rs mW ps kvP kv1 bQ _ _ k Oh hb (by simp[az,e3]) (by simp[az,e8]) (by simp[az,e9]) bo hd hn cR (fun p e' jv J' kd Gq=>hk p e' jv kv1 J' ?_ Gq);intro x hx hx9;rw[kd x (by omega)];simp(disch:=omega) only[oy]
theorem Oi (L:List Int) (ax:List Hd) (nm:ByteArray) (rs:List ByteArray) (a1:Nat) (ha:a1<=100000) (mW AI:List St) (a2:Nat) (hv:dz L a1 6=2)
 (gy:Zx 37 L (a1+1) [.fs (rs.map .str),.int .i64 2,.int .i64 3,.fs (ax.map dH)] AI a2):A4 L ax nm rs a1 mW AI a2:=by
 intro ca N T hT J jb ps kvP kv1 bQ e m k hG hb e0 e3 e4 e8 e9 bm hd hn DH cR hk;have f1:=t16 L a1 6 (by omega);rw[hv]at f1;have Oh:=(hG.tail (hT.tok.len _) (hT.tok.len a2)).app (nw AI);have Oj:=gy ca (N+J.length) _ (hT.app J);have vg:2<=J.length:=by
  have:=(List.getElem?_eq_some_iff.1 hG.st.cell).1;rw[List.length_append,hT.tok.len]at this;omega
 have bJ:OV (T a2++J++nw AI) (ox (N+J.length) AI) (AI.map encS):=AH (by rw[List.length_append,hT.tok.len]);have l3:∀kv∈kvP::bQ,dj kv (ox (N+J.length) AI):=by
  intro kv eJ id;by_cases hid:id=N+J.length
  ·left;exact hG.w9 kv eJ id (by rw[List.length_append,hT.tok.len];omega)
  ·right;exact kX hid
 have Qr:(J++nw AI)[jb]? =some (.row [.agg [.str nm,.fs (rs.map .str)]]):=by rw[List.getElem?_append_left (List.getElem?_eq_some_iff.1 hb).1];exact hb
 rw[List.append_assoc]at Oh bJ;simp -implicitDefEqProofs only[pU,e0,e3,e4,e8,e9,hT.tok.len,hT.tok.bW,hT.tok.bT,hT.tok.aZ,hT.tok.aW,hT.tok.get,Int.reduceEq,go_sem];repeat' (first | ((first | (with_reducible first | refine bR ((f1.at hT _)) ?_ | refine bR Oj ?_) | (with_reducible refine aD ?_));simp -implicitDefEqProofs only[e0,e3,e4,e8,e9,hb,hT.tok.len,hT.tok.bW,hT.tok.bT,hT.tok.aZ,hT.tok.aW,hT.tok.get,Int.reduceEq,go_sem]) | (with_reducible refine aA.mk ?_ ?_) | (with_reducible refine And.intro ?_ ?_) | ((with_reducible refine bz ?_);simp -implicitDefEqProofs only[EL,hT.tok.len,hT.tok.bW,hT.tok.bT,hT.tok.aZ,hT.tok.aW,hT.tok.get,push_cast,go_sem_proc]) | intro _)
 refine Gp hT a2 (J++nw AI) jb nm rs AI ps kvP (ox (N+J.length) AI) bQ _ _ k Oh Qr (by simp[az,e3]) (by simp[az,e8]) (by simp[az]) bJ l3 (fun i hi=>kX (by omega)) cR (fun p e' jv J' kd Gq=>hk p e' jv _ J' ?_ Gq);intro x hx hx9;rw[kd x (by omega)];simp(disch:=omega) only[oy]
theorem Ol (L:List Int) (ax:List Hd) (nm:ByteArray) (rs:List ByteArray) (a1:Nat) (ha:a1<=100000) (mW:List St) (hx1:mW.length<=100000) (x:St) (a2:Nat) (v:Int) (hv:dz L a1 6=v) (Gr:v=0\/v=1)
 (ea:MC 39 L (a1+1) [dH (nm,rs)] (.fs [encS x]) a2):A4 L ax nm rs a1 mW (mW++ [x]) a2:=by
 intro ca N T hT J jb ps kvP kv1 bQ e m k hG hb e0 e3 e4 e8 e9 bm hd hn DH cR hk;have f1:=t16 L a1 6 (by omega);rw[hv]at f1;simp only[dH]at ea;have Oh:=(hG.tail (hT.tok.len _) (hT.tok.len a2));have bo:=bm.tail (hT.tok.len _) (fun i hi=>hn i (by omega)) (hT.tok.len a2);have vg:2<=J.length:=by
  have:=(List.getElem?_eq_some_iff.1 hG.st.cell).1;rw[List.length_append,hT.tok.len]at this;omega
 rcases Gr with rfl | rfl
 all_goals
  simp -implicitDefEqProofs only[pU,e0,e3,e4,e8,e9,hT.tok.len,hT.tok.bW,hT.tok.bT,hT.tok.aZ,hT.tok.aW,hT.tok.get,Int.reduceEq,go_sem];repeat' (first | ((first | (with_reducible first | refine bR ((f1.at hT _)) ?_ | refine bR ((ea.at hT _)) ?_) | (with_reducible refine aD ?_));simp -implicitDefEqProofs only[e0,e3,e4,e8,e9,hb,hT.tok.len,hT.tok.bW,hT.tok.bT,hT.tok.aZ,hT.tok.aW,hT.tok.get,Int.reduceEq,go_sem]) | (with_reducible refine aA.mk ?_ ?_) | (with_reducible refine And.intro ?_ ?_) | ((with_reducible refine bz ?_);simp -implicitDefEqProofs only[EL,hT.tok.len,hT.tok.bW,hT.tok.bT,hT.tok.aZ,hT.tok.aW,hT.tok.get,push_cast,go_sem_proc]) | intro _)
 all_goals first
  | (obtain⟨k,r,t,vv,l,⟨ek,en,es,aR⟩,sa,sb,p,ps⟩:=x;rw[ay];rfl)
  | skip
 all_goals refine cu bo ?_ (cx _) ?_ ?_
 all_goals first
  | (intro i o l h;cases h;done)
  | (simp;omega)
  | skip
 all_goals
  intro fH H' bJ hle cp;have Ik:(T a2++J).length=N+J.length:=by rw[List.length_append,hT.tok.len]
  obtain⟨J',rfl⟩:=gP (H:=H') (A:=T a2) (by rw[hT.tok.len];omega) (fun j hj=>by
   have yE:j<N:=by rw[hT.tok.len]at hj;exact hj
   rw[(cp j (by omega) (hn j (by omega))).1,List.getElem?_append_left hj])
  have Gq:G4 (T a2++J') N ps kvP bQ:=Oh.frame hd (hn N (by omega)) (hn (N+1) (by omega)) (fun j _ hj dr=>(cp j hj dr).1);have l3:∀kv∈kvP::bQ,dj kv fH:=by
   intro kv eJ id;by_cases hid:id<(T a2++J).length
   ·rcases hd kv eJ id with h | h
    ·exact .inl h
    ·exact .inr (cp id hid h).2
   ·exact .inl (Oh.w9 kv eJ id (by omega))
  have nY:∀i,i<N+2->a7 fH i:=fun i hi=>(cp i (by omega) (hn i hi)).2
  have Qr:J'[jb]? =some (.row [.agg [.str nm,.fs (rs.map .str)]]):=by
   have oN:=(List.getElem?_eq_some_iff.1 hb).1;rw[<-hT.tok.bT a2 J' jb,(cp (N+jb) (by omega) DH).1,hT.tok.bT];exact hb
  simp -implicitDefEqProofs only[e0,e3,e4,e8,e9,Int.reduceEq,go_sem];refine Gp hT a2 J' jb nm rs (mW++ [x]) ps kvP fH bQ _ _ k Gq Qr (by simp[az,e3]) (by simp[az,e8]) (by simp[az]) (by simpa using bJ) l3 nY cR (fun p e' jv J' kd Gq=>hk p e' jv _ J' ?_ Gq);intro x hx hx9;rw[kd x (by omega)];simp(disch:=omega) only[oy]
def B4 (L:List Int) (ax:List Hd) (j a:Nat) (zs:List St) (a3:Nat):Prop:=
 ∀(ca N:Nat) (T:Nat->List ak),MS L ca N T->∀(J:List ak) (ps:List Pr) (kvP:V) (bQ:List V) (e:Env) (m:Nat) (k:fW),
  G4 (T a++J) N ps kvP bQ->ps.length<=100->e 0=.ptr ca 0 0->e 3=.ptr (N+1) 0 0->e 4=.fs (ax.map dH)->e 29=.fs (ax.map dH)->e 30=.int .i64 ax.length->e 31=.int .i64 j->
  (∀p e' jv fH J',(∀x,x<31->x≠7->x≠8->x≠9->e' x=e x)->e' 31=.int .i64 ((j+1:Nat):Int)->G4 (T a3++J') N (ps++ [⟨(ax.getD j (em,[])).1,(ax.getD j (em,[])).2,zs⟩]) jv (bQ++ [fH])->F Tryz.prog (p+1) (.app k .normal e' (T a3++J')))->
  F Tryz.prog (m+500) (.code yT e (T a++J) k)
theorem b4 (L:List Int) (ax:List Hd) (hh:ax.length<=10) (j a:Nat) (hj:j<ax.length) (mW zs:List St) (a1 a3:Nat)
 (gy:Zx 37 L a [.fs ((ax.getD j (em,[])).2.map .str),.int .i64 2,.int .i64 3,.fs ((ax.drop (j+1)).map dH)] mW a1)
 (hA:A4 L ax (ax.getD j (em,[])).1 (ax.getD j (em,[])).2 a1 mW zs a3):B4 L ax j a zs a3:=by
 intro ca N T hT J ps kvP bQ e m k hG cR e0 e3 e4 Lu Lv Lw hk;have vj:(ax.map dH).getD j .any=dH (ax.getD j (em,[])):=by simp[List.getD,hj]
 generalize ax.getD j (em,[])=hd at*;obtain⟨nm,rs⟩:=hd;simp only[dH]at vj;simp only at gy hA hk;have ct:((j:Int)<ax.length):=by omega
 have gj:iD (j:Int) ax.length=True:=by simp[iD];omega
 have fS:IntKind.i64.wrap ((j:Int)+1)=((j+1:Nat):Int):=bG (by omega);have AA:j+1<=ax.length:=hj;have Oj:=gy ca (N+(J++ [ak.row [.agg [.str nm,.fs (rs.map .str)]]]).length) _ (hT.app (J++ [ak.row [.agg [.str nm,.fs (rs.map .str)]]]));have yZ:(ax.map dH).take ax.length=ax.map dH:=List.take_of_length_le (by simp);have To:(ax.map dH).drop (j+1)=(ax.drop (j+1)).map dH:=by rw[List.map_drop]
 have dx:df 2 (ax.map dH):=cA dH 2 (fun _=>rfl) _;have rZ:(((j+1:Nat):Int)<=ax.length):=by omega
 have Tp:(0<=((j+1:Nat):Int)):=by omega
 simp -implicitDefEqProofs only[yT,e0,e3,e4,Lu,Lv,Lw,ct,gj,vj,fS,hT.tok.len,hT.tok.bW,hT.tok.bT,hT.tok.aZ,hT.tok.aW,hT.tok.get,hT.tok.set,yZ,To,dx,rZ,Tp,Int.le_refl,go_sem];repeat' (first | ((first | (with_reducible refine bR Oj ?_) | (with_reducible refine aD ?_));simp -implicitDefEqProofs only[e0,e3,e4,Lu,Lv,Lw,ct,gj,vj,fS,hT.tok.len,hT.tok.bW,hT.tok.bT,hT.tok.aZ,hT.tok.aW,hT.tok.get,hT.tok.set,yZ,To,dx,rZ,Tp,Int.le_refl,go_sem]) | (with_reducible refine aA.mk ?_ ?_) | (with_reducible refine And.intro ?_ ?_) | ((with_reducible refine bz ?_);simp -implicitDefEqProofs only[EL,hT.tok.len,hT.tok.bW,hT.tok.bT,hT.tok.aZ,hT.tok.aW,hT.tok.get,push_cast,go_sem_proc]) | intro _)
 have Ik:(T a++J).length=N+J.length:=by rw[List.length_append,hT.tok.len]
 have vg:N+2<=N+J.length:=by
  have:=(List.getElem?_eq_some_iff.1 hG.st.cell).1;omega
 have hG1:G4 (T a1++(J++ak.row [.agg [.str nm,.fs (rs.map .str)]]::nw mW)) N ps kvP bQ:=by
  have:=(hG.tail (hT.tok.len _) (hT.tok.len a1)).app (ak.row [.agg [.str nm,.fs (rs.map .str)]]::nw mW);rwa[List.append_assoc]at this
 have bm:OV (T a1++(J++ak.row [.agg [.str nm,.fs (rs.map .str)]]::nw mW)) (ox (N+(J.length+1)) mW) (mW.map encS):=by
  have:=AH (A:=T a1++(J++ [ak.row [.agg [.str nm,.fs (rs.map .str)]]])) (xs:=mW) (n:=N+(J.length+1)) (by simp[hT.tok.len]);simpa using this
 have hd:∀kv∈kvP::bQ,dj kv (ox (N+(J.length+1)) mW):=by
  intro kv eJ id;by_cases hid:id=N+(J.length+1)
  ·left;exact hG.w9 kv eJ id (by omega)
  ·right;exact kX hid
 refine hA ca N T hT (J++ak.row [.agg [.str nm,.fs (rs.map .str)]]::nw mW) J.length ps kvP _ bQ _ _ _ hG1 (by simp) (by simp[az,e0]) (by simp[az,e3]) (by simp[az,e4]) (by simp[az]) (by simp[az]) bm hd (fun i hi=>kX (by omega)) (kX (by omega)) cR ?_;intro p e' jv fH J' kd Gq;have f31:e' 31=.int .i64 j:=(kd 31 (by omega) (by omega)).trans (by simp[az,Lw]);simp -implicitDefEqProofs only[f31,fS,go_sem];refine hk _ _ jv fH J' ?_ (by simp[az]) Gq;intro x hx h7 h8 h9;simp(disch:=omega) only[oy];rw[kd x (by omega) h9];simp(disch:=omega) only[oy]
theorem Tq (L:List Int) (ax:List Hd) (hh:ax.length<=10) (oS:∀h∈ax,2<=h.2.length/\h.2.length<=3) (j a:Nat) (hj:j<ax.length) (ha:a<=60000):
 ∃zs a3,a<=a3/\a3<=a+10000/\dn zs<=6000/\B4 L ax j a zs a3:=by
 have hc:cW 2=1652:=by decide
 have da:ax.getD j (em,[])∈ax:=by simp[List.getD,hj]
 obtain⟨Bu,lJ⟩:=oS _ da;obtain⟨mW,a1,g1,g2,g3,g4⟩:=t15 L (ax.getD j (em,[])).2 (ax.drop (j+1)) (by omega) (by omega) (by simp;omega) (fun h hm=>by have:=oS h (List.mem_of_mem_drop hm);omega) 2 220000 (by omega) (by omega) (by omega) 3 a (by omega) (by omega) (by omega);simp only[hc]at g2 g3;have g2':a1<=a+1+3*1652:=g2;have g3':dn mW<=3*1652:=g3;clear g2 g3;have hb:=cq (L:=L) (a:=a1) (n:=6) (by omega) (by omega);have uN:=jQ mW;by_cases Gr:dz L a1 6=0\/dz L a1 6=1
 ·obtain⟨x,a2,k1,k2,k3,k4⟩:=t17 L (a1+1) (by omega) (ax.getD j (em,[])) Bu (by omega);refine⟨mW++ [x],a2,by omega,by omega,?_,b4 L ax hh j a hj mW _ a1 a2 g4.S3 (Ol L ax _ _ a1 (by omega) mW (by omega) x a2 _ rfl Gr k4)⟩;rw[cB];simp only[dn];omega
 ·by_cases I4:dz L a1 6=2
  ·obtain⟨AI,a2,k1,k2,k3,k4⟩:=t15 L (ax.getD j (em,[])).2 ax (by omega) (by omega) hh (fun h hm=>by have:=oS h hm;omega) 2 220000 (by omega) (by omega) (by omega) 3 (a1+1) (by omega) (by omega) (by omega);simp only[hc]at k2 k3;have k2':a2<=a1+1+1+3*1652:=k2;have k3':dn AI<=3*1652:=k3;clear k2 k3;exact⟨AI,a2,by omega,by omega,by omega,b4 L ax hh j a hj mW _ a1 a2 g4.S3 (Oi L ax _ _ a1 (by omega) mW AI a2 I4 k4.S3)⟩
  ·exact⟨mW,a1+1,by omega,by omega,by omega,b4 L ax hh j a hj mW _ a1 _ g4.S3 (Og L ax _ _ a1 (by omega) mW _ rfl (fun h=>Gr (.inl h)) (fun h=>Gr (.inr h)) I4)⟩
theorem JO {α:Type} (x0:α) {P:Nat->Nat->α->Prop} {n M:Nat} (h:∀j,j<n->∀a,a<=M->∃x,P j a x):∃f:Nat->Nat->α,∀j,j<n->∀a,a<=M->P j a (f j a):=by
 have:∀j,∃g:Nat->α,j<n->∀a,a<=M->P j a (g a):=fun j=>by
  by_cases hj:j<n
  ·obtain⟨g,hg⟩:=iW x0 (h j hj);exact⟨g,fun _=>hg⟩
  ·exact⟨fun _=>x0,fun h=>absurd h hj⟩
 exact⟨fun j=>(this j).choose,fun j hj=>(this j).choose_spec hj⟩
def sq (ax:List Hd) (f:Nat->Nat->List St×Nat) (a:Nat):Nat->List Pr×Nat
 | 0=>([],a)
 | j+1=>((sq ax f a j).1++ [⟨(ax.getD j (em,[])).1,(ax.getD j (em,[])).2,(f j (sq ax f a j).2).1⟩],(f j (sq ax f a j).2).2)
theorem Tr (L:List Int) (ax:List Hd) (hh:ax.length<=3) (oS:∀h∈ax,2<=h.2.length/\h.2.length<=3) (a:Nat) (ha:a<=1000):
 ∃ps a',a<=a'/\a'<=a+30000/\lM ps<=20000/\ps.length<=3/\∀(ca N:Nat) (T:Nat->List ak),MS L ca N T->∀(J:List ak) (e:Env) (m:Nat) (k:fW),
  G4 (T a++J) N [] .ag []->e 0=.ptr ca 0 0->e 2=.ptr N 0 0->e 3=.ptr (N+1) 0 0->e 4=.fs (ax.map dH)->e 29=.fs (ax.map dH)->e 30=.int .i64 ax.length->e 31=.int .i64 0->
  (∀p e' kvP bQ J',m<=p->e' 0=.ptr ca 0 0->e' 2=.ptr N 0 0->e' 3=.ptr (N+1) 0 0->e' 4=.fs (ax.map dH)->G4 (T a'++J') N ps kvP bQ->F Tryz.prog (p+3) (.app k (.exit 2) e' (T a'++J')))->
  F Tryz.prog (m+520) (.code (.loop yT) e (T a++J) k):=by
 obtain⟨f,hf⟩:∃f:Nat->Nat->List St×Nat,∀j,j<ax.length->∀a,a<=60000->a<=(f j a).2/\(f j a).2<=a+10000/\dn (f j a).1<=6000/\B4 L ax j a (f j a).1 (f j a).2:=by
  have h:∀j,j<ax.length->∀a,a<=60000->∃x:List St×Nat,a<=x.2/\x.2<=a+10000/\dn x.1<=6000/\B4 L ax j a x.1 x.2:=fun j hj a ha=>by
   obtain⟨zs,a3,h1,h2,h3,h4⟩:=Tq L ax (by omega) oS j a hj ha;exact⟨(zs,a3),h1,h2,h3,h4⟩
  exact JO ([],0) h
 have WJ:∀j,j<=ax.length->a<=(sq ax f a j).2/\(sq ax f a j).2<=a+j*10000/\lM (sq ax f a j).1<=j*6003/\(sq ax f a j).1.length=j:=by
  intro j;induction j with
  | zero=>intro _;simp[sq,lM]
  | succ j ih=>
   intro hj;obtain⟨h1,h2,h3,h4⟩:=ih (by omega);obtain⟨g1,g2,g3,_⟩:=hf j (by omega) (sq ax f a j).2 (by omega);have da:ax.getD j (em,[])∈ax:=by
    have:j<ax.length:=by omega
    simp[List.getD,this]
   have:=(oS _ da).2;simp only[sq,fZ,lM,List.length_append,List.length_cons,List.length_nil];refine⟨by omega,by omega,by omega,by omega⟩
 obtain⟨q1,q2,q3,q4⟩:=WJ ax.length (Nat.le_refl _);refine⟨(sq ax f a ax.length).1,(sq ax f a ax.length).2,q1,by omega,by omega,by omega,?_⟩;intro ca N T hT J e m k hG e0 e2 e3 e4 Lu Lv Lw hk;refine aL (fun q e H=>∃j kvP bQ J,q=ax.length - j/\j<=ax.length/\e 0=.ptr ca 0 0/\e 2=.ptr N 0 0/\e 3=.ptr (N+1) 0 0/\e 4=.fs (ax.map dH)/\e 29=.fs (ax.map dH)/\e 30=.int .i64 ax.length/\e 31=.int .i64 (j:Nat)/\
  H=T (sq ax f a j).2++J/\G4 H N (sq ax f a j).1 kvP bQ) ax.length ?_ ?_
 ·exact⟨0,.ag,[],J,rfl,by omega,e0,e2,e3,e4,Lu,Lv,Lw,rfl,hG⟩
 rintro q e H ⟨j,kvP,bQ,J,rfl,hj,e0,e2,e3,e4,Lu,Lv,Lw,rfl,hG⟩;by_cases nZ:j=ax.length
 ·subst nZ;have j6:¬((ax.length:Int)<ax.length):=by omega
  simp -implicitDefEqProofs only[yT,e0,e2,e3,e4,Lu,Lv,Lw,j6,go_sem];exact hk _ _ kvP bQ J (by omega) (by simp[az,e0]) (by simp[az,e2]) (by simp[az,e3]) (by simp[az,e4]) hG
 ·obtain⟨h1,h2,h3,h4⟩:=WJ j hj;obtain⟨_,_,_,hB⟩:=hf j (by omega) (sq ax f a j).2 (by omega);refine hB ca N T hT J _ kvP bQ e _ _ hG (by omega) e0 e3 e4 Lu Lv Lw ?_;intro p e' jv fH J' kd f31 Gq;rw[wK];refine⟨ax.length - (j+1),by omega,j+1,jv,bQ++ [fH],J',rfl,by omega,(kd 0 (by omega) (by omega) (by omega) (by omega)).trans e0,(kd 2 (by omega) (by omega) (by omega) (by omega)).trans e2,(kd 3 (by omega) (by omega) (by omega) (by omega)).trans e3,(kd 4 (by omega) (by omega) (by omega) (by omega)).trans e4,
   (kd 29 (by omega) (by omega) (by omega) (by omega)).trans Lu,(kd 30 (by omega) (by omega) (by omega) (by omega)).trans Lv,f31,rfl,Gq⟩
theorem JP (H:List ak) (n:Nat) (h:Hd):fz H (n+2) (dH h)=some (dH h):=by
 unfold dH
 simp -implicitDefEqProofs only[push_cast,go_sem_proc]
theorem rG.ZW {H:List ak} {ny N i:Nat} {P:bH} {kvP dO:V} {bQ:List V} (h:rG H ny P kvP dO bQ) (hs:Sep ny N kvP dO bQ) (hi:i<N) (dr:i≠ny) (b:ak):rG (H.set i b) ny P kvP dO bQ where
 cell:=by rw[List.getElem?_set,if_neg dr];exact h.cell
 qw:=h.qw.ju (hs.ge kvP (by simp) i hi)
 sD:=h.sD.ju (hs.ge dO (by simp) i hi)
 len:=h.len
 uT j q kv h1 h2:=(h.uT j q kv h1 h2).ju (hs.ge kv (mem_of h2) i hi)
theorem G4.main {H:List ak} {N:Nat} {ps:List Pr} {kvP dO:V} {bQ:List V} {xs:List St} (h:G4 H N ps kvP bQ) (bm:OV H dO (xs.map encS)) (hd:∀kv∈kvP::bQ,dj kv dO) (hn:∀i,i<N+2->a7 dO i):
 rG (H.set (N+1) (.row [.agg [kvP,dO]])) (N+1) ⟨ps,xs⟩ kvP dO bQ/\Sep (N+1) (N+1) kvP dO bQ:=by
 refine⟨⟨?_,?_,?_,h.st.len,?_⟩,⟨?_,?_,?_⟩⟩
 ·rw[List.getElem?_set,if_pos rfl,if_pos (List.getElem?_eq_some_iff.1 h.st.cell).1]
 ·exact h.st.qw.ju (h.sep.ne kvP (by simp))
 ·exact bm.ju (hn _ (by omega))
 ·intro i q kv h1 h2;exact(h.st.uT i q kv h1 h2).ju (h.sep.ne kv (mem_of h2))
 ·rw[List.pairwise_cons,List.pairwise_cons];have hp:=List.pairwise_cons.1 h.sep.pw;have Xf:=List.pairwise_cons.1 hp.2;refine⟨?_,?_,Xf.2⟩
  ·intro kv eJ;rcases List.mem_cons.1 eJ with rfl | hm
   ·exact hd kvP (by simp)
   ·exact hp.1 kv (by simp[hm])
  ·intro kv eJ id;exact(hd kv (by simp[eJ]) id).symm
 ·intro kv eJ i hi;rcases List.mem_cons.1 eJ with rfl | hm
  ·exact h.sep.ge kv (by simp) i hi
  ·rcases List.mem_cons.1 hm with rfl | hm
   ·exact hn i (by omega)
   ·exact h.sep.ge kv (by simp[hm]) i hi
 ·intro kv eJ;rcases List.mem_cons.1 eJ with rfl | hm
  ·exact h.sep.ne kv (by simp)
  ·rcases List.mem_cons.1 hm with rfl | hm
   ·exact hn _ (by omega)
   ·exact h.sep.ne kv (by simp[hm])
def abc:List ByteArray:=[⟨#[97]⟩,⟨#[98]⟩,⟨#[99]⟩]
theorem t4 (L:List Int) (a:Nat) (ha:a<=500):∃P a',a<=a'/\a'<=a+80000/\iE P<=100000/\P.procs.length<=3/\MC 6 L a [] (aP P) a':=by
 have hhl:=w8 L a 3;have hhm:=Cg L a 3 (Nat.le_refl _);have hc:cW 3=6940:=by decide
 obtain⟨ps,a2,q1,q2,q3,q4,q5⟩:=Tr L (y0 L a 3) hhl hhm (a+3) (by omega);obtain⟨xs,a3,g1,g2,g3,g4⟩:=t15 L abc (y0 L a 3) (by decide) (by decide) (by omega) (fun h hm=>by have:=hhm h hm;omega) 3 100000 (by omega) (by omega) (by omega) 5 a2 (by omega) (by omega) (by omega);simp only[hc]at g2 g3;have g2':a3<=a2+1+5*6940:=g2;have g3':dn xs<=5*6940:=g3;clear g2 g3;have f1:=t14 L a3 12 (by omega);have hwp:iE ⟨ps,xs⟩<=60000:=by simp only[iE];omega
 have walk:∀(ca N:Nat) (T:Nat->List ak),MS L ca N T->∀(K:V->List ak->Prop),
  (∀(kvP dO:V) (bQ:List V) (J:List ak) (e:Env) (m:Nat),rG (T a3++J) (N+1) ⟨ps,xs⟩ kvP dO bQ->Sep (N+1) (N+1) kvP dO bQ->J[0]? =some Z2->e 0=.ptr ca 0 0->e 2=.ptr N 0 0->e 3=.ptr (N+1) 0 0->
    F Tryz.prog (m+200) (.code sC e (T a3++J) (fin Tryz.prog EL K)))->av Tryz.prog 6 [.ptr ca 0 0] (T a) K:=by
  intro ca N T hT K hK;refine av.intro cm4 2000 (by simp) ?_;simp -implicitDefEqProofs only[sm4,hT.tok.len,hT.tok.bW,hT.tok.bT,hT.tok.aZ,hT.tok.aW,hT.tok.get,go_sem];intro _;refine Tm L a (by omega) hT _ _ _ ?_ ?_ ?_ ?_ ?_ ?_ ?_ ?_
  ·simp[az,aC]
  ·simp[az]
  ·simp[az]
  ·simp[az]
  ·simp[az,jR,dH]
  ·simp[az]
  ·simp[az]
  intro p e' kv J hp e0 e2 e3 e4 bm fI;obtain⟨p,rfl⟩:∃q,p=q+1500:=⟨p - 1500,by omega⟩;simp -implicitDefEqProofs only[e0,e2,e3,e4,go_sem];have Om:(T (a+3)++ [Z2,Z2]).length=N+2:=by simp[hT.tok.len]
  have On:T (a+3)++Z2::Z2::J=(T (a+3)++ [Z2,Z2])++J:=by simp
  refine⟨List.range' (N+2) J.length,.fs ((y0 L a 3).map dH),?_,?_⟩
  ·rw[On,iz Om rfl];refine dw (f:=dH) (n:=18) (fun H x=>JP H 17 x) ?_;refine OV.tail (A:=T (a+3)++ [Z2,Z2]) (n:=N+2) (by simpa using bm) Om fI (by simp)
  ·rw[On,killL_tail2 Om rfl,List.append_assoc];generalize List.drop (N+2) _=J2;simp -implicitDefEqProofs only[e0,e2,e3,e4,go_sem];intro _;have hG0:G4 (T (a+3)++Z2::Z2::J2) N [] .ag []:=by
    refine⟨⟨?_,.inl ⟨rfl,rfl⟩,.inl ⟨rfl,rfl⟩,rfl,?_⟩,⟨?_,?_,?_⟩,?_⟩
    ·rw[hT.tok.bT];rfl
    ·intro i q kv h;simp at h
    ·simp[dj,a7]
    ·intro kv eJ i _;simp at eJ;subst eJ;exact fw i
    ·intro kv eJ;simp at eJ;subst eJ;exact fw _
    ·rw[hT.tok.bW];rfl
   refine q5 ca N T hT (Z2::Z2::J2) _ _ _ hG0 ?_ ?_ ?_ ?_ ?_ ?_ ?_ ?_
   ·simp[az,e0]
   ·simp[az,e2]
   ·simp[az,e3]
   ·simp[az]
   ·simp[az]
   ·simp[az]
   ·simp[az]
   intro p3 e3' kvP bQ J3 hp3 f0 f2 f3 f4 hG;obtain⟨p3,rfl⟩:∃q,p3=q+700:=⟨p3 - 700,by omega⟩;have Ik:(T a2++J3).length=N+J3.length:=by rw[List.length_append,hT.tok.len]
   have cr:=hG.st.cell;have hz:=hG.z;rw[hT.tok.bT]at cr;rw[hT.tok.bW]at hz;have vg:2<=J3.length:=(List.getElem?_eq_some_iff.1 cr).1;have gy:=g4.S3 ca (N+J3.length) _ (hT.app J3);simp only[abc,List.map_cons,List.map_nil]at gy;have eT:∀X:List ak,(J3++X)[1]? =some (.row [.agg [kvP,.ag]]):=fun X=>by rw[List.getElem?_append_left (by omega)];exact cr
   have bJ:OV (T a3++J3++nw xs) (ox (N+J3.length) xs) (xs.map encS):=AH (by rw[List.length_append,hT.tok.len]);have l3:∀kv∈kvP::bQ,dj kv (ox (N+J3.length) xs):=by
    intro kv eJ id;by_cases hid:id=N+J3.length
    ·left;exact hG.w9 kv eJ id (by omega)
    ·right;exact kX hid
   have ba:=bJ.cS;simp only[V.one]at ba;have cP:=bJ.one;have pX:=hG.st.qw.cS;simp only[V.one]at pX;have QJ:=hG.st.qw.one;obtain⟨JQ,hS2⟩:=((hG.tail (hT.tok.len _) (hT.tok.len a3)).app (nw xs)).main bJ l3 (fun i hi=>kX (by omega));rw[List.append_assoc,hT.tok.aW]at JQ;have Jj:((J3++nw xs).set 1 (.row [.agg [kvP,ox (N+J3.length) xs]]))[0]? =some Z2:=by
    rw[List.getElem?_set_ne (by omega),List.getElem?_append_left (by omega)];exact hz
   simp -implicitDefEqProofs only[f0,f2,f3,f4,hT.tok.len,hT.tok.bW,hT.tok.bT,hT.tok.aZ,hT.tok.aW,hT.tok.get,go_sem];repeat' (first | ((first | (with_reducible refine bR gy ?_) | (with_reducible refine aD ?_));simp -implicitDefEqProofs only[f0,f2,f3,f4,hT.tok.len,hT.tok.bW,hT.tok.bT,hT.tok.aZ,hT.tok.aW,hT.tok.get,eT,ba,cP,pX,QJ,go_sem]) | (with_reducible refine aA.mk ?_ ?_) | (with_reducible refine And.intro ?_ ?_) | ((with_reducible refine bz ?_);simp -implicitDefEqProofs only[EL,hT.tok.len,hT.tok.bW,hT.tok.bT,hT.tok.aZ,hT.tok.aW,hT.tok.get,push_cast,go_sem_proc]) | intro _)
   exact hK kvP _ bQ _ _ _ JQ hS2 Jj (by simp[az,f0]) (by simp[az,f2]) (by simp[az,f3])
 have Ts:∀(ca N:Nat) (T:Nat->List ak),MS L ca N T->∀(b:Nat) (P:bH) (J:List ak) (kvP dO:V) (bQ:List V),rG (T b++J) (N+1) P kvP dO bQ->Sep (N+1) (N+1) kvP dO bQ->
  ∃X,T b++J.set 0 (.row [.agg [kvP,dO]])=T b++X/\∃r2,fz (List.replicate N .dead++X) 20 (.agg [kvP,dO])=some r2/\r2=aP P:=by
  intro ca N T hT b P J kvP dO bQ hP hS;refine⟨_,rfl,_,?_,rfl⟩;have h1:=hP.ZW hS (i:=N) (by omega) (by omega) (.row [.agg [kvP,dO]]);rw[hT.tok.aZ]at h1;exact(h1.tail (hS.weaken (by omega)) (hT.tok.len b) (by simp):rG (List.replicate N .dead++_) (N+1) P kvP dO bQ).Sl
 cases hb:decide (dz L a3 12=0)with
 | false=>
  rw[hb]at f1;refine⟨⟨ps,xs⟩,a3+1,by omega,by omega,by omega,q4,fun ca N T hT=>hT.rF (jM _) ?_⟩;refine walk ca N T hT _ (fun kvP dO bQ J e m hP hS hz e0 e2 e3=> ?_);have cr:=hP.cell;rw[hT.tok.bT]at cr;have pX:=hP.qw.cS;simp only[V.one]at pX;have QJ:=hP.qw.one;have vY:=hP.sD.cS;simp only[V.one]at vY;have Xg:=hP.sD.one;have ZX:=hP.tail (hS.weaken (by omega)) (hT.tok.len _) (hT.tok.len (a3+1));simp only[Z2]at hz;have Ff:∀b,(J.set 0 b)[0]? =some b:=fun b=>by simp[(List.getElem?_eq_some_iff.1 hz).1]
  simp -implicitDefEqProofs only[sC,e0,e2,e3,cr,hz,hT.tok.len,hT.tok.bW,hT.tok.bT,hT.tok.aZ,hT.tok.aW,hT.tok.get,go_sem];repeat' (first | ((first | (with_reducible refine bR ((f1.at hT _)) ?_) | (with_reducible refine aD ?_));simp -implicitDefEqProofs only[e0,e2,e3,cr,hz,hT.tok.len,hT.tok.bW,hT.tok.bT,hT.tok.aZ,hT.tok.aW,hT.tok.get,pX,QJ,vY,Xg,go_sem]) | (with_reducible refine aA.mk ?_ ?_) | (with_reducible refine And.intro ?_ ?_) | ((with_reducible refine bz ?_);simp -implicitDefEqProofs only[EL,hT.tok.len,hT.tok.bW,hT.tok.bT,hT.tok.aZ,hT.tok.aW,hT.tok.get,Ff,e2,push_cast,go_sem_proc]) | intro _)
  all_goals (obtain⟨X,h1,r2,h2,h3⟩:=Ts ca N T hT (a3+1) _ J kvP dO bQ ZX hS;simp -implicitDefEqProofs only[push_cast,go_sem_proc]at h2;exact⟨X,h1,r2,h2,h3⟩)
 | true=>
  rw[hb]at f1;obtain⟨P',a',k1,k2,k3,k4,k5⟩:=t18 L ⟨ps,xs⟩ (a3+1) (by omega) (by omega) (by simp only;omega);simp only at k4;refine⟨P',a',by omega,by omega,by omega,by omega,fun ca N T hT=>hT.rF (jM _) ?_⟩;refine walk ca N T hT _ (fun kvP dO bQ J e m hP hS hz e0 e2 e3=> ?_);have ZX:=hP.tail (hS.weaken (by omega)) (hT.tok.len _) (hT.tok.len (a3+1));have ft:=k5 ca N T hT J 1 kvP dO bQ ZX (hS.weaken (by omega));simp -implicitDefEqProofs only[sC,e0,e2,e3,hT.tok.len,hT.tok.bW,hT.tok.bT,hT.tok.aZ,hT.tok.aW,hT.tok.get,go_sem];repeat' (first | ((first | (with_reducible refine bR ((f1.at hT _)) ?_) | (with_reducible refine aD ?_));simp -implicitDefEqProofs only[e0,e2,e3,hT.tok.len,hT.tok.bW,hT.tok.bT,hT.tok.aZ,hT.tok.aW,hT.tok.get,go_sem]) | (with_reducible refine aA.mk ?_ ?_) | (with_reducible refine And.intro ?_ ?_) | ((with_reducible refine bz ?_);simp -implicitDefEqProofs only[EL,hT.tok.len,hT.tok.bW,hT.tok.bT,hT.tok.aZ,hT.tok.aW,hT.tok.get,push_cast,go_sem_proc]) | intro _)
  refine ft.mono ?_;rintro r H' ⟨rfl,J',rfl,JQ,cp⟩;have qJ:J'[0]? =some Z2:=(cp 0 (fun kv eJ=>hS.ge kv eJ (N+0) (by omega))).trans hz;have cr:=JQ.cell;rw[hT.tok.bT]at cr;have pX:=JQ.qw.cS;simp only[V.one]at pX;have QJ:=JQ.qw.one;have vY:=JQ.sD.cS;simp only[V.one]at vY;have Xg:=JQ.sD.one;simp only[Z2]at qJ;have Ff:∀b,(J'.set 0 b)[0]? =some b:=fun b=>by simp[(List.getElem?_eq_some_iff.1 qJ).1]
  simp -implicitDefEqProofs only[e0,e2,e3,cr,qJ,hT.tok.len,hT.tok.bW,hT.tok.bT,hT.tok.aZ,hT.tok.aW,hT.tok.get,pX,QJ,vY,Xg,go_sem];repeat' (first | ((with_reducible refine aD ?_);simp -implicitDefEqProofs only[e0,e2,e3,cr,qJ,hT.tok.len,hT.tok.bW,hT.tok.bT,hT.tok.aZ,hT.tok.aW,hT.tok.get,pX,QJ,vY,Xg,go_sem]) | (with_reducible refine aA.mk ?_ ?_) | (with_reducible refine And.intro ?_ ?_) | ((with_reducible refine bz ?_);simp -implicitDefEqProofs only[EL,hT.tok.len,hT.tok.bW,hT.tok.bT,hT.tok.aZ,hT.tok.aW,hT.tok.get,Ff,e2,push_cast,go_sem_proc]) | intro _)
  all_goals (obtain⟨X,h1,r2,h2,h3⟩:=Ts ca N T hT a' _ J' kvP dO bQ JQ hS;simp -implicitDefEqProofs only[push_cast,go_sem_proc]at h2;exact⟨X,h1,r2,h2,h3⟩)
def P7:bH:=⟨[],[.mk 3 ⟨#[97]⟩ em ⟨#[120]⟩ em (.mk 1 7 em []) [] [] em []]⟩
theorem t38:af Tryz.prog 62 [] (·=aP P7):=by
 refine af.intro c38 100 (by simp) 20 ?_;simp -implicitDefEqProofs only[s38,go_sem];simp -implicitDefEqProofs only[r38,push_cast,go_sem_proc];simp[P7,aP,ay,em]
theorem ck7:rE P7=0:=by
 rw[yR];decide
theorem Tt:total P7=1:=by decide
theorem t13:af Tryz.prog 19 [] (·=.bool true):=by
 have h6:=t6 P7 (by rw[Tt];omega);rw[ck7,Tt]at h6;simp only[if_true]at h6;refine af.intro c13 200 (by simp) 20 ?_;simp -implicitDefEqProofs only[s13,go_sem];repeat' (first | ((first | ((with_reducible first | refine bj t38 ?_ ?_ | refine bj h6 ?_ ?_);(·simp[ae,al,cm])) | ((with_reducible apply cj);(·simp -implicitDefEqProofs only[List.map_cons,List.map_nil,push_cast,go_sem_proc]<;>rfl);(with_reducible first | exact t38 | exact h6);(·rfl)) | (with_reducible refine aD ?_));simp -implicitDefEqProofs only[Int.reduceEq,go_sem]) | (with_reducible refine aA.mk ?_ ?_) | (with_reducible refine And.intro ?_ ?_) | ((with_reducible refine bz ?_);simp -implicitDefEqProofs only[r13,push_cast,go_sem_proc]) | intro _)
 all_goals rfl
mutual
def oT (ec:ByteArray->Bool):St->Bool
 | .mk k _ _ _ _ _ a b p _=>if k=4 then lu ec a || lu ec b else if k=5 then ec p else true
def lu (ec:ByteArray->Bool):List St->Bool
 | []=>true
 | s::l=>oT ec s && lu ec l
end
theorem xa (ec:ByteArray->Bool):∀l,lu ec l=l.all (oT ec)
 | []=>by simp[lu]
 | s::l=>by simp[lu,xa ec l]
mutual
theorem Gs {ec JR:ByteArray->Bool} (h:∀p,ec p=true->JR p=true):∀s,oT ec s=true->oT JR s=true
 | .mk k r t v l e a b p ps,hs=>by
  simp only[oT]at hs⊢;split at hs
  ·rename_i hk;rw[if_pos hk];rw[Bool.or_eq_true]at hs⊢;exact hs.imp (pY h a) (pY h b)
  ·rename_i hk;rw[if_neg hk];split at hs
   ·rename_i ir;rw[if_pos ir];exact h p hs
   ·rename_i ir;rw[if_neg ir]
theorem pY {ec JR:ByteArray->Bool} (h:∀p,ec p=true->JR p=true):∀l,lu ec l=true->lu JR l=true
 | [],_=>by simp[lu]
 | s::l,hs=>by
  simp only[lu,Bool.and_eq_true]at hs⊢;exact⟨Gs h s hs.1,pY h l hs.2⟩
end
def ga (xs:List Pr) (E:List Bool) (p:ByteArray):Bool:=if procI xs p<0 then false else E.getD (procI xs p).toNat false
def Cl (xs:List Pr) (E:List Bool):Prop:=E.length=xs.length/\∀(i:Nat) q,xs[i]? =some q->lu (ga xs E) q.steps=true->E[i]? =some true
def Lo (xs:List Pr) (E:List Bool):Prop:=E.length=xs.length/\∀C,Cl xs C->∀i:Nat,E[i]? =some true->C[i]? =some true
theorem Gt {xs:List Pr} {E C:List Bool} (h:∀i:Nat,E[i]? =some true->C[i]? =some true) (p:ByteArray) (hp:ga xs E p=true):ga xs C p=true:=by
 unfold ga at*
 split at hp
 ·cases hp
 ·rename_i hn;rw[if_neg hn];have:E[(procI xs p).toNat]? =some true:=by
   rw[List.getD_eq_getElem?_getD]at hp;cases he:E[(procI xs p).toNat]? with
   | none=>rw[he]at hp;cases hp
   | some b=>rw[he]at hp;simp at hp;rw[hp]
  rw[List.getD_eq_getElem?_getD,h _ this];rfl
theorem Lo.init (xs:List Pr):Lo xs (List.replicate xs.length false):=⟨by simp,fun C _ i h=>by
 rw[List.getElem?_replicate]at h;split at h<;>cases h⟩
theorem Lo.step {xs:List Pr} {E:List Bool} (h:Lo xs E) {i:Nat} {q:Pr} (hq:xs[i]? =some q) (ht:lu (ga xs E) q.steps=true):Lo xs (E.set i true):=
 ⟨by rw[List.length_set];exact h.1,fun C hC j hj=>by
  rw[List.getElem?_set]at hj;split at hj
  ·rename_i rm;subst rm;exact hC.2 i q hq (pY (Gt (h.2 C hC)) _ ht)
  ·exact h.2 C hC j hj⟩
def jC (E:List Bool):Nat:=(E.filter (! ·)).length
theorem jS:∀{E:List Bool} {i:Nat},E[i]? =some false->jC (E.set i true)+1=jC E
 | [],i,h=>by simp at h
 | b::E,0,h=>by simp at h;subst h;simp[jC]
 | b::E,i+1,h=>by
  have:=jS (E:=E) (i:=i) (by simpa using h);cases b<;>simp[jC]at this⊢<;>omega
theorem ends_ex (xs:List Pr):∀m E,Lo xs E->jC E<=m->∃E',Cl xs E'/\Lo xs E':=by
 intro m;induction m with
 | zero=>
  intro E hE hf;refine⟨E,⟨hE.1,fun i q hq ht=> ?_⟩,hE⟩;have hi:=(List.getElem?_eq_some_iff.1 hq).1;cases he:E[i]? with
  | none=>rw[List.getElem?_eq_none_iff]at he;have:=hE.1;omega
  | some b=>
   cases b
   ·have:=jS he;omega
   ·rfl
 | succ m ih=>
  intro E hE hf;by_cases hc:Cl xs E
  ·exact⟨E,hc,hE⟩
  ·have:∃(i:Nat) (q:Pr),xs[i]? =some q/\lu (ga xs E) q.steps=true/\E[i]? ≠some true:=by
    refine Classical.byContradiction fun hn=>hc ⟨hE.1,fun i q hq ht=> ?_⟩
    refine Classical.byContradiction fun he=>hn ⟨i,q,hq,ht,he⟩
   obtain⟨i,q,hq,ht,he⟩:=this;have hi:=(List.getElem?_eq_some_iff.1 hq).1;have kd:E[i]? =some false:=by
    cases h:E[i]? with
    | none=>rw[List.getElem?_eq_none_iff]at h;have:=hE.1;omega
    | some b=>cases b;rfl;exact absurd h he
   have:=jS kd;exact ih _ (hE.step hq ht) (by omega)
theorem ends_uniq {xs:List Pr} {E E':List Bool} (h1:Cl xs E) (h2:Lo xs E) (h3:Cl xs E') (h4:Lo xs E'):E=E':=by
 apply List.ext_getElem?
 intro i;by_cases hi:i<xs.length
 ·have l1:=h1.1;have l2:=h3.1;have a:=h2.2 E' h3 i;have b:=h4.2 E h1 i;rw[List.getElem?_eq_getElem (by omega),List.getElem?_eq_getElem (by omega)]at*;cases hx:E[i]<;>cases hy:E'[i]<;>simp_all
 ·rw[List.getElem?_eq_none (by rw[h1.1];omega),List.getElem?_eq_none (by rw[h3.1];omega)]
noncomputable def bY (xs:List Pr):List Bool:=(ends_ex xs _ _ (Lo.init xs) (Nat.le_refl _)).choose
theorem vZ (xs:List Pr):Cl xs (bY xs):=(ends_ex xs _ _ (Lo.init xs) (Nat.le_refl _)).choose_spec.1
theorem DJ (xs:List Pr):Lo xs (bY xs):=(ends_ex xs _ _ (Lo.init xs) (Nat.le_refl _)).choose_spec.2
theorem v7 {xs:List Pr} {E:List Bool} (h1:Cl xs E) (h2:Lo xs E):E=bY xs:=ends_uniq h1 h2 (vZ xs) (DJ xs)
def aK (xs:List Pr) (i:Nat):List St:=match xs[i]? with | some q=>q.steps | none=> []
def dc (P:bH) (i:Nat):Int:=((ai P.main+bD (P.procs.take i):Nat):Int)
def has (R:List Bool) (i:Int):Prop:=0<=i/\R[i.toNat]? =some true
def fc (l:List Int) (n:Int):List Int:=if l.contains n then l else l++ [n]
theorem fN {l:List Int} {n x:Int}:x∈fc l n↔x∈l\/x=n:=by
 unfold fc
 split
 ·rename_i h;have:n∈l:=by simpa using h
  constructor
  ·exact .inl
  ·rintro(h | rfl)
   ·exact h
   ·exact this
 ·simp
def kI (xs:List Pr) (k:Int) (p:ByteArray):Int:=if k=5 then procI xs p else -1
theorem qZ {P:bH} {i:Nat} (hi:i<P.procs.length):ai (aK P.procs i)<=total P:=by
 obtain⟨pre,q,post,h,hl⟩:∃pre q post,P.procs=pre++q::post/\pre.length=i:=⟨P.procs.take i,P.procs[i],P.procs.drop (i+1),by rw[<-List.drop_eq_getElem_cons hi,List.take_append_drop],by simp;omega⟩;have hb:aK P.procs i=q.steps:=by
  unfold aK
  rw[h,<-hl];simp
 rw[hb,total,h,bE,bD];omega
end Go.Proofs.YtdgoeblpcnjlbaaGreatDoor.Av
namespace Go.Proofs.YtdgoeblpcnjlbaaGreatDoor.Av
open Go.RowKit List
def s211:aB:=(.seq (.region [aQ 4 (.bool false)]) (.seq (.seq (.region [ab 6 0,cJ 7 6,ab 8 1,cJ 9 8,cL 10 .neq 7 9]) (.cond (sT 10) (.seq (.region [aQ 4 (.bool false)])
 .ret) .skip)) (.seq (.seq (.region [ab 11 0,cJ 12 11,aQ 13 (.int .i64 0)]) (.block 0 (.loop (.seq (.region [cL 14 .lss 13 12]) (.seq (.cond (sT 14) .skip (.exit 0)) (.seq (.block 1 (.seq (.region [ab 15 13,ab 5 15]) (.seq (.qregion [⟨ab 16 0,false,0,0,0⟩,⟨ab 17 5,false,0,0,0⟩,⟨cM 18 1 16 17,false,0,0,3⟩,⟨aH 19 18,false,0,0,7⟩,⟨ab 20 1,false,0,0,0⟩,⟨ab 21 5,false,0,0,0⟩,⟨cM 22 1 20 21,false,0,0,48⟩,⟨aH 23 22,false,0,0,112⟩,⟨cL 24 .neq 19 23,false,0,0,255⟩]) (.cond (sT 24) (.seq (.region [aQ 4 (.bool false)])
 .ret) .skip)))) (.region [bC 25 .add 13 (.int .i64 1),ab 13 25]))))))) (.seq (.region [aQ 4 (.bool true)])
 .ret))))
def r211:List a8:=[.tmp 4]
theorem c211:aG Tryz.prog 17 s211 r211 26:=codeOk Tryz.func17 rfl rfl
def Ot:aB:=(.seq (.region [⟨some 1,.box (sT 0),none⟩,aQ 2 (.kb),aQ 3 (.int .i64 0)]) (.seq (.seq (.region [bU 5 2 1,bw 6 71 [.tmp 5],ab 4 6]) (.seq (.region [ab 7 4,bC 8 .neq 7 (.int .i64 0)]) (.cond (sT 8) (.seq (.region [ab 9 4,aQ 2 (.kb),ab 3 9])
 .ret) .skip))) (.seq (.region [bU 10 2 1,bw 11 117 [.tmp 10],ab 2 11,aQ 3 (.int .i64 0)])
 .ret)))
def Ou:List a8:=[.tmp 2,.tmp 3]
theorem Tu:aG Tryz.prog 41 Ot Ou 12:=codeOk Tryz.func41 rfl rfl
def Tv:aB:=(.seq (.region [⟨some 2,.box (sT 0),none⟩,aQ 4 (.bool false)]) (.seq (.region [ab 5 1,⟨some 6,.fC 119 [] [.tmp 2],none⟩,bw 7 118 [.tmp 5,.tmp 6],⟨some 8,.un .not (sT 7),none⟩,ab 4 8])
 .ret))
def Tw:List a8:=[.tmp 4]
theorem ZY:aG Tryz.prog 42 Tv Tw 9:=codeOk Tryz.func42 rfl rfl
def TA:aB:=(.seq (.region [⟨some 4,.box (sT 0),none⟩,⟨some 6,.box (sT 2),none⟩,⟨some 7,.box (sT 3),none⟩,aQ 8 (.bool false)]) (.seq (.region [ab 9 1,⟨some 10,.fC 133 [] [.tmp 7,.tmp 4,.tmp 6],none⟩,bw 11 132 [.tmp 9,.tmp 10],⟨some 12,.un .not (sT 11),none⟩,ab 8 12])
 .ret))
def TB:List a8:=[.tmp 8]
theorem Z1:aG Tryz.prog 54 TA TB 13:=codeOk Tryz.func54 rfl rfl
def TF:aB:=(.seq (.region [⟨some 1,.box (sT 0),none⟩,aQ 2 (.kb)]) (.seq (.qregion [⟨bU 11 2 1,false,0,1,0⟩,⟨aN 12 0 1,false,0,0,0⟩,⟨aH 13 12,false,0,0,2⟩,⟨cJ 14 13,false,0,0,6⟩,⟨⟨some 15,.Eu (.bool false) (sT 14),none⟩,true,0,0,14⟩,⟨⟨some 16,.build [.ag,.ag,.ag,.ag,.ag] [(0,2,.tmp 11),(4,1,.tmp 15)],none⟩,false,1,1,31⟩,⟨⟨some 17,.box (sT 16),none⟩,true,0,0,63⟩,⟨ab 3 17,false,2,2,127⟩]) (.seq (.region [aQ 4 (.int .i64 0)]) (.seq (.region [ab 19 3,bU 20 2 1,aN 21 1 1,aH 22 21,bw 23 179 [.tmp 20,.tmp 22,.val (.int .i64 0)],ab 18 23,⟨some 24,.extract (sT 18) 0,none⟩,⟨some 25,.extract (sT 18) 1,none⟩,⟨some 26,.b5 (sT 19),none⟩,aN 27 2 26,⟨none,.store 1 (sT 27) (sT 24),none⟩,ab 4 25]) (.seq (.seq (.region [aN 28 0 1,aH 29 28,cJ 30 29,aQ 31 (.int .i64 0)]) (.block 0 (.loop (.seq (.region [cL 32 .lss 31 30]) (.seq (.cond (sT 32) .skip (.exit 0)) (.seq (.block 1 (.seq (.region [cM 33 3 29 31,bU 34 3 33,⟨some 6,.alloc (.agg [.str ⟨#[]⟩,.ag,.ag]),none⟩,⟨none,.store 3 (sT 6) (sT 34),none⟩]) (.seq (.region [aQ 7 (.ag)]) (.seq (.region [bU 36 2 1,aN 37 2 6,aH 38 37,ab 39 4,bw 40 179 [.tmp 36,.tmp 38,.tmp 39],ab 35 40,⟨some 41,.extract (sT 35) 0,none⟩,⟨some 42,.extract (sT 35) 1,none⟩,ab 7 41,ab 4 42]) (.region [ab 43 3,ab 44 3,⟨some 45,.b5 (sT 44),none⟩,aN 46 3 45,aH 47 46,ab 48 7,⟨some 49,.aJ 1 [.tmp 48],none⟩,⟨some 50,.append 1 24 (sT 47) (sT 49),none⟩,⟨some 51,.b5 (sT 43),none⟩,aN 52 3 51,⟨none,.store 1 (sT 52) (sT 50),none⟩]))))) (.region [bC 53 .add 31 (.int .i64 1),ab 31 53]))))))) (.seq (.seq (.region [aQ 8 (.bool true)]) (.block 2 (.loop (.seq (.seq (.region [ab 54 8]) (.cond (sT 54) .skip (.exit 2))) (.block 3 (.seq (.region [aQ 8 (.bool false)]) (.seq (.region [ab 55 3,⟨some 56,.b5 (sT 55),none⟩,aN 57 3 56,aH 58 57,cJ 59 58,aQ 60 (.int .i64 0)]) (.block 4 (.loop (.seq (.region [cL 61 .lss 60 59]) (.seq (.cond (sT 61) .skip (.exit 4)) (.seq (.block 5 (.seq (.region [ab 62 60,cM 63 1 58 60,aH 64 63,ab 9 62,ab 10 64]) (.seq (.region [ab 65 3,⟨some 66,.b5 (sT 65),none⟩,aN 67 4 66,aH 68 67,ab 69 9,cM 70 1 68 69,aH 71 70,⟨some 72,.un .not (sT 71),none⟩,ab 73 72,fD 74 3 73 true,fD 75 10 73 true,⟨some 76,.call (.val (.a6 42 [] [])) [.tmp 74,.tmp 75],(some (73,true))⟩,⟨some 77,.pick (sT 73) (sT 76) (.val (.bool false)),none⟩]) (.cond (sT 77) (.region [ab 78 3,⟨some 79,.b5 (sT 78),none⟩,aN 80 4 79,aH 81 80,ab 82 9,cM 83 1 81 82,⟨none,.store 1 (sT 83) (.val (.bool true)),none⟩,aQ 8 (.bool true)]) .skip)))) (.region [bC 84 .add 60 (.int .i64 1),ab 60 84]))))))))))))) (.seq (.region [ab 85 3,ab 2 85])
 .ret)))))))
def Gv:List a8:=[.tmp 2]
theorem Z5:aG Tryz.prog 117 TF Gv 86:=codeOk Tryz.func117 rfl rfl
def TG:aB:=(.seq (.region [aQ 4 (.bool false)]) (.seq (.region [ab 5 0,ab 6 1,bw 7 180 [.tmp 5,.tmp 6],bC 8 .geq 7 (.int .i64 0),ab 4 8])
 .ret))
def TH:List a8:=[.tmp 4]
theorem Z6:aG Tryz.prog 118 TG TH 9:=codeOk Tryz.func118 rfl rfl
def TI:aB:=(.seq (.region [⟨some 2,.box (sT 0),none⟩,aQ 3 (.bool false)]) (.seq (.region [aH 4 1,bU 5 17 2,bw 6 120 [.tmp 4,.tmp 5],⟨some 7,.un .not (sT 6),none⟩,ab 3 7])
 .ret))
def TJ:List a8:=[.tmp 3]
theorem Z7:aG Tryz.prog 119 TI TJ 8:=codeOk Tryz.func119 rfl rfl
def Ow:aB:=(.seq (.region [⟨some 3,.box (sT 1),none⟩,aQ 4 (.bool false)]) (.seq (.seq (.region [aN 5 1 3,aN 6 0 5,aH 7 6]) (.block 0 (.seq (.region [bC 9 .eql 7 (.int .i64 4),ab 8 9]) (.cond (sT 8) (.seq (.region [ab 10 0,aN 11 15 3,aH 12 11,bw 13 42 [.tmp 10,.tmp 12],ab 14 13,fD 15 0 14 false,dP 16 16 3 14 false,dy 17 16 14 false,⟨some 18,.call (.val (.a6 42 [] [])) [.tmp 15,.tmp 17],(some (14,false))⟩,⟨some 19,.pick (sT 14) (.val (.bool true)) (sT 18),none⟩,ab 4 19])
 .ret) (.seq (.region [bC 21 .eql 7 (.int .i64 5),ab 20 21]) (.cond (sT 20) (.seq (.qregion [⟨ab 22 0,false,0,0,0⟩,⟨⟨some 23,.b5 (sT 22),none⟩,false,0,0,1⟩,⟨aN 24 4 23,false,0,0,3⟩,⟨aH 25 24,false,0,0,7⟩,⟨aN 26 14 3,false,0,0,0⟩,⟨aH 27 26,false,0,0,16⟩,⟨cM 28 1 25 27,false,0,0,63⟩,⟨aH 29 28,false,0,0,127⟩,⟨ab 4 29,false,0,0,255⟩])
 .ret) .skip)))))) (.seq (.region [aQ 4 (.bool true)])
 .ret)))
def Ox:List a8:=[.tmp 4]
theorem Z8:aG Tryz.prog 120 Ow Ox 30:=codeOk Tryz.func120 rfl rfl
def TN:aB:=(.seq (.region [aQ 4 (.bool false)]) (.seq (.region [ab 5 0,ab 6 1,bw 7 183 [.tmp 5,.tmp 6],bC 8 .geq 7 (.int .i64 0),ab 4 8])
 .ret))
def TO:List a8:=[.tmp 4]
theorem aab:aG Tryz.prog 132 TN TO 9:=codeOk Tryz.func132 rfl rfl
def TP:aB:=(.seq (.region [⟨some 4,.box (sT 0),none⟩,aQ 5 (.bool false)]) (.seq (.block 0 (.seq (.region [aH 7 1,bU 8 13 4,⟨some 9,.call (sT 7) [.tmp 8],none⟩,ab 6 9]) (.cond (sT 6) (.seq (.region [aQ 5 (.bool true)])
 .ret) (.seq (.region [aN 11 0 4,aH 12 11,bC 13 .eql 12 (.int .i64 4),ab 10 13]) (.cond (sT 10) (.seq (.region [bU 14 2 2,aN 15 9 4,aH 16 15,aH 17 3,aH 18 1,bw 19 54 [.tmp 14,.tmp 16,.tmp 17,.tmp 18],⟨some 20,.un .not (sT 19),none⟩,ab 21 20,⟨some 22,.load true 2 (sT 2),(some (21,true))⟩,dP 23 10 4 21 true,dy 24 23 21 true,dy 25 3 21 true,dy 26 1 21 true,⟨some 27,.call (.val (.a6 54 [] [])) [.tmp 22,.tmp 24,.tmp 25,.tmp 26],(some (21,true))⟩,⟨some 28,.un .not (sT 27),(some (21,true))⟩,⟨some 29,.pick (sT 21) (sT 28) (.val (.bool false)),none⟩,ab 5 29])
 .ret) (.seq (.region [aN 31 0 4,aH 32 31,bC 33 .eql 32 (.int .i64 5),ab 30 33]) (.cond (sT 30) (.seq (.region [aH 34 3,bU 35 13 4,⟨some 36,.call (sT 34) [.tmp 35],none⟩,⟨some 37,.un .not (sT 36),none⟩,ab 5 37])
 .ret) .skip))))))) (.seq (.region [aQ 5 (.bool false)])
 .ret)))
def TQ:List a8:=[.tmp 5]
theorem aac:aG Tryz.prog 133 TP TQ 38:=codeOk Tryz.func133 rfl rfl
def TU:aB:=(.seq (.region [⟨some 3,.box (sT 0),none⟩,aQ 6 (.ag),aQ 7 (.int .i64 0)]) (.seq (.region [aQ 8 (.ag)]) (.seq (.seq (.region [ab 12 1,cJ 13 12,aQ 14 (.int .i64 0)]) (.block 0 (.loop (.seq (.region [cL 15 .lss 14 13]) (.seq (.cond (sT 15) .skip (.exit 0)) (.seq (.block 1 (.seq (.region [cM 16 13 12 14,bU 17 13 16,⟨some 10,.alloc (.agg [.int .i64 0,.str ⟨#[]⟩,.str ⟨#[]⟩,.str ⟨#[]⟩,.str ⟨#[]⟩,.int .i64 0,.int .i64 0,.str ⟨#[]⟩,.ag,.ag,.ag,.str ⟨#[]⟩,.ag]),none⟩,⟨none,.store 13 (sT 10) (sT 17),none⟩]) (.seq (.region [ab 18 2,bU 19 13 10,⟨some 20,.build [.int .i64 0,.int .i64 0,.str ⟨#[]⟩,.str ⟨#[]⟩,.str ⟨#[]⟩,.str ⟨#[]⟩,.int .i64 0,.int .i64 0,.str ⟨#[]⟩,.ag,.ag,.ag,.str ⟨#[]⟩,.ag,.int .i64 0,.ag,.ag] [(0,1,.tmp 18),(1,13,.tmp 19),(14,1,.val (.int .i64 (-1)))],none⟩,⟨some 11,.alloc (.agg [.int .i64 0,.int .i64 0,.str ⟨#[]⟩,.str ⟨#[]⟩,.str ⟨#[]⟩,.str ⟨#[]⟩,.int .i64 0,.int .i64 0,.str ⟨#[]⟩,.ag,.ag,.ag,.str ⟨#[]⟩,.ag,.int .i64 0,.ag,.ag]),none⟩,⟨none,.store 17 (sT 11) (sT 20),none⟩]) (.seq (.seq (.region [aN 21 0 10,aH 22 21,bC 23 .eql 22 (.int .i64 5)]) (.cond (sT 23) (.region [bU 24 2 3,aN 25 11 10,aH 26 25,bw 27 192 [.tmp 24,.tmp 26],aN 28 14 11,⟨none,.store 1 (sT 28) (sT 27),none⟩]) .skip)) (.seq (.region [bU 30 2 3,aN 31 9 10,aH 32 31,ab 33 2,bC 34 .add 33 (.int .i64 1),bw 35 179 [.tmp 30,.tmp 32,.tmp 34],ab 29 35,⟨some 36,.extract (sT 29) 0,none⟩,⟨some 37,.extract (sT 29) 1,none⟩,aN 38 15 11,⟨none,.store 1 (sT 38) (sT 36),none⟩,ab 2 37]) (.seq (.region [bU 40 2 3,aN 41 10 10,aH 42 41,ab 43 2,bw 44 179 [.tmp 40,.tmp 42,.tmp 43],ab 39 44,⟨some 45,.extract (sT 39) 0,none⟩,⟨some 46,.extract (sT 39) 1,none⟩,aN 47 16 11,⟨none,.store 1 (sT 47) (sT 45),none⟩,ab 2 46]) (.region [ab 48 8,bU 49 17 11,⟨some 50,.aJ 17 [.tmp 49],none⟩,⟨some 51,.append 17 280 (sT 48) (sT 50),none⟩,ab 8 51]))))))) (.region [bC 52 .add 14 (.int .i64 1),ab 14 52]))))))) (.seq (.region [ab 53 8,ab 54 2,ab 6 53,ab 7 54])
 .ret))))
def Oz:List a8:=[.tmp 6,.tmp 7]
theorem aag:aG Tryz.prog 179 TU Oz 55:=codeOk Tryz.func179 rfl rfl
def TV:aB:=(.seq (.region [aQ 4 (.int .i64 0)]) (.seq (.seq (.region [ab 6 0,cJ 7 6,aQ 8 (.int .i64 0)]) (.block 0 (.loop (.seq (.region [cL 9 .lss 8 7]) (.seq (.cond (sT 9) .skip (.exit 0)) (.seq (.block 1 (.seq (.region [ab 10 8,ab 5 10]) (.seq (.region [ab 11 1,ab 12 0,ab 13 5,cM 14 17 12 13,bU 15 17 14,⟨some 16,.call (sT 11) [.tmp 15],none⟩]) (.cond (sT 16) (.seq (.region [ab 17 5,ab 4 17])
 .ret) .skip)))) (.region [bC 18 .add 8 (.int .i64 1),ab 8 18]))))))) (.seq (.region [aQ 4 (.int .i64 (-1))])
 .ret)))
def OA:List a8:=[.tmp 4]
theorem aah:aG Tryz.prog 180 TV OA 19:=codeOk Tryz.func180 rfl rfl
def TX:aB:=(.seq (.region [aQ 4 (.int .i64 0)]) (.seq (.seq (.region [ab 6 0,cJ 7 6,aQ 8 (.int .i64 0)]) (.block 0 (.loop (.seq (.region [cL 9 .lss 8 7]) (.seq (.cond (sT 9) .skip (.exit 0)) (.seq (.block 1 (.seq (.region [ab 10 8,ab 5 10]) (.seq (.region [ab 11 1,ab 12 0,ab 13 5,cM 14 13 12 13,bU 15 13 14,⟨some 16,.call (sT 11) [.tmp 15],none⟩]) (.cond (sT 16) (.seq (.region [ab 17 5,ab 4 17])
 .ret) .skip)))) (.region [bC 18 .add 8 (.int .i64 1),ab 8 18]))))))) (.seq (.region [aQ 4 (.int .i64 (-1))])
 .ret)))
def OB:List a8:=[.tmp 4]
theorem aai:aG Tryz.prog 183 TX OB 19:=codeOk Tryz.func183 rfl rfl
def num:List St->Int->List (St×Int)
 | [],_=> []
 | s::l,n=>(s,n)::num l (n+dA s)
theorem gS:∀(a b:List St) (n:Int),num (a++b) n=num a n++num b (n+ai a)
 | [],b,n=>by simp[num,ai]
 | x::a,b,n=>by
  rw[List.cons_append,num,num,gS a b,ai,List.cons_append];congr 3;omega
theorem tU:∀(l:List St) (n:Int),(num l n).length=l.length
 | [],n=>rfl
 | x::l,n=>by simp[num,tU l]
mutual
def y4 (X:List Pr):St->Int->V
 | .mk k r t v l (.mk ek en es aR) a b p ps,n=> .agg [.int .i64 n,.int .i64 k,.str r,.str t,.str v,.str l,.int .i64 ek,.int .i64 en,.str es,.fs (aR.map bu),.fs (a.map encS),.fs (b.map encS),.str p,.fs (ps.map .str),.int .i64 (kI X k p),.fs (encNs X a (n+1)),.fs (encNs X b (n+1+ai a))]
def encNs (X:List Pr):List St->Int->List V
 | [],_=> []
 | s::l,n=>y4 X s n::encNs X l (n+dA s)
end
def cb (X:List Pr) (x:St×Int):V:=y4 X x.1 x.2
theorem q6 (X:List Pr):∀(l:List St) (n:Int),encNs X l n=(num l n).map (cb X)
 | [],n=>rfl
 | s::l,n=>by rw[encNs,num,List.map_cons,q6 X l];rfl
theorem ic (X:List Pr) (k:Int) (r t v l:ByteArray) (ek en:Int) (es:ByteArray) (aR:List Ex) (a b:List St) (p:ByteArray) (ps:List ByteArray) (n:Int):
 cb X (.mk k r t v l (.mk ek en es aR) a b p ps,n)=.agg [.int .i64 n,.int .i64 k,.str r,.str t,.str v,.str l,.int .i64 ek,.int .i64 en,.str es,.fs (aR.map bu),.fs (a.map encS),.fs (b.map encS),.str p,.fs (ps.map .str),.int .i64 (kI X k p),.fs ((num a (n+1)).map (cb X)),.fs ((num b (n+1+ai a)).map (cb X))]:=by
 rw[cb,y4,q6,q6]
mutual
theorem rI (X:List Pr):∀(s:St) (n:Int),al (y4 X s n)=true
 | .mk k r t v l (.mk ek en es aR) a b p ps,n=>by simp[y4,al,ae,bf,ah,aE,kY X a,kY X b]
theorem kY (X:List Pr):∀(l:List St) (n:Int),ae (encNs X l n)=true
 | [],n=>by simp[encNs,ae]
 | s::l,n=>by simp[encNs,ae,rI X s,kY X l]
end
theorem tV (X:List Pr) (x:St×Int):al (cb X x)=true:=rI X x.1 x.2
theorem aY (X:List Pr) (l:List (St×Int)):ae (l.map (cb X))=true:=bS (tV X) l
theorem Ch (H:List ak) (n:Nat) (X:List Pr) (x:St×Int):fz H (n+2) (cb X x)=some (cb X x):=by
 obtain⟨s,i⟩:=x;rcases s with⟨k,r,t,v,l,⟨ek,en,es,aR⟩,a,b,p,ps⟩
 simp[ic,ma,b7,cN,jZ,dN,jL,bf,ah,aE,aY,dR]
attribute [push_cast] aY Ch
attribute [simp] aY tV
theorem Gy (X:List Pr) (l:List (St×Int)):df 17 (l.map (cb X)):=by
 intro e he;cases l with
 | nil=>simp at he
 | cons x l=>
  simp at he;subst he;obtain⟨s,i⟩:=x;rcases s with⟨k,r,t,v,l,⟨ek,en,es,aR⟩,a,b,p,ps⟩
  rw[ic];rfl
theorem T0 (P:bH) (xs:List St) (n:Int) (lV:0<=n) (hn:n+ai xs<=1000000)
 (h:∀k r t v l e a b p ps,St.mk k r t v l e a b p ps∈xs->∀n:Int,0<=n->
   (n+ai a<=1000000->af Tryz.prog 179 [aP P,.fs (a.map encS),.int .i64 n] (·=.dJ [.fs ((num a n).map (cb P.procs)),.int .i64 (n+ai a)]))/\
   (n+ai b<=1000000->af Tryz.prog 179 [aP P,.fs (b.map encS),.int .i64 n] (·=.dJ [.fs ((num b n).map (cb P.procs)),.int .i64 (n+ai b)]))):
 af Tryz.prog 179 [aP P,.fs (xs.map encS),.int .i64 n] (·=.dJ [.fs ((num xs n).map (cb P.procs)),.int .i64 (n+ai xs)]):=by
 have Zr:=eh xs;have qU:=fun p=>t65 P p
 simp only[aP]at h qU⊢;refine af.intro aag 400 (by simp) 20 ?_;simp -implicitDefEqProofs only[TU,go_sem];intro hlen;refine aL (fun m e H=>∃pre post kv,xs=pre++post/\m=post.length/\e 2=.int .i64 (n+ai pre)/\e 3=.ptr 0 0 0/\e 8=kv/\e 12=.fs (xs.map encS)/\e 13=.int .i64 xs.length/\e 14=.int .i64 pre.length/\OV H kv ((num pre n).map (cb P.procs))/\a7 kv 0/\H[0]? =some (.row [.agg [.fs (P.procs.map aF),.fs (P.main.map encS)]])) xs.length ⟨[],xs,.ag,by simp[az,aC,ai],rfl,by simp[az,aC,ai],by simp[az,aC],by simp[az,aC],by simp[az,aC],by simp[az,aC],by simp[az,aC],.inl ⟨rfl,rfl⟩,(fun a b h=>by cases h),rfl⟩ ?_;rintro m e H ⟨pre,post,kv,ao,rfl,h2,h3,h8,dU,eV,dG,bm,dW,mq⟩;cases post with
 | nil=>
  have ev:pre=xs:=by rw[ao];simp
  simp -implicitDefEqProofs only[h2,h3,h8,dU,eV,dG,aI ao,go_sem];have hz:fz H 19 kv=_:=dw (f:=cb P.procs) (n:=17) (fun H x=>Ch H 16 P.procs x) bm;rw[ev]at hz;simp -implicitDefEqProofs only[Oz,hz,push_cast,go_sem_proc];rw[ev]
 | cons y post=>
  have hg:=aO encS ao;have zP:ai xs=ai pre+(dA y+ai post):=by rw[ao,aX,ai]
  have cR:pre.length<=xs.length:=by rw[ao];simp
  have j6:=tU pre n;rcases y with⟨k,r,t,v,l,⟨ek,en,es,aR⟩,a,b,p,ps⟩
  have BV:num (pre++ [.mk k r t v l (.mk ek en es aR) a b p ps]) n=num pre n++ [(.mk k r t v l (.mk ek en es aR) a b p ps,n+ai pre)]:=by
   rw[gS];rfl
  simp only[dA]at zP;have hh:=h k r t v l (.mk ek en es aR) a b p ps (by rw[ao];simp);have ha:=(hh (n+ai pre+1) (by omega)).1 (by omega);have hb:=(hh (n+ai pre+1+ai a) (by omega)).2 (by omega);have qU:=qU p;have Dv:ai (pre++ [.mk k r t v l (.mk ek en es aR) a b p ps])=ai pre+(1+ai a+ai b):=by rw[aX];simp[ai,dA]
  have zK:=ic P.procs k r t v l ek en es aR a b p ps (n+ai pre);have Ci:kI P.procs k p=if k=5 then procI P.procs p else -1:=rfl
  generalize kI P.procs k p=ki at*;rw[ay]at hg;have w1:=bP (x:=n+ai pre+1) (by omega) (by omega);have j5:0<H.length:=(List.getElem?_eq_some_iff.1 mq).1;have hHa:∀l:List ak,(H++l)[0]? =some (.row [.agg [.fs (P.procs.map aF),.fs (P.main.map encS)]]):=fun l=>by rw[List.getElem?_append_left j5];exact mq
  simp -implicitDefEqProofs only[h2,h3,h8,dU,eV,dG,an ao,aa ao hlen,hg,w1,mq,hHa,go_sem];repeat' (first | ((first | ((with_reducible first | refine bj qU ?_ ?_ | refine bj ha ?_ ?_ | refine bj hb ?_ ?_);(·simp[ae,al,cm])) | ((with_reducible apply cj);(·simp -implicitDefEqProofs only[List.map_cons,List.map_nil,push_cast,go_sem_proc]<;>rfl);(with_reducible first | exact qU | exact ha | exact hb);(·rfl)) | (with_reducible refine aD ?_));simp -implicitDefEqProofs only[h2,h3,h8,dU,eV,dG,an ao,aa ao hlen,hg,w1,mq,hHa,go_sem]) | (with_reducible refine aA.mk ?_ ?_) | (with_reducible refine And.intro ?_ ?_) | ((with_reducible refine bz ?_);simp -implicitDefEqProofs only[Oz,push_cast,go_sem_proc]) | intro _)
  all_goals
   rename_i hk5;first | rw[Ci,if_pos (of_decide_eq_true hk5)]at zK | rw[Ci,if_neg (of_decide_eq_false hk5)]at zK
   refine cu (bm.app _) (fun i o l h=>by cases h) (Gy _ _) (by simp[j6];omega) ?_;rintro bN H' bo hle cp;obtain⟨pO,hn0'⟩:=cp 0 (by simp) dW;rw[hHa]at pO;simp -implicitDefEqProofs only[h2,h3,h8,dU,eV,dG,an ao,aa ao hlen,hg,pO,go_sem];refine⟨_,Nat.lt_succ_self _,pre++ [.mk k r t v l (.mk ek en es aR) a b p ps],post,bN,by simp[ao],rfl,?_,rfl,by simp,?_,hn0'⟩
   ·rw[Dv];simp only[Int.natCast_add,Int.natCast_one];congr 1;omega
   ·rw[BV,List.map_append,List.map_cons,List.map_nil,zK];exact bo
theorem br (E:List Bool):ae (E.map .bool)=true:=bS (fun x=>by simp[al]) E
attribute [simp] br
theorem t318 (X:List Pr) (xs:List (St×Int)) (g:FuncId) (first bB:List V) (p:St×Int->Bool) (hn:ae first=true) (nH:ae bB=true)
 (h:∀x∈xs,af Tryz.prog g (first++ [cb X x]++bB) (·=.bool (p x))):af Tryz.prog 180 [.fs (xs.map (cb X)),.a6 g first bB] (·=.int .i64 (oc p xs 0)):=by
 refine af.intro aah 200 (by simp) 20 ?_;simp -implicitDefEqProofs only[TV,go_sem];intro hlen;refine aL (fun m e H=>∃pre post,xs=pre++post/\m=post.length/\(∀y∈pre,p y=false)/\e 0=.fs (xs.map (cb X))/\e 1=.a6 g first bB/\e 7=.int .i64 xs.length/\e 8=.int .i64 pre.length) xs.length ⟨[],xs,by simp[az,aC]⟩ ?_
 rintro m e H ⟨pre,post,ao,rfl,hp,h0,h1,h7,h8⟩;cases post with
 | nil=>
  simp -implicitDefEqProofs only[h0,h1,h7,h8,aI ao,decide_false,go_sem];simp -implicitDefEqProofs only[OA,push_cast,go_sem_proc];rw[ao,dq _ pre [] 0 hp];rfl
 | cons y post=>
  have hg:=aO (cb X) ao;have hy:=h y (by simp[ao]);have Qo:∃k r t v l ek en es aR a b q ps n,y=(.mk k r t v l (.mk ek en es aR) a b q ps,n):=by
   obtain⟨s,n⟩:=y;rcases s with⟨k,r,t,v,l,⟨ek,en,es,aR⟩,a,b,q,ps⟩
   exact⟨_,_,_,_,_,_,_,_,_,_,_,_,_,_,rfl⟩
  obtain⟨k,r,t,v,l,ek,en,es,aR,a,b,q,ps,n,rfl⟩:=Qo;rw[ic]at hg hy;simp -implicitDefEqProofs only[h0,h1,h7,h8,an ao,hg,aa ao hlen,decide_true,go_sem];simp only[List.append_assoc,List.cons_append,List.nil_append]at hy;refine di (by simp[gK,ae,al,hn,nH,bf,ah,aY,aE]) hy ?_;simp -implicitDefEqProofs only[h0,h1,h7,h8,an ao,hg,aa ao hlen,decide_true,go_sem];refine⟨fun hc=> ?_,fun hc=> ?_⟩
  ·simp -implicitDefEqProofs only[OA,push_cast,go_sem_proc];rw[ao,dq _ pre _ 0 hp,oc,hc];simp
  ·exact⟨_,Nat.lt_succ_self _,pre++ [_],post,by simp[ao];rfl,rfl,fun z hz=>by rcases List.mem_append.1 hz with hz | hz;exact hp z hz;simp at hz;subst hz;exact hc,by simp⟩
theorem t278 (X:List Pr) (xs:List (St×Int)) (g:FuncId) (first bB:List V) (p:St×Int->Bool) (hn:ae first=true) (nH:ae bB=true)
 (h:∀x∈xs,af Tryz.prog g (first++ [cb X x]++bB) (·=.bool (p x))):af Tryz.prog 118 [.fs (xs.map (cb X)),.a6 g first bB] (·=.bool (xs.any p)):=by
 refine af.intro Z6 200 (by simp) 20 ?_;simp -implicitDefEqProofs only[TG,go_sem];refine di (by simp[ae,al,hn,nH,aY]) (t318 X xs g first bB p hn nH h) ?_
 simp -implicitDefEqProofs only[go_sem];simp -implicitDefEqProofs only[TH,push_cast,go_sem_proc];exact fY _ _ _ (by omega)
def lE (c0 c1 c2 c3:V) (E:List Bool):List V:=[c0,c1,c2,c3,.fs (E.map .bool)]
mutual
def DL (X:List Pr):St->Bool
 | .mk k _ _ _ _ _ a b p _=>(k !=5 || decide (0<=procI X p)) && (uU X a && uU X b)
def uU (X:List Pr):List St->Bool
 | []=>true
 | s::l=>DL X s && uU X l
end
theorem sE {X:List Pr}:∀{l:List St},uU X l=true->∀s∈l,DL X s=true
 | [],_,s,h=>by simp at h
 | x::l,h,s,hs=>by
  simp only[uU,Bool.and_eq_true]at h;rcases List.mem_cons.1 hs with rfl | hs
  ·exact h.1
  ·exact sE h.2 s hs
theorem Cj:∀{l:List St} {n:Int} {x:St×Int},x∈num l n->x.1∈l
 | [],n,x,h=>by simp[num]at h
 | s::l,n,x,h=>by
  simp only[num,List.mem_cons]at h;rcases h with rfl | h
  ·simp
  ·simp[Cj h]
theorem fO {X:List Pr} {p:ByteArray} (h:0<=procI X p):(procI X p).toNat<X.length:=by
 rcases jN (fun z:Pr=>decide (z.name=p)) X 0 (by omega)with⟨hI,_⟩ | ⟨pre,q,post,ao,hI,_⟩
 ·rw[procI,hI]at h;omega
 ·rw[procI,hI,ao];simp
theorem Ly (X:List Pr) (E:List Bool) (hE:E.length=X.length) (c0 c1 c2 c3:V) (h0:al c0=true) (h1:al c1=true) (h2:al c2=true) (h3:al c3=true)
 (k:Int) (r t v l:ByteArray) (ek en:Int) (es:ByteArray) (aR:List Ex) (a b:List St) (p:ByteArray) (ps:List ByteArray) (n:Int) (dx:DL X (.mk k r t v l (.mk ek en es aR) a b p ps)=true)
 (ha:af Tryz.prog 42 [.bc (lE c0 c1 c2 c3 E),.fs ((num a (n+1)).map (cb X))] (·=.bool (lu (ga X E) a)))
 (hb:af Tryz.prog 42 [.bc (lE c0 c1 c2 c3 E),.fs ((num b (n+1+ai a)).map (cb X))] (·=.bool (lu (ga X E) b))):
 af Tryz.prog 120 [.bc (lE c0 c1 c2 c3 E),cb X (.mk k r t v l (.mk ek en es aR) a b p ps,n)] (·=.bool (oT (ga X E) (.mk k r t v l (.mk ek en es aR) a b p ps))):=by
 simp only[lE]at ha hb⊢;rw[ic];simp only[DL,Bool.and_eq_true,Bool.or_eq_true,bne_iff_ne,ne_eq,decide_eq_true_eq]at dx;refine af.intro Z8 400 (by simp) 20 ?_;by_cases h5:k=5
 ·subst h5;have hp:0<=procI X p:=by rcases dx.1 with h | h;exact absurd rfl h;exact h
  have ct:=fO hp;have gj:iD (procI X p) E.length:=⟨hp,by omega⟩;have hgb:(E.map V.bool).getD (procI X p).toNat .any=.bool (E.getD (procI X p).toNat false):=by
   simp[List.getD,List.getElem?_map,List.getElem?_eq_getElem (show(procI X p).toNat<E.length by omega)]
  have Ci:kI X 5 p=procI X p:=by simp[kI]
  have Gz:ga X E p=E.getD (procI X p).toNat false:=by simp[ga,show¬procI X p<0 by omega]
  simp only[oT,Gz,show¬(5:Int)=4 by decide,if_false,if_true];rw[Ci];simp -implicitDefEqProofs only[Ow,hgb,gj,Int.reduceEq,go_sem];repeat' (first | ((first | ((with_reducible first | refine bj ha ?_ ?_ | refine bj hb ?_ ?_);(·simp[ae,al,cm,h0,h1,h2,h3])) | ((with_reducible apply cj);(·simp -implicitDefEqProofs only[List.map_cons,List.map_nil,h0,h1,h2,h3,push_cast,go_sem_proc]<;>rfl);(with_reducible first | exact ha | exact hb);(·rfl)) | (with_reducible refine aD ?_));simp -implicitDefEqProofs only[hgb,gj,Int.reduceEq,go_sem]) | (with_reducible refine aA.mk ?_ ?_) | (with_reducible refine And.intro ?_ ?_) | ((with_reducible refine bz ?_);simp -implicitDefEqProofs only[Ox,push_cast,go_sem_proc]) | intro _)
 ·have Ci:kI X k p= -1:=by simp[kI,h5]
  simp only[oT,h5,if_false];simp -implicitDefEqProofs only[Ow,h5,go_sem];repeat' (first | ((first | ((with_reducible first | refine bj ha ?_ ?_ | refine bj hb ?_ ?_);(·simp[ae,al,cm,h0,h1,h2,h3])) | ((with_reducible apply cj);(·simp -implicitDefEqProofs only[List.map_cons,List.map_nil,h0,h1,h2,h3,push_cast,go_sem_proc]<;>rfl);(with_reducible first | exact ha | exact hb);(·rfl)) | (with_reducible refine aD ?_));simp -implicitDefEqProofs only[h5,go_sem]) | (with_reducible refine aA.mk ?_ ?_) | (with_reducible refine And.intro ?_ ?_) | ((with_reducible refine bz ?_);simp -implicitDefEqProofs only[Ox,push_cast,go_sem_proc]) | intro _)
  all_goals (try(generalize lu (ga X E) a=A at*;generalize lu (ga X E) b=B at*;simp_all))
theorem T1 (X:List Pr) (E:List Bool) (c0 c1 c2 c3:V) (h0:al c0=true) (h1:al c1=true) (h2:al c2=true) (h3:al c3=true) (l:List St) (n:Int)
 (h:∀x∈num l n,af Tryz.prog 120 [.bc (lE c0 c1 c2 c3 E),cb X x] (·=.bool (oT (ga X E) x.1))):
 af Tryz.prog 42 [.bc (lE c0 c1 c2 c3 E),.fs ((num l n).map (cb X))] (·=.bool (lu (ga X E) l)):=by
 simp only[lE]at h⊢;have gi:ae (E.map V.bool)=true:=bS (fun x=>by simp[al]) E;have T2:∀x∈num l n,af Tryz.prog 119 ([]++ [cb X x]++ [.bc [.bc [c0,c1,c2,c3,.fs (E.map .bool)]]]) (·=.bool (!oT (ga X E) x.1)):=by
  intro x hx;have hx:=h x hx;obtain⟨s,i⟩:=x;rcases s with⟨k,r,t,v,lb,⟨ek,en,es,aR⟩,a,b,p,ps⟩
  rw[ic]at hx⊢;simp only[List.nil_append,List.cons_append];refine af.intro Z7 100 (by simp) 20 ?_;simp -implicitDefEqProofs only[TI,go_sem];repeat' (first | ((first | ((with_reducible refine bj hx ?_ ?_);(·simp[ae,al,cm,h0,h1,h2,h3,gi])) | ((with_reducible apply cj);(·simp -implicitDefEqProofs only[List.map_cons,List.map_nil,h0,h1,h2,h3,gi,push_cast,go_sem_proc]<;>rfl);(with_reducible exact hx);(·rfl)) | (with_reducible refine aD ?_));simp -implicitDefEqProofs only[go_sem]) | (with_reducible refine aA.mk ?_ ?_) | (with_reducible refine And.intro ?_ ?_) | ((with_reducible refine bz ?_);simp -implicitDefEqProofs only[TJ,push_cast,go_sem_proc]) | intro _)
 have JS:=t278 X (num l n) 119 [] [.bc [.bc [c0,c1,c2,c3,.fs (E.map .bool)]]] (fun x=> !oT (ga X E) x.1) rfl (by simp[ae,al,h0,h1,h2,h3,gi]) T2;have ey:(num l n).any (fun x=> !oT (ga X E) x.1)= !lu (ga X E) l:=by
  rw[xa];clear h T2 JS;induction l generalizing n with
  | nil=>rfl
  | cons s l ih=>simp only[num,List.any_cons,List.all_cons,ih,Bool.not_and]
 rw[ey]at JS;refine af.intro ZY 100 (by simp) 20 ?_;simp -implicitDefEqProofs only[Tv,go_sem];repeat' (first | ((first | ((with_reducible refine bj JS ?_ ?_);(·simp[ae,al,cm,h0,h1,h2,h3,gi])) | ((with_reducible apply cj);(·simp -implicitDefEqProofs only[List.map_cons,List.map_nil,h0,h1,h2,h3,gi,push_cast,go_sem_proc]<;>rfl);(with_reducible exact JS);(·rfl)) | (with_reducible refine aD ?_));simp -implicitDefEqProofs only[go_sem]) | (with_reducible refine aA.mk ?_ ?_) | (with_reducible refine And.intro ?_ ?_) | ((with_reducible refine bz ?_);simp -implicitDefEqProofs only[Tw,push_cast,go_sem_proc]) | intro _)
 all_goals (try simp)
theorem t230 (X:List Pr) (E:List Bool) (hE:E.length=X.length) (c0 c1 c2 c3:V) (h0:al c0=true) (h1:al c1=true) (h2:al c2=true) (h3:al c3=true):∀(m:Nat) (l:List St),SizeOf.sizeOf l<m->uU X l=true->∀n:Int,
 af Tryz.prog 42 [.bc (lE c0 c1 c2 c3 E),.fs ((num l n).map (cb X))] (·=.bool (lu (ga X E) l))
 | 0,l,h=>absurd h (Nat.not_lt_zero _)
 | m+1,l,hm=>fun dx n=>T1 X E c0 c1 c2 c3 h0 h1 h2 h3 l n (fun x hx=>by
  have da:=Cj hx;have AL:=sE dx _ da;have hs:=List.sizeOf_lt_of_mem da;obtain⟨s,i⟩:=x;rcases s with⟨k,r,t,v,lb,⟨ek,en,es,aR⟩,a,b,p,ps⟩
  simp only[St.mk.sizeOf_spec]at hs;have vk:=AL;simp only[DL,Bool.and_eq_true]at vk;exact Ly X E hE c0 c1 c2 c3 h0 h1 h2 h3 k r t v lb ek en es aR a b p ps i AL (t230 X E hE c0 c1 c2 c3 h0 h1 h2 h3 m a (by omega) vk.2.1 _) (t230 X E hE c0 c1 c2 c3 h0 h1 h2 h3 m b (by omega) vk.2.2 _))
def eF (X:List Pr):List Pr->Int->List V
 | [],_=> []
 | q::l,n=> .fs ((num q.steps n).map (cb X))::eF X l (n+ai q.steps)
theorem jT (X:List Pr):∀(a b:List Pr) (n:Int),eF X (a++b) n=eF X a n++eF X b (n+bD a)
 | [],b,n=>by simp[eF,bD]
 | x::a,b,n=>by
  rw[List.cons_append,eF,eF,jT X a b,bD,List.cons_append];congr 3;omega
theorem cT (X:List Pr):∀(l:List Pr) (n:Int),(eF X l n).length=l.length
 | [],n=>rfl
 | x::l,n=>by simp[eF,cT X l]
def OC (l:List V):Prop:=∀v∈l,∃es,v=.fs es/\ae es=true
theorem eG (X:List Pr):∀(l:List Pr) (n:Int),OC (eF X l n)
 | [],n,v,h=>by simp[eF]at h
 | q::l,n,v,h=>by
  simp only[eF,List.mem_cons]at h;rcases h with rfl | h
  ·exact⟨_,rfl,aY X _⟩
  ·exact eG X l _ v h
theorem ee:∀{l:List V},OC l->ae l=true
 | [],_=>by simp[ae]
 | v::l,h=>by
  obtain⟨es,rfl,he⟩:=h v (by simp);have h':OC l:=fun u hu=>h u (List.mem_cons_of_mem _ hu)
  simp only[ae,al,he,ee h',Bool.and_self]
theorem fsv_fz (H:List ak) (n:Nat):∀{l:List V},OC l->eI (fz H (n+1)) l=some l
 | [],_=>by simp[cN]
 | v::l,h=>by
  obtain⟨es,rfl,he⟩:=h v (by simp);have h':OC l:=fun u hu=>h u (List.mem_cons_of_mem _ hu)
  rw[b7,jL,fsv_fz H n h'];simp[he,dR]
theorem GA {l:List V} (h:OC l):df 1 l:=by
 intro e he;cases l with
 | nil=>simp at he
 | cons x l=>simp at he;subst he;obtain⟨es,rfl,_⟩:=h x (by simp);rfl
theorem OV.fzv {H:List ak} {kv:V} {l:List V} (h:OV H kv l) (hl:OC l) (n:Nat):Av.fz H (n+2) kv=some (.fs l):=by
 rcases h with⟨h1,rfl⟩ | ⟨_,id,rfl,hid⟩
 ·rw[fQ,h1]
 ·rw[iu,hid,ef,if_pos (by simp),List.drop_zero,List.take_of_length_le (by simp),fsv_fz H n hl];rfl
theorem p4 (H:List ak) (n:Nat) (E:List Bool):eI (fz H (n+1)) (E.map .bool)=some (E.map .bool):=dg _ _ (fun x=>pB _ _ x) E
attribute [push_cast] p4
def fy (P:bH) (E:List Bool):List V:=lE (.fs (P.procs.map aF)) (.fs (P.main.map encS)) (.fs ((num P.main 0).map (cb P.procs))) (.fs (eF P.procs P.procs (ai P.main))) E
def AN (P:bH):Prop:=uU P.procs P.main=true/\∀q∈P.procs,uU P.procs q.steps=true
theorem t317 (P:bH):∀(m:Nat) (xs:List St),SizeOf.sizeOf xs<m->∀n:Int,0<=n->n+ai xs<=1000000->
 af Tryz.prog 179 [aP P,.fs (xs.map encS),.int .i64 n] (·=.dJ [.fs ((num xs n).map (cb P.procs)),.int .i64 (n+ai xs)])
 | 0,xs,h=>absurd h (Nat.not_lt_zero _)
 | m+1,xs,hm=>fun n h0 hn=>T0 P xs n h0 hn (fun k r t v l e a b p ps da n h0=>by
  have hs:=List.sizeOf_lt_of_mem da;simp only[St.mk.sizeOf_spec]at hs;exact⟨fun hc=>t317 P m a (by omega) n h0 hc,fun hc=>t317 P m b (by omega) n h0 hc⟩)
theorem t277 (P:bH) (hc:total P<=1000000) (ew:P.procs.length<=1000000) (dx:AN P):af Tryz.prog 117 [aP P] (·=.bc (fy P (bY P.procs))):=by
 rcases P with⟨xs,main⟩
 have hT:total ⟨xs,main⟩=ai main+bD xs:=rfl;rw[hT]at hc;have OD:=t317 ⟨xs,main⟩;have hm:=OD _ main (Nat.lt_succ_self _) 0 (by omega) (by omega);simp only[aP,Int.zero_add]at OD hm;simp only at ew;refine af.intro Z5 600 (by simp) 20 ?_;simp -implicitDefEqProofs only[TF,aP,go_sem];repeat' (first | ((first | ((with_reducible refine bj hm ?_ ?_);(·simp[ae,al,cm])) | ((with_reducible apply cj);(·simp -implicitDefEqProofs only[List.map_cons,List.map_nil,push_cast,go_sem_proc]<;>rfl);(with_reducible exact hm);(·rfl)) | (with_reducible refine aD ?_));simp -implicitDefEqProofs only[go_sem]) | (with_reducible refine aA.mk ?_ ?_) | (with_reducible refine And.intro ?_ ?_) | ((with_reducible refine bz ?_);simp -implicitDefEqProofs only[Gv,push_cast,go_sem_proc]) | intro _)
 ·omega
 ·omega
 rename_i hlen;have Jx:ae ((num main 0).map (cb xs))=true:=aY xs _;generalize vl:(num main 0).map (cb xs)=mn at*;refine aL (fun m e H=>∃pre post kv J,xs=pre++post/\m=post.length/\e 1=.ptr 0 0 0/\e 3=.ptr 2 0 0/\e 4=.int .i64 ((ai main:Int)+bD pre)/\e 29=.fs (xs.map aF)/\e 30=.int .i64 xs.length/\e 31=.int .i64 pre.length/\
  H=ak.row [.agg [.fs (xs.map aF),.fs (main.map encS)]]::ak.row (List.replicate xs.length (.bool false))::ak.row [.agg [.fs (xs.map aF),.fs (main.map encS),.fs mn,kv,.ms 1 0 xs.length]]::J/\OV H kv (eF xs pre (ai main))/\a7 kv 0/\a7 kv 1/\a7 kv 2) xs.length ⟨[],xs,.ag,[],by simp[az,aC],rfl,by simp[az,aC],by simp[az,aC],by simp[az,aC,bD],by simp[az,aC],by simp[az,aC],by simp[az,aC],rfl,.inl ⟨rfl,rfl⟩,(fun a b h=>by cases h),(fun a b h=>by cases h),(fun a b h=>by cases h)⟩ ?_
 rintro m e H ⟨pre,post,kv,J,ao,rfl,h1,h3,h4,oR,gO,EM,rfl,bm,dW,iT,ir⟩;have ba:V.one kv=true:=bm.cS;simp only[V.one]at ba;have cP:=bm.one;cases post with
 | nil=>
  have ev:pre=xs:=by rw[ao];simp
  rw[ev]at bm;simp -implicitDefEqProofs only[h1,h3,h4,oR,gO,EM,aI ao,ba,cP,go_sem];clear h1 h4 oR gO EM ao ev ba;have eN:List.replicate xs.length (V.bool false)=(List.replicate xs.length false).map V.bool:=by simp
  rw[eN]at bm⊢;have l6:=cT xs xs (ai main);have Ic:=eG xs xs (ai main);generalize DM:eF xs xs (ai main)=BL at*;have T3:∀(E:List Bool),OV (ak.row [.agg [.fs (xs.map aF),.fs (main.map encS)]]::ak.row (E.map .bool)::ak.row [.agg [.fs (xs.map aF),.fs (main.map encS),.fs mn,kv,.ms 1 0 xs.length]]::J) kv BL:=fun E=>bm.set (x:=ak.row (E.map .bool)) iT
  have yZ:∀(E:List Bool),E.length=xs.length->List.take xs.length (E.map V.bool)=E.map .bool:=fun E hE=>List.take_of_length_le (by simp[hE])
  have hzB:=fun E=>(T3 E).fzv Ic 17
  have hend:∀E,Lo xs E->Cl xs E->fy ⟨xs,main⟩ (bY xs)=[.fs (xs.map aF),.fs (main.map encS),.fs mn,.fs BL,.fs (E.map .bool)]:=fun E h1 h2=>by
   rw[<-v7 h2 h1,fy,lE,<-vl,<-DM]
  refine aL (fun m e H=>∃E mo,Lo xs E/\(mo=false->Cl xs E)/\m=2*jC E+(if mo then 1 else 0)/\e 3=.ptr 2 0 0/\e 8=.bool mo/\
   H=ak.row [.agg [.fs (xs.map aF),.fs (main.map encS)]]::ak.row (E.map .bool)::ak.row [.agg [.fs (xs.map aF),.fs (main.map encS),.fs mn,kv,.ms 1 0 xs.length]]::J) (2*jC (List.replicate xs.length false)+1) ⟨_,true,Lo.init xs,(fun h=>by cases h),rfl,by simp[az,h3],by simp[az],rfl⟩ ?_
  rintro m e H ⟨E,mo,yj,eT,rfl,h3,h8,rfl⟩;cases mo with
  | false=>
   simp -implicitDefEqProofs only[h3,h8,go_sem];simp -implicitDefEqProofs only[Gv,h3,hzB,yZ E yj.1,yj.1,Jx,if_true,cP,push_cast,go_sem_proc];rw[hend E yj (eT rfl)]
  | true=>
   rcases bm with⟨gi,rfl⟩ | ⟨gi,id,rfl,hid⟩
   ·have Io:xs=[]:=by rw[<-List.length_eq_zero_iff,<-l6,gi];rfl
    subst Io;simp -implicitDefEqProofs only[h3,h8,cP,go_sem];refine aL (fun m e H1=>e 3=.ptr 2 0 0/\e 8=.bool false/\e 59=.int .i64 0/\e 60=.int .i64 0/\H1=_) 0 ⟨by simp[az,h3],by simp[az],by simp[az],by simp[az],rfl⟩ ?_;rintro m e H ⟨h3,h8,wP,Dq,rfl⟩;simp -implicitDefEqProofs only[h3,h8,wP,Dq,Int.lt_irrefl,decide_false,go_sem];exact⟨2*jC E,by omega,E,false,yj,(fun _=>⟨yj.1,fun i q h=>by simp at h⟩),by simp,rfl,rfl⟩
   ·have GB:∀(E:List Bool),(ak.row [.agg [.fs (xs.map aF),.fs (main.map encS)]]::ak.row (E.map .bool)::ak.row [.agg [.fs (xs.map aF),.fs (main.map encS),.fs mn,.ms id 0 BL.length,.ms 1 0 xs.length]]::J)[id]? =some (.row BL):=fun E=>by
     rcases T3 E with⟨_,h⟩ | ⟨_,ph,h,h'⟩
     ·cases h
     ·injection h with h _ _;subst h;exact h'
    simp -implicitDefEqProofs only[h3,h8,cP,go_sem];intro OE;rw[l6]at hzB GB⊢;refine aL (fun m e H=>∃pre post E' mo,xs=pre++post/\m=post.length/\Lo xs E'/\(mo=true->jC E'<jC E)/\(mo=false->E'=E/\∀(i:Nat) q,pre[i]? =some q->lu (ga xs E) q.steps=true->E[i]? =some true)/\
     e 3=.ptr 2 0 0/\e 8=.bool mo/\e 58=.ms id 0 xs.length/\e 59=.int .i64 xs.length/\e 60=.int .i64 pre.length/\
     H=ak.row [.agg [.fs (xs.map aF),.fs (main.map encS)]]::ak.row (E'.map .bool)::ak.row [.agg [.fs (xs.map aF),.fs (main.map encS),.fs mn,.ms id 0 xs.length,.ms 1 0 xs.length]]::J) xs.length
     ⟨[],xs,E,false,rfl,rfl,yj,(fun h=>by cases h),(fun _=>⟨rfl,fun i q h=>by simp at h⟩),by simp[az,h3],by simp[az],by simp[az],by simp[az],by simp[az],rfl⟩ ?_
    rintro m e H ⟨pre,post,E',mo,ao,rfl,r7,DN,xW,h3,h8,oU,wP,Dq,rfl⟩;cases post with
    | nil=>
     have ev:pre=xs:=by rw[ao];simp
     simp -implicitDefEqProofs only[h3,h8,oU,wP,Dq,aI ao,go_sem];refine⟨2*jC E'+(if mo then 1 else 0),?_,E',mo,r7,(fun h=> ?_),rfl,rfl,rfl⟩
     ·cases mo with
      | true=>have:=DN rfl;simp;omega
      | false=>have:=(xW rfl).1;subst this;simp
     ·obtain⟨rfl,h'⟩:=xW h;exact⟨r7.1,fun i q hq ht=>h' i q (by rw[ev];exact hq) ht⟩
    | cons q post=>
     have cR:pre.length<xs.length:=by rw[ao];simp
     have tW:BL.getD pre.length .any=.fs ((num q.steps ((ai main:Int)+bD pre)).map (cb xs)):=by
      rw[<-DM];have:eF xs (pre++q::post) (ai main)=eF xs pre (ai main)++ .fs ((num q.steps ((ai main:Int)+bD pre)).map (cb xs))::eF xs post ((ai main:Int)+bD pre+ai q.steps):=by rw[jT];rfl
      rw[<-ao]at this;rw[this,List.getD_eq_getElem?_getD,List.getElem?_append_right (by rw[cT];omega),cT];simp
     have OF:=r7.1;have OG:(E'.map V.bool).getD pre.length .any=.bool (E'.getD pre.length false):=by
      simp[List.getD,List.getElem?_map,List.getElem?_eq_getElem (show pre.length<E'.length by omega)]
     have OH:=t230 xs E' OF (.fs (xs.map aF)) (.fs (main.map encS)) (.fs mn) (.fs BL) (by simp[al,aq]) (by simp[al,ah]) (by simp[al,Jx]) (by simp only[al];exact ee Ic) _ q.steps (Nat.lt_succ_self _) (dx.2 q (by rw[ao];simp)) ((ai main:Int)+bD pre);simp only[lE]at OH;have T4:ae ((num q.steps ((ai main:Int)+bD pre)).map (cb xs))=true:=aY xs _;generalize T5:(num q.steps ((ai main:Int)+bD pre)).map (cb xs)=qt at*;have gj:iD pre.length E'.length:=⟨by omega,by simp;omega⟩;have T6:iD pre.length xs.length:=⟨by omega,by simp;omega⟩;have T7:E'[pre.length]? =some (E'.getD pre.length false):=by rw[List.getD_eq_getElem?_getD,List.getElem?_eq_getElem (by omega)];rfl
     generalize hbv:E'.getD pre.length false=bv at*;generalize T8:lu (ga xs E') q.steps=tv at*;have htB:BL.take xs.length=BL:=List.take_of_length_le (by omega);have hfB:∀H n,eI (fz H (n+1)) BL=some BL:=fun H n=>fsv_fz H n Ic
     simp -implicitDefEqProofs only[h3,h8,oU,wP,Dq,an ao,aa ao hlen,GB,tW,OG,gj,T6,l6,OF,Nat.le_refl,cR,go_sem];repeat' (first | ((first | ((with_reducible refine bj OH ?_ ?_);(·simp[ae,al,cm,GB E',l6,htB,hfB,yZ E' OF,p4,Nat.le_refl,if_true,OF,Jx,T4,List.drop_zero])) | ((with_reducible apply cj);(·simp -implicitDefEqProofs only[List.map_cons,List.map_nil,GB E',l6,htB,hfB,yZ E' OF,p4,Nat.le_refl,if_true,OF,Jx,T4,List.drop_zero,push_cast,go_sem_proc]<;>rfl);(with_reducible exact OH);(·rfl)) | (with_reducible refine aD ?_));simp -implicitDefEqProofs only[h3,h8,oU,wP,Dq,an ao,aa ao hlen,GB,tW,OG,gj,T6,l6,OF,Nat.le_refl,cR,go_sem]) | (with_reducible refine aA.mk ?_ ?_) | (with_reducible refine And.intro ?_ ?_) | ((with_reducible refine bz ?_);simp -implicitDefEqProofs only[Gv,push_cast,go_sem_proc]) | intro _)
     ·rename_i lC AO;have lC:bv=false:=by simpa using lC
      have AO:tv=true:=by simpa using AO
      subst lC AO;have MR:=jS T7;refine⟨_,Nat.lt_succ_self _,pre++ [q],post,E'.set pre.length true,true,by simp[ao],rfl,r7.step (q:=q) (by rw[ao];simp) T8,(fun _=> ?_),(fun h=>by cases h),rfl,by simp,?_⟩
      ·cases mo with
       | true=>have:=DN rfl;omega
       | false=>have:=(xW rfl).1;subst this;omega
      ·simp[List.map_set]
     ·rename_i lC AO;have lC:bv=false:=by simpa using lC
      have AO:tv=false:=by simpa using AO
      subst lC AO;refine⟨_,Nat.lt_succ_self _,pre++ [q],post,E',mo,by simp[ao],rfl,r7,DN,(fun h=> ?_),rfl,by simp,rfl⟩;obtain⟨rfl,h'⟩:=xW h;refine⟨rfl,fun i q' ln Af=> ?_⟩;by_cases hi:i<pre.length
      ·rw[List.getElem?_append_left hi]at ln;exact h' i q' ln Af
      ·rw[List.getElem?_append_right (by omega)]at ln;have:i - pre.length=0:=by have:=(List.getElem?_eq_some_iff.1 ln).1;simp at this;omega
       rw[this]at ln;simp at ln;subst ln;rw[T8]at Af;cases Af
     ·rename_i lC;have lC:bv=true:=by simpa using lC
      subst lC;refine⟨_,Nat.lt_succ_self _,pre++ [q],post,E',mo,by simp[ao],rfl,r7,DN,(fun h=> ?_),rfl,by simp,rfl⟩;obtain⟨rfl,h'⟩:=xW h;refine⟨rfl,fun i q' ln Af=> ?_⟩;by_cases hi:i<pre.length
      ·rw[List.getElem?_append_left hi]at ln;exact h' i q' ln Af
      ·rw[List.getElem?_append_right (by omega)]at ln;have:i - pre.length=0:=by have:=(List.getElem?_eq_some_iff.1 ln).1;simp at this;omega
       have:i=pre.length:=by omega
       subst this;exact T7
 | cons q post=>
  have hg:=aO aF ao;simp only[aF]at hg;have Qw:bD xs=bD pre+(ai q.steps+bD post):=by rw[ao,bE,bD]
  have cR:pre.length<=xs.length:=by rw[ao];simp
  have BV:eF xs (pre++ [q]) (ai main)=eF xs pre (ai main)++ [.fs ((num q.steps ((ai main:Int)+bD pre)).map (cb xs))]:=by
   rw[jT];rfl
  have hq:=OD _ q.steps (Nat.lt_succ_self _) ((ai main:Int)+bD pre) (by omega) (by omega);have l6:=cT xs pre (ai main);generalize T5:(num q.steps ((ai main:Int)+bD pre)).map (cb xs)=qt at*;simp -implicitDefEqProofs only[h1,h3,h4,oR,gO,EM,an ao,aa ao hlen,ba,cP,hg,go_sem];repeat' (first | ((first | ((with_reducible refine bj hq ?_ ?_);(·simp[ae,al,cm])) | ((with_reducible apply cj);(·simp -implicitDefEqProofs only[List.map_cons,List.map_nil,push_cast,go_sem_proc]<;>rfl);(with_reducible exact hq);(·rfl)) | (with_reducible refine aD ?_));simp -implicitDefEqProofs only[h1,h3,h4,oR,gO,EM,an ao,aa ao hlen,ba,cP,hg,go_sem]) | (with_reducible refine aA.mk ?_ ?_) | (with_reducible refine And.intro ?_ ?_) | ((with_reducible refine bz ?_);simp -implicitDefEqProofs only[Gv,push_cast,go_sem_proc]) | intro _)
  refine cu (bm.app _) (fun i o l h=>by cases h) (GA (eG _ _ _)) (by simp[l6];omega) ?_;rintro bN H' bo hle cp;obtain⟨pO,lV⟩:=cp 0 (by simp) dW;obtain⟨ky,pn⟩:=cp 1 (by simp) iT;obtain⟨jO,nY⟩:=cp 2 (by simp) ir;simp only[List.cons_append,List.getElem?_cons_zero,List.getElem?_cons_succ]at pO ky jO;obtain⟨J',rfl⟩:=jo pO ky jO;have hone':V.one bN=true:=bo.cS;simp only[V.one]at hone';have gQ:=bo.one;simp -implicitDefEqProofs only[h1,h3,h4,oR,gO,EM,an ao,aa ao hlen,hone',gQ,ba,cP,go_sem];refine⟨_,Nat.lt_succ_self _,pre++ [q],post,bN,J',by simp[ao],rfl,?_,by simp,rfl,?_,lV,pn,nY⟩
  ·rw[bE];simp only[bD];simp only[Int.natCast_add,Int.natCast_one];congr 1;omega
  ·rw[BV];exact bo.set (x:=ak.row [.agg [.fs (xs.map aF),.fs (main.map encS),.fs mn,bN,.ms 1 0 xs.length]]) nY
theorem Ck {P:bH}:∀{l:List mV},EK P l=0->∀y∈l,vf P y=0
 | [],_,y,h=>by simp at h
 | x::l,h,y,hy=>by
  simp only[EK]at h;split at h
  ·rename_i h1;exact absurd h h1
  ·rename_i h1;rcases List.mem_cons.1 hy with rfl | hy
   ·simpa using h1
   ·exact Ck h y hy
theorem y5 {P:bH} (h:lK P=0):∀y∈cw P,vf P y=0:=by
 rw[lK]at h;split at h
 ·rename_i h1;exact absurd h h1
 ·exact Ck h
def QK (X:List Pr):St->Bool
 | .mk k _ _ _ _ _ _ _ p _=>k !=5 || decide (0<=procI X p)
mutual
theorem OJ {X:List Pr}:∀(s:St) (pr:Int) (la:Bool),(∀y∈nu s pr la,QK X y.1=true)->DL X s=true
 | .mk k r t v l e a b p ps,pr,la,h=>by
  simp only[nu,List.mem_cons,List.mem_append]at h;have h0:=h _ (.inl rfl);simp only[QK]at h0;simp only[DL,h0,tX a pr la (fun y hy=>h y (.inr (.inl hy))),tX b pr la (fun y hy=>h y (.inr (.inr hy))),Bool.and_self]
theorem tX {X:List Pr}:∀(l:List St) (pr:Int) (la:Bool),(∀y∈gC l pr la,QK X y.1=true)->uU X l=true
 | [],pr,la,h=>rfl
 | s::l,pr,la,h=>by
  simp only[gC,List.mem_append]at h;simp only[uU,OJ s pr _ (fun y hy=>h y (.inl hy)),tX l pr la (fun y hy=>h y (.inr hy)),Bool.and_self]
end
theorem OK {P:bH} {y:mV} (h:vf P y=0):QK P.procs y.1=true:=by
 obtain⟨⟨k,r,t,v,l,e,a,b,p,ps⟩,pr,la⟩:=y;simp only[vf,oF]at h;simp only[QK,Bool.or_eq_true,bne_iff_ne,ne_eq,decide_eq_true_eq];by_cases h5:k=5
 ·right;rcases jN (fun z:Pr=>decide (z.name=p)) P.procs 0 (by omega)with⟨hI,hF⟩ | ⟨pre,q,post,ao,hI,_⟩
  ·rw[hF]at h;simp only[h5]at h;exfalso;revert h
   split
   ·simp
   ·simp;split<;>simp
  ·rw[procI,hI];omega
 ·exact .inl h5
theorem AP {P:bH} (h:lK P=0):AN P:=by
 have hs:=fun y hy=>OK (y5 h y hy)
 simp only[cw,List.mem_append]at hs;refine⟨tX _ _ _ (fun y hy=>hs y (.inl hy)),fun q hq=> ?_⟩;have key:∀(l:List Pr) (i:Nat),q∈l->(∀y∈spP l i,QK P.procs y.1=true)->uU P.procs q.steps=true:=by
  intro l;induction l with
  | nil=>intro i h;simp at h
  | cons z l ih=>
   intro i hq hy;simp only[spP,List.mem_append]at hy;rcases List.mem_cons.1 hq with rfl | hq
   ·exact tX _ _ _ (fun y h=>hy y (.inl h))
   ·exact ih _ hq (fun y h=>hy y (.inr h))
 exact key _ 0 hq (fun y hy=>hs y (.inr hy))
noncomputable def T9 (P:bH):V:=if rE P=0 then .dJ [.bc (fy P (bY P.procs)),.int .i64 0]else .dJ [.kb,.int .i64 (rE P)]
theorem t229 (P:bH) (hc:total P<=1000000) (ew:P.procs.length<=1000000):af Tryz.prog 41 [aP P] (·=T9 P):=by
 have ez:=t11 P hc;have DO:rE P=0->af Tryz.prog 117 [aP P] (·=.bc (fy P (bY P.procs))):=fun h=>t277 P hc ew (AP (by rw[<-yR];exact h))
 have GC:fy P (bY P.procs)=[.fs (P.procs.map aF),.fs (P.main.map encS),.fs ((num P.main 0).map (cb P.procs)),.fs (eF P.procs P.procs (ai P.main)),.fs ((bY P.procs).map .bool)]:=rfl;have gi:ae (eF P.procs P.procs (ai P.main))=true:=ee (eG _ _ _);simp only[aP]at ez DO⊢;rw[T9];by_cases h0:rE P=0
 ·have DO:=DO h0;rw[h0]at ez;rw[if_pos h0];rw[GC]at DO⊢;refine af.intro Tu 200 (by simp) 20 ?_;simp -implicitDefEqProofs only[Ot,go_sem];repeat' (first | ((first | ((with_reducible first | refine bj ez ?_ ?_ | refine bj DO ?_ ?_);(·simp[ae,al,cm,gi,aq,ah,aY,br])) | ((with_reducible apply cj);(·simp -implicitDefEqProofs only[List.map_cons,List.map_nil,gi,aq,ah,aY,br,push_cast,go_sem_proc]<;>rfl);(with_reducible first | exact ez | exact DO);(·rfl)) | (with_reducible refine aD ?_));simp -implicitDefEqProofs only[Int.reduceEq,go_sem]) | (with_reducible refine aA.mk ?_ ?_) | (with_reducible refine And.intro ?_ ?_) | ((with_reducible refine bz ?_);simp -implicitDefEqProofs only[Ou,push_cast,go_sem_proc]) | intro _)
  all_goals (try simp[dR,gi])
 ·rw[if_neg h0];refine af.intro Tu 200 (by simp) 20 ?_;simp -implicitDefEqProofs only[Ot,go_sem];repeat' (first | ((first | ((with_reducible refine bj ez ?_ ?_);(·simp[ae,al,cm])) | ((with_reducible apply cj);(·simp -implicitDefEqProofs only[List.map_cons,List.map_nil,push_cast,go_sem_proc]<;>rfl);(with_reducible exact ez);(·rfl)) | (with_reducible refine aD ?_));simp -implicitDefEqProofs only[h0,go_sem]) | (with_reducible refine aA.mk ?_ ?_) | (with_reducible refine And.intro ?_ ?_) | ((with_reducible refine bz ?_);simp -implicitDefEqProofs only[Ou,push_cast,go_sem_proc]) | intro _)
  all_goals (try simp_all)
theorem tY (i:Nat):aw (.map i)=[.map i]:=rfl
theorem nL:aw .cG=[.cG]:=rfl
theorem rJ (a b:List V):aw (.db a b)=[.db a b]:=rfl
def fzQ (H:List ak) (n:Nat):Option ak->Option V
 | some (.mp ks vs)=>match eI (fz H n) ks,eI (fz H n) vs with
  | some a,some b=>some (.db a b)
  | _,_=>none
 | _=>none
theorem fz_map (H:List ak) (n i:Nat):fz H (n+1) (.map i)=fzQ H n H[i]? :=by
 simp only[fz,fzQ];cases H[i]? with
 | none=>rfl
 | some b=>cases b<;>rfl
theorem mw (H:List ak) (n:Nat) (ks vs:List V):fzQ H n (some (.mp ks vs))=match eI (fz H n) ks,eI (fz H n) vs with
 | some a,some b=>some (.db a b)
 | _,_=>none:=rfl
theorem Cm (H:List ak) (n:Nat) (a b:List V):fz H (n+1) (.db a b)=if ae a && ae b then some (.db a b)else none:=by simp[fz,al]
attribute [go_sem] tY nL rJ
attribute [push_cast] tY nL rJ fz_map mw Cm
def bF (l:List Int):List V:=l.map fun _=> .bool true
theorem bL (l:List Int) (n:Int):ya (false,[false]) (l.map (.int .i64)) (.int .i64 n)=true:=by
 simp[ya,o8,iN,gE,fF]
theorem gT (n:Int):∀l:List Int,gG (l.map (.int .i64)) (bF l) (.int .i64 n)=if n∈l then some (.bool true)else none
 | []=>by simp[gG,bF]
 | x::l=>by
  have:=gT n l;simp only[bF]at this;simp only[List.map_cons,bF,gG,this,gE,fF,if_true,Option.some.injEq,decide_eq_true_eq,List.mem_cons];by_cases h:n=x
  ·simp[h]
  ·simp[h]
theorem b6 (n:Int) (l:List Int):fT false (.bool false) (gG (l.map (.int .i64)) (bF l) (.int .i64 n))=.bool (decide (n∈l)):=by
 rw[gT,fT];by_cases h:n∈l<;>simp[h]
theorem Cn (n:Int):∀l:List Int,(l.map (V.int .i64)).any (fun q=>gE (.int .i64 n) q==some true)=l.contains n
 | []=>rfl
 | x::l=>by
  rw[List.map_cons,List.any_cons,Cn n l,List.contains_cons];by_cases h:n=x
  ·subst h;simp[gE,fF]
  ·simp[gE,fF,h]
theorem b8 (n:Int) (l:List Int):ja (l.map (.int .i64)) (.int .i64 n)=(fc l n).map (.int .i64):=by
 rw[ja,Cn,fc];split<;>simp
theorem b9 (n:Int):∀l:List Int,im (l.map (.int .i64)) (bF l) (.int .i64 n) (.bool true)=bF (fc l n)
 | []=>by simp[im,bF,fc]
 | x::l=>by
  have ih:=b9 n l;simp only[bF,List.map_cons,im,gE,fF,if_true,Option.some.injEq,decide_eq_true_eq]at ih⊢;by_cases h:n=x
  ·simp[h,fc]
  ·rw[if_neg h,ih];simp only[fc,List.contains_cons,beq_false_of_ne h,Bool.false_or];split<;>simp
theorem bZ (l:List Int):ae (bF l)=true:=bS (fun x=>by simp[al]) l
theorem kz (H:List ak) (n:Nat) (l:List Int):eI (fz H (n+1)) (bF l)=some (bF l):=dg _ _ (fun x=>pB _ _ true) l
theorem fA (H:List ak) (n:Nat) (l:List Int):eI (fz H (n+1)) (l.map (.int .i64))=some (l.map (.int .i64)):=dg _ _ (fun x=>jZ _ _ _ x) l
attribute [push_cast] kz fA bZ
attribute [simp] bZ
theorem mX (P:bH) (i:Nat) (hi:i<P.procs.length):(eF P.procs P.procs (ai P.main)).getD i .any=.fs ((num (aK P.procs i) (dc P i)).map (cb P.procs)):=by
 obtain⟨pre,q,post,h,hl⟩:∃pre q post,P.procs=pre++q::post/\pre.length=i:=⟨P.procs.take i,P.procs[i],P.procs.drop (i+1),by rw[<-List.drop_eq_getElem_cons hi,List.take_append_drop],by simp;omega⟩;have hb:aK P.procs i=q.steps:=by
  unfold aK
  rw[h,<-hl];simp
 have ho:dc P i=(ai P.main:Int)+bD pre:=by
  unfold dc
  rw[h,<-hl];simp
 have h2:eF P.procs (pre++q::post) (ai P.main)=eF P.procs pre (ai P.main)++ .fs ((num q.steps ((ai P.main:Int)+bD pre)).map (cb P.procs))::eF P.procs post ((ai P.main:Int)+bD pre+ai q.steps):=by rw[jT];rfl
 rw[<-h]at h2;rw[h2,List.getD_eq_getElem?_getD,List.getElem?_append_right (by rw[cT];omega),cT,hl,hb,ho];simp
end Go.Proofs.YtdgoeblpcnjlbaaGreatDoor.Av

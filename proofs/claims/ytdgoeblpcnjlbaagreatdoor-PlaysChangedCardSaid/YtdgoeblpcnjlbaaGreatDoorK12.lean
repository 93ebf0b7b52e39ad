/- Proved: for every list of numbers the law PlaysChanged answers true and leaves its argument as it was (the tied card); no condition beyond the row's own. Text 12 of 17. -/
import Derived.Shelf.SlIterI.Nil
import Derived.Shelf.SortM.Plain
import Derived.Shelf.SortM.SortNone
import Derived.Ground.GgzProg
import Derived.Ground.SlgmProg
import Derived.Test.YtdgoeblpcnjlbaaGreatDoorProg
import Derived.Test.YtdgoeblpcnjlbaaGreatDoorK11
set_option linter.all false
set_option maxRecDepth 100000
set_option maxHeartbeats 64000000
namespace Go.Proofs.YtdgoeblpcnjlbaaGreatDoor.Av
open Go.RowKit List
theorem KR.get {H H1:List ak} {kv kv1:V} {so so1:List Int×List Int} (h:KR H kv so H1 kv1 so1) {j:Nat} (hj:j<H.length) (h2:j≠2) (h4:j≠4) (hk:a7 kv j):H1[j]? =H[j]? /\a7 kv1 j:=by
 rcases h.Is with⟨_,rfl,h3⟩ | ⟨_,id,rfl,hid,_,h5⟩
 ·exact⟨h3 j hj,hk⟩
 ·exact⟨(h5 j hj h2 h4).trans (mY hk),fun a b e=>by injection e;omega⟩
theorem KR.kill {H H1:List ak} {kv kv1:V} {so so1:List Int×List Int} (h:KR H kv so H1 kv1 so1) (hN:4<H.length) {id:Nat} (hid:H.length<=id) (hk:a7 kv1 id):KR H kv so (H1.set id .dead) kv1 so1:=by
 have hl:=h.len;have dr:∀j,j≠id->(H1.set id .dead)[j]? =H1[j]? :=fun j hj=>by rw[getElem?_set_ne (fun e=>hj e.symm)]
 refine⟨by simpa using hl,⟨by rw[dr 2 (by omega)];exact h.inv.seen,by rw[dr 3 (by omega)];exact h.inv.cell,by rw[dr 4 (by omega)];exact h.inv.open_,?_,h.inv.n2,h.inv.n3,h.inv.n4⟩,?_⟩
 ·rcases h.inv.ov with h' | ⟨ph,off,es,h1,h2,h3⟩
  ·exact .inl h'
  ·exact .inr ⟨ph,off,es,h1,by rw[dr ph (fun e=>hk off so1.2.length (by rw[h1,e]))];exact h2,h3⟩
 ·rcases h.Is with⟨h1,h2,h3⟩ | ⟨h1,ph,h2,h3,h4,h5⟩
  ·exact .inl ⟨h1,h2,fun j hj=>by rw[dr j (by omega)];exact h3 j hj⟩
  ·exact .inr ⟨h1,ph,h2,h3,by rw[dr ph (fun e=>hk 0 so1.2.length (by rw[h2,e]))];exact h4,fun j hj a b=>by rw[dr j (by omega)];exact h5 j hj a b⟩
theorem KR.JM {H H1:List ak} {kv kv1:V} {so so1:List Int×List Int} (h:KR H kv so H1 kv1 so1) (hN:4<H.length) {id:Nat} (hid:H.length<=id) (hk:a7 kv1 id) (b:ak):KR H kv so (H1.set id b) kv1 so1:=by
 have hl:=h.len;have dr:∀j,j≠id->(H1.set id b)[j]? =H1[j]? :=fun j hj=>by rw[getElem?_set_ne (fun e=>hj e.symm)]
 refine⟨by simpa using hl,⟨by rw[dr 2 (by omega)];exact h.inv.seen,by rw[dr 3 (by omega)];exact h.inv.cell,by rw[dr 4 (by omega)];exact h.inv.open_,?_,h.inv.n2,h.inv.n3,h.inv.n4⟩,?_⟩
 ·rcases h.inv.ov with h' | ⟨ph,off,es,h1,h2,h3⟩
  ·exact .inl h'
  ·exact .inr ⟨ph,off,es,h1,by rw[dr ph (fun e=>hk off so1.2.length (by rw[h1,e]))];exact h2,h3⟩
 ·rcases h.Is with⟨h1,h2,h3⟩ | ⟨h1,ph,h2,h3,h4,h5⟩
  ·exact .inl ⟨h1,h2,fun j hj=>by rw[dr j (by omega)];exact h3 j hj⟩
  ·exact .inr ⟨h1,ph,h2,h3,by rw[dr ph (fun e=>hk 0 so1.2.length (by rw[h2,e]))];exact h4,fun j hj a b=>by rw[dr j (by omega)];exact h5 j hj a b⟩
def KO (M:Nat) (H:List ak) (kv qy:V) (acc:List V):Prop:=OV H qy acc/\∀id o l,qy=.ms id o l->M<=id/\a7 kv id
theorem KO.kr {M:Nat} {H H1:List ak} {kv kv1 qy:V} {acc:List V} {so so1:List Int×List Int} (h:KO M H kv qy acc) (hM:4<M) (g:KR H kv so H1 kv1 so1):KO M H1 kv1 qy acc:=by
 rcases h with⟨⟨h1,h2⟩ | ⟨h1,id,h2,h3⟩,h4⟩
 ·exact⟨.inl ⟨h1,h2⟩,fun id o l e=>by rw[h2]at e;cases e⟩
 ·obtain⟨h5,h6⟩:=h4 id 0 _ h2;obtain⟨g1,g2⟩:=g.get (List.getElem?_eq_some_iff.1 h3).1 (by omega) (by omega) h6;exact⟨.inr ⟨h1,id,h2,by rw[g1];exact h3⟩,fun ph o l e=>by rw[h2]at e;injection e with e _ _;subst e;exact⟨h5,g2⟩⟩
theorem OV.mB {H:List ak} {kv:V} {acc:List V} (h:OV H kv acc) {j:Nat} (hj:H.length<=j):a7 kv j:=by
 rcases h with⟨_,rfl⟩ | ⟨_,id,rfl,h2⟩
 ·intro a b e;cases e
 ·intro a b e;injection e with e _ _;have:=(List.getElem?_eq_some_iff.1 h2).1;omega
theorem JY.mB {H:List ak} {kv:V} {O:List Int} (h:JY H kv O) {j:Nat} (hj:H.length<=j):a7 kv j:=by
 rcases h with⟨_,rfl⟩ | ⟨id,off,es,rfl,h2,_⟩
 ·intro a b e;cases e
 ·intro a b e;injection e with e _ _;have:=(List.getElem?_eq_some_iff.1 h2).1;omega
theorem KR.frame {H H1 H2:List ak} {kv kv1 qy:V} {so so1:List Int×List Int} (h:KR H kv so H1 kv1 so1) (hN:4<H.length) (jf:H1.length<=H2.length) (DR:∀id o l,qy=.ms id o l->H.length<=id/\a7 kv1 id)
 (hf:∀j,j<H1.length->a7 qy j->H2[j]? =H1[j]?):KR H kv so H2 kv1 so1:=by
 have hl:=h.len;have dr:∀j,j<H.length->a7 qy j:=fun j hj a b e=>by have:=(DR j a b e).1;omega
 have hg:∀j,j<H.length->H2[j]? =H1[j]? :=fun j hj=>hf j (by omega) (dr j hj)
 refine⟨by omega,⟨by rw[hg 2 (by omega)];exact h.inv.seen,by rw[hg 3 (by omega)];exact h.inv.cell,by rw[hg 4 (by omega)];exact h.inv.open_,?_,h.inv.n2,h.inv.n3,h.inv.n4⟩,?_⟩
 ·rcases h.inv.ov with h' | ⟨ph,off,es,h1,h2,h3⟩
  ·exact .inl h'
  ·refine .inr ⟨ph,off,es,h1,?_,h3⟩;rw[hf ph (List.getElem?_eq_some_iff.1 h2).1 (fun a b e=>(DR ph a b e).2 off so1.2.length h1)];exact h2
 ·rcases h.Is with⟨h1,h2,h3⟩ | ⟨h1,ph,h2,h3,h4,h5⟩
  ·exact .inl ⟨h1,h2,fun j hj=>by rw[hg j hj];exact h3 j hj⟩
  ·refine .inr ⟨h1,ph,h2,h3,?_,fun j hj a b=>by rw[hg j hj];exact h5 j hj a b⟩;rw[hf ph (List.getElem?_eq_some_iff.1 h4).1 (fun a b e=>(DR ph a b e).2 0 so1.2.length h2)];exact h4
theorem KO.next {M:Nat} {H5 H':List ak} {kv qy bN:V} {O:List Int} {acc yM:List V} (h:KO M H5 kv qy acc) (hM:M<=H5.length) (hd:JY H5 kv O) (bo:OV H' bN yM)
 (cp:∀j,j<H5.length->a7 qy j->H'[j]? =H5[j]? /\a7 bN j):KO M H' kv bN yM:=by
 refine⟨bo,fun id o l e=> ?_⟩;have h1:∀j,j<M->a7 qy j:=fun j hj a b e=>by have:=(h.2 j a b e).1;omega
 refine⟨?_,fun a b e2=> ?_⟩
 ·refine Classical.byContradiction fun ct=> ?_
  exact(cp id (by omega) (h1 id (by omega))).2 o l e
 ·have hid:id<H5.length:=by
   refine Classical.byContradiction fun nJ=> ?_
   exact hd.mB (by omega) a b e2
  exact(cp id hid (fun x y e3=>(h.2 id x y e3).2 a b e2)).2 o l e
theorem Uj (P:bH) (ew:P.procs.length<=1000000) (S0:List Int) (xs:List St) (dx:uU P.procs xs=true) (OS:xs.length<=1000000)
 (ih:∀k r t v l e a b p ps,St.mk k r t v l e a b p ps∈xs->∀(H:List ak) (kv:V) (so:List Int×List Int),kZ H kv so->Cs P.procs.length so->
   av Tryz.prog 135 [aP P,.fs (a.map encS),.db (S0.map (.int .i64)) (bF S0),.a6 134 [] [.ptr 3 0 0,.ptr 4 0 0]] H (bX (.fs ((eH (xX P.procs S0) a).map encS)) (KH H kv so (jx P.procs so (iK (xX P.procs S0) a))))/\
   av Tryz.prog 135 [aP P,.fs (b.map encS),.db (S0.map (.int .i64)) (bF S0),.a6 134 [] [.ptr 3 0 0,.ptr 4 0 0]] H (bX (.fs ((eH (xX P.procs S0) b).map encS)) (KH H kv so (jx P.procs so (iK (xX P.procs S0) b)))))
 (H:List ak) (kv:V) (so:List Int×List Int) (hi:kZ H kv so) (xV:Cs P.procs.length so):
 av Tryz.prog 135 [aP P,.fs (xs.map encS),.db (S0.map (.int .i64)) (bF S0),.a6 134 [] [.ptr 3 0 0,.ptr 4 0 0]] H (bX (.fs ((eH (xX P.procs S0) xs).map encS)) (KH H kv so (jx P.procs so (iK (xX P.procs S0) xs)))):=by
 have h4N:=(List.getElem?_eq_some_iff.1 hi.open_).1;refine KR.fin (kv:=kv) (so:=so) (by simp[al,ah]) hi ?_;refine av.fz ?_;generalize Gz:xX P.procs S0=ec at*;generalize hN:H.length=N at*;generalize lC:ak.row [.agg [.fs (P.procs.map aF),.fs (P.main.map encS)]]=b1 at*;generalize Dx:ak.row [V.db (S0.map (.int .i64)) (bF S0)]=b2 at*;have tN:(H++ [b1,b2])[N]? =some b1:=by rw[<-hN,getElem?_append_right (Nat.le_refl _)];simp
 have gB:(H++ [b1,b2])[N+1]? =some b2:=by rw[<-hN,getElem?_append_right (by omega)];simp
 have l6:(H++ [b1,b2]).length=N+2:=by simp[hN]
 have fin:∀H1 kv1 qy,KR (H++ [b1,b2]) kv so H1 kv1 (jx P.procs so (iK ec xs))->KO (N+2) H1 kv1 qy ((eH ec xs).map encS)->
  ∃D v',fz (cQ D H1) 20 qy=some v'/\v'=.fs ((eH ec xs).map encS)/\∃fH,KR H kv so (bO D H1) fH (jx P.procs so (iK ec xs)):=by
  intro H1 kv1 qy j7 DR;have h0:KR H kv so H1 kv1 (jx P.procs so (iK ec xs)):=(KR.refl hi (by simp) (fun j hj=>by rw[getElem?_append_left hj])).trans j7;rcases DR with⟨⟨h1,h2⟩ | ⟨h1,id,h2,h3⟩,h4⟩
  ·refine⟨[],_,?_,rfl,kv1,h0⟩;rw[h2,h1,fQ]
  ·obtain⟨h5,h6⟩:=h4 id 0 _ h2;refine⟨[id],_,?_,rfl,kv1,h0.kill (by omega) (by omega) h6⟩;refine dw (f:=encS) (n:=18) (fun H x=>eg H 17 x) (.inr ⟨h1,id,h2,?_⟩);rw[cg,h3];simp
 have Ih:∀j,N<=j->a7 kv j:=fun j hj=>hi.ov.mB (by omega)
 have FA:kZ (H++ [b1,b2]) kv so:=hi.grow (fun j hj=>by rw[getElem?_append_left hj]);have QL:aP P=.agg [.fs (P.procs.map aF),.fs (P.main.map encS)]:=rfl;refine av.intro aae 600 (by simp) ?_;simp only[QL]at ih⊢;simp -implicitDefEqProofs only[TR,hN,ne_eq,not_false_eq_true,fv,fK,Nat.reduceMul,go_sem];intro hlen;refine aL (fun m e H1=>∃pre post acc qy kv1 so1,xs=pre++post/\m=post.length/\e 3=.a6 134 [] [.ptr 3 0 0,.ptr 4 0 0]/\e 4=.ptr N 0 0/\e 6=.ptr (N+1) 0 0/\e 9=qy/\e 12=.fs (xs.map encS)/\e 13=.int .i64 xs.length/\e 14=.int .i64 pre.length/\
  eH ec xs=acc++eH ec post/\jx P.procs so (iK ec xs)=jx P.procs so1 (iK ec post)/\Cs P.procs.length so1/\KR (H++ [b1,b2]) kv so H1 kv1 so1/\KO (N+2) H1 kv1 qy (acc.map encS)/\acc.length<=pre.length) xs.length
  ⟨[],xs,[],.ag,kv,so,rfl,rfl,by simp[az,aC],by simp[az,aC],by simp[az,aC],by simp[az,aC],by simp[az,aC],by simp[az,aC],by simp[az,aC],rfl,rfl,xV,by rw[<-lC,<-Dx];rw[<-lC,<-Dx]at FA;exact KR.refl FA (by simp) (fun j hj=>rfl),⟨.inl ⟨rfl,rfl⟩,fun id o l e=>by cases e⟩,Nat.le_refl _⟩ ?_
 rintro m e H1 ⟨pre,post,acc,qy,kv1,so1,ao,rfl,h3,h4,h6,h9,dU,eV,dG,It,j1,J0,j7,DR,qK⟩;cases post with
 | nil=>
  simp -implicitDefEqProofs only[h3,h4,h6,h9,dU,eV,dG,aI ao,ne_eq,not_false_eq_true,fv,fK,Nat.reduceMul,go_sem];simp -implicitDefEqProofs only[DK,ne_eq,not_false_eq_true,fv,fK,Nat.reduceMul,push_cast,go_sem_proc];simp only[eH,iK,append_nil]at It j1;have GH:jx P.procs so (iK ec xs)=so1:=j1;rw[<-It]at DR;rw[<-GH]at j7;exact fin H1 kv1 qy j7 DR
 | cons s rest=>
  have da:s∈xs:=by rw[ao];simp
  have AL:=sE dx s da;have hg:=aO encS ao;have cR:pre.length<xs.length:=by rw[ao];simp
  rcases s with⟨k,r,t,v,lb,⟨ek,en,es,aR⟩,a,b,p,ps⟩
  simp only[DL,Bool.and_eq_true,Bool.or_eq_true,bne_iff_ne,ne_eq,decide_eq_true_eq]at AL;obtain⟨hpk,Jk,hob⟩:=AL;have QM:=ih k r t v lb (.mk ek en es aR) a b p ps da;have rK:=GD P S0 184 (t320 P S0) [GG ec (.mk k r t v lb (.mk ek en es aR) a b p ps)];rw[Gz]at rK;simp only[lu,Cr,Bool.and_true]at rK;have OU:GG ec (.mk k r t v lb (.mk ek en es aR) a b p ps)=.mk k r t v lb (.mk ek en es aR) (eH ec a) (eH ec b) p ps:=rfl;rw[OU]at rK;simp only[QL,xf,map_cons,map_nil,ay]at rK;have gO:=t30 P p;simp only[QL]at gO;rw[ay]at hg;generalize Ag:ak.row [V.agg [.int .i64 k,.str r,.str t,.str v,.str lb,.int .i64 ek,.int .i64 en,.str es,.fs (aR.map bu),.fs (a.map encS),.fs (b.map encS),.str p,.fs (ps.map .str)]]=sb at*;have uN:=j7.len;rw[l6]at uN;have hA:∃H2 fH AS,(k=5->av Tryz.prog 134 [.int .i64 (bq P.procs p),.ptr 3 0 0,.ptr 4 0 0] (H1++ [sb]) (bX (.dJ []) H2))/\(k≠5->H2=H1++ [sb])/\KR (H1++ [sb]) kv1 so1 H2 fH AS/\Cs P.procs.length AS/\AS=jx P.procs so1 (if k=5 then[p]else[]):=by
   have Uk:kZ (H1++ [sb]) kv1 so1:=j7.inv.grow (fun j hj=>by rw[getElem?_append_left hj]);by_cases h5:k=5
   ·have hp:0<=bq P.procs p:=hpk.resolve_left (fun h=>h h5);have ct:=fO hp;have hI:bq P.procs p=(((bq P.procs p).toNat:Nat):Int):=by omega
    have hle:so1.2.length<=1000000:=by have:=J0.le;have:=J0.set.len;omega
    refine⟨_,_,_,fun _=>t286 _ kv1 so1 _ Uk hle,fun h=>absurd h5 h,KH.kr Uk (ub so1 _).1 (ub so1 _).2,?_,?_⟩
    ·rw[hI];exact J0.oB ct
    ·rw[if_pos h5];rfl
   ·exact⟨_,_,_,fun h=>absurd h h5,fun _=>rfl,KR.refl Uk (Nat.le_refl _) (fun _ _=>rfl),J0,by rw[if_neg h5];rfl⟩
  obtain⟨H2,fH,AS,LF,Om,ir,LG,DS⟩:=hA;have hkL:a7 kv1 H1.length:=j7.inv.ov.mB (Nat.le_refl _);have OW:=j7.get (j:=N) (by omega) (by omega) (by omega) (Ih N (Nat.le_refl _));have GJ:=j7.get (j:=N+1) (by omega) (by omega) (by omega) (Ih (N+1) (by omega));rw[tN]at OW;rw[gB]at GJ;have Ul:∀l:List ak,(H1++l)[N]? =some b1:=fun l=>by rw[getElem?_append_left (by omega)];exact OW.1
  have Um:∀l:List ak,(H1++l)[N+1]? =some b2:=fun l=>by rw[getElem?_append_left (by omega)];exact GJ.1
  have Un:(H1++ [sb])[H1.length]? =some sb:=by simp
  have jf:=ir.len;have hl1':(H1++ [sb]).length=H1.length+1:=by simp
  rw[hl1']at jf;obtain⟨f21,k21⟩:=ir.get (j:=N) (by omega) (by omega) (by omega) OW.2;obtain⟨f22,k22⟩:=ir.get (j:=N+1) (by omega) (by omega) (by omega) GJ.2;obtain⟨f23,k23⟩:=ir.get (j:=H1.length) (by omega) (by omega) (by omega) hkL;rw[Ul]at f21;rw[Um]at f22;rw[Un]at f23;have ha:=(QM H2 fH AS ir.inv LG).1;have lF:=ud P.procs (iK ec a) AS;have vn:=KH.kr ir.inv lF.2.1 lF.2.2;have LI:Cs P.procs.length (jx P.procs AS (iK ec a)):=uc (sH a Jk) LG;generalize J4:jx P.procs AS (iK ec a)=uS at*;generalize KH H2 fH AS uS=H3 at*;generalize OQ H2 fH AS uS=Az at*;have Gu:=vn.len;obtain⟨f31,k31⟩:=vn.get (j:=N) (by omega) (by omega) (by omega) k21;obtain⟨f32,k32⟩:=vn.get (j:=N+1) (by omega) (by omega) (by omega) k22;obtain⟨f33,k33⟩:=vn.get (j:=H1.length) (by omega) (by omega) (by omega) k23;rw[f21]at f31;rw[f22]at f32;rw[f23]at f33;have hb:=(QM H3 Az uS vn.inv LI).2;have DT:=ud P.procs (iK ec b) uS;have Iu:=KH.kr vn.inv DT.2.1 DT.2.2;have LJ:Cs P.procs.length (jx P.procs uS (iK ec b)):=uc (sH b hob) LI;generalize J5:jx P.procs uS (iK ec b)=QN at*;generalize KH H3 Az uS QN=H4 at*;generalize OQ H3 Az uS QN=LL at*;have Xi:=Iu.len;obtain⟨f41,k41⟩:=Iu.get (j:=N) (by omega) (by omega) (by omega) k31;obtain⟨f42,k42⟩:=Iu.get (j:=N+1) (by omega) (by omega) (by omega) k32;obtain⟨f43,k43⟩:=Iu.get (j:=H1.length) (by omega) (by omega) (by omega) k33;rw[f31]at f41;rw[f32]at f42;rw[f33]at f43;have hkr0:KR (H++ [b1,b2]) kv so (H1++ [sb]) kv1 so1:=j7.app [sb];have Uo:=((hkr0.trans ir).trans vn).trans Iu;have hko0:KO (N+2) (H1++ [sb]) kv1 qy (acc.map encS):=⟨DR.1.app _,DR.2⟩;have J6:=((hko0.kr (by omega) ir).kr (by omega) vn).kr (by omega) Iu;have J7:a7 qy H1.length:=DR.1.mB (Nat.le_refl _);subst Ag lC Dx;by_cases h5:k=5
  ·have LF:=LF h5;subst h5;have OX:∀X,(H4.set H1.length X)[H1.length]? =some X:=fun X=>by rw[getElem?_set];simp;omega
   simp -implicitDefEqProofs only[h3,h4,h6,h9,dU,eV,dG,an ao,aa ao hlen,hg,Ul,Um,Un,f21,f22,f23,f31,f32,f33,f41,f42,f43,OX,ne_eq,not_false_eq_true,fv,fK,Nat.reduceMul,go_sem];repeat' (first | ((first | (with_reducible first | refine bR LF ?_ | refine bR ha ?_ | refine bR hb ?_) | ((with_reducible refine bj gO ?_ ?_);(·simp[ae,al,cm,aq,ah])) | ((with_reducible apply cj);(·simp -implicitDefEqProofs only[map_cons,map_nil,aq,ah,ne_eq,not_false_eq_true,fv,fK,Nat.reduceMul,push_cast,go_sem_proc]<;>rfl);(with_reducible exact gO);(·rfl)) | (with_reducible refine aD ?_));simp -implicitDefEqProofs only[h3,h4,h6,h9,dU,eV,dG,an ao,aa ao hlen,hg,Ul,Um,Un,f21,f22,f23,f31,f32,f33,f41,f42,f43,OX,ne_eq,not_false_eq_true,fv,fK,Nat.reduceMul,go_sem]) | (with_reducible refine aA.mk ?_ ?_) | (with_reducible refine And.intro ?_ ?_) | ((with_reducible refine bz ?_);simp -implicitDefEqProofs only[DK,ne_eq,not_false_eq_true,fv,fK,Nat.reduceMul,push_cast,go_sem_proc]) | intro _)
   have hH5l:(H4.set H1.length (ak.row [.agg [.int .i64 5,.str r,.str t,.str v,.str lb,.int .i64 ek,.int .i64 en,.str es,.fs (aR.map bu),.fs ((eH ec a).map encS),.fs ((eH ec b).map encS),.str p,.fs (ps.map .str)]])).length=H4.length:=by simp
   have h5L:=OX (ak.row [.agg [.int .i64 5,.str r,.str t,.str v,.str lb,.int .i64 ek,.int .i64 en,.str es,.fs (aR.map bu),.fs ((eH ec a).map encS),.fs ((eH ec b).map encS),.str p,.fs (ps.map .str)]]);have GL:=Uo.JM (by omega) (id:=H1.length) (by omega) k43 (ak.row [.agg [.int .i64 5,.str r,.str t,.str v,.str lb,.int .i64 ek,.int .i64 en,.str es,.fs (aR.map bu),.fs ((eH ec a).map encS),.fs ((eH ec b).map encS),.str p,.fs (ps.map .str)]]);have xi:KO (N+2) (H4.set H1.length (ak.row [.agg [.int .i64 5,.str r,.str t,.str v,.str lb,.int .i64 ek,.int .i64 en,.str es,.fs (aR.map bu),.fs ((eH ec a).map encS),.fs ((eH ec b).map encS),.str p,.fs (ps.map .str)]])) LL qy (acc.map encS):=⟨J6.1.set J7,J6.2⟩;have h5N:(H4.set H1.length (ak.row [.agg [.int .i64 5,.str r,.str t,.str v,.str lb,.int .i64 ek,.int .i64 en,.str es,.fs (aR.map bu),.fs ((eH ec a).map encS),.fs ((eH ec b).map encS),.str p,.fs (ps.map .str)]]))[N]? =some (ak.row [.agg [.fs (P.procs.map aF),.fs (P.main.map encS)]]):=by rw[getElem?_set_ne (by omega)];exact f41
   have OY:(H4.set H1.length (ak.row [.agg [.int .i64 5,.str r,.str t,.str v,.str lb,.int .i64 ek,.int .i64 en,.str es,.fs (aR.map bu),.fs ((eH ec a).map encS),.fs ((eH ec b).map encS),.str p,.fs (ps.map .str)]]))[N+1]? =some (ak.row [V.db (S0.map (.int .i64)) (bF S0)]):=by rw[getElem?_set_ne (by omega)];exact f42
   generalize H4.set H1.length (ak.row [.agg [.int .i64 5,.str r,.str t,.str v,.str lb,.int .i64 ek,.int .i64 en,.str es,.fs (aR.map bu),.fs ((eH ec a).map encS),.fs ((eH ec b).map encS),.str p,.fs (ps.map .str)]])=H5 at*;refine cu xi.1 (fun i o l h=>by cases h) (cx acc) (by simp;omega) ?_;rintro bN H' bo hle cp;have GM:∀j,j<N+2->a7 qy j:=fun j hj a b e=>by have:=(DR.2 j a b e).1;omega
   obtain⟨g1,_⟩:=cp N (by omega) (GM N (by omega));obtain⟨g2,_⟩:=cp (N+1) (by omega) (GM (N+1) (by omega));obtain⟨g3,_⟩:=cp H1.length (by omega) J7;rw[h5N]at g1;rw[OY]at g2;rw[h5L]at g3;have AT:=GL.frame (by omega) hle (fun id o l e=>⟨by have:=(xi.2 id o l e).1;omega,(xi.2 id o l e).2⟩) (fun j hj hk=>(cp j hj hk).1);have OZ:OV H' bN ((acc++ [GG ec (.mk 5 r t v lb (.mk ek en es aR) a b p ps)]).map encS):=by
    rw[map_append,OU,map_cons,map_nil,ay];exact bo
   have AU:=xi.next (by omega) GL.inv.ov OZ cp
   generalize Ir:oT ec (.mk 5 r t v lb (.mk ek en es aR) a b p ps)=th at*;simp -implicitDefEqProofs only[h3,h4,h6,h9,dU,eV,dG,an ao,aa ao hlen,g1,g2,g3,ne_eq,not_false_eq_true,fv,fK,Nat.reduceMul,go_sem];repeat' (first | ((first | ((with_reducible refine bj rK ?_ ?_);(·simp[ae,al,cm,g1,g2,aq,ah,aE,bf,aS,bZ])) | ((with_reducible apply cj);(·simp -implicitDefEqProofs only[map_cons,map_nil,g1,g2,aq,ah,aE,bf,aS,bZ,ne_eq,not_false_eq_true,fv,fK,Nat.reduceMul,push_cast,go_sem_proc]<;>rfl);(with_reducible exact rK);(·rfl)) | (with_reducible refine aD ?_));simp -implicitDefEqProofs only[h3,h4,h6,h9,dU,eV,dG,an ao,aa ao hlen,g1,g2,g3,ne_eq,not_false_eq_true,fv,fK,Nat.reduceMul,go_sem]) | (with_reducible refine aA.mk ?_ ?_) | (with_reducible refine And.intro ?_ ?_) | ((with_reducible refine bz ?_);simp -implicitDefEqProofs only[DK,ne_eq,not_false_eq_true,fv,fK,Nat.reduceMul,push_cast,go_sem_proc]) | intro _)
   ·rename_i hp;have hp:th=false:=by simpa using hp
    subst hp;simp only[eH,Ir,Bool.false_eq_true,if_false]at It;simp only[iK,Ir,Bool.false_eq_true,if_false,append_nil]at j1;rw[<-It]at AU;have GH:jx P.procs so (iK ec xs)=QN:=by rw[j1,Lx,ig,ig,<-J5,<-J4,DS]
    rw[<-GH]at AT;exact fin H' LL bN AT AU
   ·rename_i hp;have hp:th=true:=by simpa using hp
    subst hp;simp only[eH,Ir,if_true]at It;simp only[iK,Ir,if_true]at j1;refine⟨_,Nat.lt_succ_self _,pre++ [.mk 5 r t v lb (.mk ek en es aR) a b p ps],rest,acc++ [GG ec (.mk 5 r t v lb (.mk ek en es aR) a b p ps)],bN,LL,QN,by simp[ao],rfl,rfl,by simp,by rw[It];simp,?_,LJ,AT,AU,by simp;omega⟩;rw[j1,ig,Lx,ig,ig,<-J5,<-J4,DS]
  ·have Om:=Om h5;subst Om;have OX:∀X,(H4.set H1.length X)[H1.length]? =some X:=fun X=>by rw[getElem?_set];simp;omega
   simp -implicitDefEqProofs only[h3,h4,h6,h9,dU,eV,dG,an ao,aa ao hlen,hg,Ul,Um,Un,h5,f21,f22,f23,f31,f32,f33,f41,f42,f43,OX,ne_eq,not_false_eq_true,fv,fK,Nat.reduceMul,go_sem];repeat' (first | ((first | (with_reducible first | refine bR ha ?_ | refine bR hb ?_) | ((with_reducible refine bj gO ?_ ?_);(·simp[ae,al,cm,aq,ah])) | ((with_reducible apply cj);(·simp -implicitDefEqProofs only[map_cons,map_nil,aq,ah,ne_eq,not_false_eq_true,fv,fK,Nat.reduceMul,push_cast,go_sem_proc]<;>rfl);(with_reducible exact gO);(·rfl)) | (with_reducible refine aD ?_));simp -implicitDefEqProofs only[h3,h4,h6,h9,dU,eV,dG,an ao,aa ao hlen,hg,Ul,Um,Un,h5,f21,f22,f23,f31,f32,f33,f41,f42,f43,OX,ne_eq,not_false_eq_true,fv,fK,Nat.reduceMul,go_sem]) | (with_reducible refine aA.mk ?_ ?_) | (with_reducible refine And.intro ?_ ?_) | ((with_reducible refine bz ?_);simp -implicitDefEqProofs only[DK,ne_eq,not_false_eq_true,fv,fK,Nat.reduceMul,push_cast,go_sem_proc]) | intro _)
   have hH5l:(H4.set H1.length (ak.row [.agg [.int .i64 k,.str r,.str t,.str v,.str lb,.int .i64 ek,.int .i64 en,.str es,.fs (aR.map bu),.fs ((eH ec a).map encS),.fs ((eH ec b).map encS),.str p,.fs (ps.map .str)]])).length=H4.length:=by simp
   have h5L:=OX (ak.row [.agg [.int .i64 k,.str r,.str t,.str v,.str lb,.int .i64 ek,.int .i64 en,.str es,.fs (aR.map bu),.fs ((eH ec a).map encS),.fs ((eH ec b).map encS),.str p,.fs (ps.map .str)]]);have GL:=Uo.JM (by omega) (id:=H1.length) (by omega) k43 (ak.row [.agg [.int .i64 k,.str r,.str t,.str v,.str lb,.int .i64 ek,.int .i64 en,.str es,.fs (aR.map bu),.fs ((eH ec a).map encS),.fs ((eH ec b).map encS),.str p,.fs (ps.map .str)]]);have xi:KO (N+2) (H4.set H1.length (ak.row [.agg [.int .i64 k,.str r,.str t,.str v,.str lb,.int .i64 ek,.int .i64 en,.str es,.fs (aR.map bu),.fs ((eH ec a).map encS),.fs ((eH ec b).map encS),.str p,.fs (ps.map .str)]])) LL qy (acc.map encS):=⟨J6.1.set J7,J6.2⟩;have h5N:(H4.set H1.length (ak.row [.agg [.int .i64 k,.str r,.str t,.str v,.str lb,.int .i64 ek,.int .i64 en,.str es,.fs (aR.map bu),.fs ((eH ec a).map encS),.fs ((eH ec b).map encS),.str p,.fs (ps.map .str)]]))[N]? =some (ak.row [.agg [.fs (P.procs.map aF),.fs (P.main.map encS)]]):=by rw[getElem?_set_ne (by omega)];exact f41
   have OY:(H4.set H1.length (ak.row [.agg [.int .i64 k,.str r,.str t,.str v,.str lb,.int .i64 ek,.int .i64 en,.str es,.fs (aR.map bu),.fs ((eH ec a).map encS),.fs ((eH ec b).map encS),.str p,.fs (ps.map .str)]]))[N+1]? =some (ak.row [V.db (S0.map (.int .i64)) (bF S0)]):=by rw[getElem?_set_ne (by omega)];exact f42
   generalize H4.set H1.length (ak.row [.agg [.int .i64 k,.str r,.str t,.str v,.str lb,.int .i64 ek,.int .i64 en,.str es,.fs (aR.map bu),.fs ((eH ec a).map encS),.fs ((eH ec b).map encS),.str p,.fs (ps.map .str)]])=H5 at*;refine cu xi.1 (fun i o l h=>by cases h) (cx acc) (by simp;omega) ?_;rintro bN H' bo hle cp;have GM:∀j,j<N+2->a7 qy j:=fun j hj a b e=>by have:=(DR.2 j a b e).1;omega
   obtain⟨g1,_⟩:=cp N (by omega) (GM N (by omega));obtain⟨g2,_⟩:=cp (N+1) (by omega) (GM (N+1) (by omega));obtain⟨g3,_⟩:=cp H1.length (by omega) J7;rw[h5N]at g1;rw[OY]at g2;rw[h5L]at g3;have AT:=GL.frame (by omega) hle (fun id o l e=>⟨by have:=(xi.2 id o l e).1;omega,(xi.2 id o l e).2⟩) (fun j hj hk=>(cp j hj hk).1);have OZ:OV H' bN ((acc++ [GG ec (.mk k r t v lb (.mk ek en es aR) a b p ps)]).map encS):=by
    rw[map_append,OU,map_cons,map_nil,ay];exact bo
   have AU:=xi.next (by omega) GL.inv.ov OZ cp
   generalize Ir:oT ec (.mk k r t v lb (.mk ek en es aR) a b p ps)=th at*;simp -implicitDefEqProofs only[h3,h4,h6,h9,dU,eV,dG,an ao,aa ao hlen,g1,g2,g3,ne_eq,not_false_eq_true,fv,fK,Nat.reduceMul,go_sem];repeat' (first | ((first | ((with_reducible refine bj rK ?_ ?_);(·simp[ae,al,cm,g1,g2,aq,ah,aE,bf,aS,bZ])) | ((with_reducible apply cj);(·simp -implicitDefEqProofs only[map_cons,map_nil,g1,g2,aq,ah,aE,bf,aS,bZ,ne_eq,not_false_eq_true,fv,fK,Nat.reduceMul,push_cast,go_sem_proc]<;>rfl);(with_reducible exact rK);(·rfl)) | (with_reducible refine aD ?_));simp -implicitDefEqProofs only[h3,h4,h6,h9,dU,eV,dG,an ao,aa ao hlen,g1,g2,g3,ne_eq,not_false_eq_true,fv,fK,Nat.reduceMul,go_sem]) | (with_reducible refine aA.mk ?_ ?_) | (with_reducible refine And.intro ?_ ?_) | ((with_reducible refine bz ?_);simp -implicitDefEqProofs only[DK,ne_eq,not_false_eq_true,fv,fK,Nat.reduceMul,push_cast,go_sem_proc]) | intro _)
   ·rename_i hp;have hp:th=false:=by simpa using hp
    subst hp;simp only[eH,Ir,Bool.false_eq_true,if_false]at It;simp only[iK,Ir,Bool.false_eq_true,if_false,append_nil]at j1;rw[<-It]at AU;have GH:jx P.procs so (iK ec xs)=QN:=by rw[j1,Lx,ig,ig,<-J5,<-J4,DS]
    rw[<-GH]at AT;exact fin H' LL bN AT AU
   ·rename_i hp;have hp:th=true:=by simpa using hp
    subst hp;simp only[eH,Ir,if_true]at It;simp only[iK,Ir,if_true]at j1;refine⟨_,Nat.lt_succ_self _,pre++ [.mk k r t v lb (.mk ek en es aR) a b p ps],rest,acc++ [GG ec (.mk k r t v lb (.mk ek en es aR) a b p ps)],bN,LL,QN,by simp[ao],rfl,rfl,by simp,by rw[It];simp,?_,LJ,AT,AU,by simp;omega⟩;rw[j1,ig,Lx,ig,ig,<-J5,<-J4,DS]
theorem y7 {s:St}:∀{l:List St},s∈l->dA s<=ai l
 | [],h=>by simp at h
 | x::l,h=>by
  simp only[ai];rcases List.mem_cons.1 h with rfl | h
  ·omega
  ·have:=y7 h;omega
theorem t287 (P:bH) (ew:P.procs.length<=1000000) (S0:List Int):∀(m:Nat) (l:List St),SizeOf.sizeOf l<m->uU P.procs l=true->ai l<=1000000->∀(H:List ak) (kv:V) (so:List Int×List Int),kZ H kv so->Cs P.procs.length so->
 av Tryz.prog 135 [aP P,.fs (l.map encS),.db (S0.map (.int .i64)) (bF S0),.a6 134 [] [.ptr 3 0 0,.ptr 4 0 0]] H (bX (.fs ((eH (xX P.procs S0) l).map encS)) (KH H kv so (jx P.procs so (iK (xX P.procs S0) l))))
 | 0,l,h=>absurd h (Nat.not_lt_zero _)
 | m+1,l,hm=>fun dx hc H kv so hi xV=>Uj P ew S0 l dx (by have:=eh l;omega) (fun k r t v lb e a b p ps da H kv so hi xV=>by
  have hs:=sizeOf_lt_of_mem da;simp only[St.mk.sizeOf_spec]at hs;have AL:=sE dx _ da;simp only[DL,Bool.and_eq_true]at AL;have lA:=y7 da;simp only[dA]at lA;exact⟨t287 P ew S0 m a (by omega) AL.2.1 (by omega) H kv so hi xV,t287 P ew S0 m b (by omega) AL.2.2 (by omega) H kv so hi xV⟩) H kv so hi xV
theorem ue (X:List Pr):∀(ks:List ByteArray) (so:List Int×List Int),(∀x∈so.1,x∈(jx X so ks).1)/\(∀p∈ks,bq X p∈(jx X so ks).1)/\(∀x∈(jx X so ks).1,x∈so.1\/∃p∈ks,x=bq X p)
 | [],so=>⟨fun x h=>h,fun p h=>by simp at h,fun x h=> .inl h⟩
 | p::ks,so=>by
  obtain⟨h1,h2,h3⟩:=ue X ks (oB so (bq X p));have hc:jx X so (p::ks)=jx X (oB so (bq X p)) ks:=rfl;have oO:bq X p∈(oB so (bq X p)).1:=by
   unfold oB;split
   ·assumption
   ·simp
  have Up:∀x∈so.1,x∈(oB so (bq X p)).1:=fun x hx=>by
   unfold oB;split
   ·exact hx
   ·simp[hx]
  have Uq:∀x∈(oB so (bq X p)).1,x∈so.1\/x=bq X p:=fun x hx=>by
   unfold oB at hx;split at hx
   ·exact .inl hx
   ·simpa using hx
  rw[hc];refine⟨fun x hx=>h1 x (Up x hx),fun q hq=> ?_,fun x hx=> ?_⟩
  ·rcases List.mem_cons.1 hq with rfl | hq
   ·exact h1 _ oO
   ·exact h2 q hq
  ·rcases h3 x hx with h | ⟨q,hq,rfl⟩
   ·rcases Uq x h with h | rfl
    ·exact .inl h
    ·exact .inr ⟨p,by simp,rfl⟩
   ·exact .inr ⟨q,by simp[hq],rfl⟩
theorem q7 (X:List Pr) (D:List Int):∀(ks:List ByteArray) (so:List Int×List Int),so.1=D++so.2->(jx X so ks).1=D++(jx X so ks).2
 | [],so,h=>h
 | p::ks,so,h=>by
  have hc:jx X so (p::ks)=jx X (oB so (bq X p)) ks:=rfl;rw[hc];refine q7 X D ks _ ?_;unfold oB;split
  ·exact h
  ·simp[h]
theorem rL {X:List Pr} {n:Nat} {ks:List ByteArray} {S:List Int} (h:∀p∈ks,bq X p∈S) (hn:n=X.length):eK X ks (mA n S):=by
 intro p hp i hi hl;rw[gw _ _ _ (by omega)];have:=h p hp;rw[hi]at this;simp[this]
structure QI (P:bH) (ec:ByteArray->Bool) (D:List Int) (so:List Int×List Int):Prop where
 ok:Cs P.procs.length so
 split:so.1=D++so.2
 main:∀p∈iK ec P.main,bq P.procs p∈so.1
 done:∀i∈D,∀p∈iK ec (aK P.procs i.toNat),bq P.procs p∈so.1
 low:∀C,Oq P ec C->∀x∈so.1,C[x.toNat]? =some true
theorem GN {P:bH} {ec:ByteArray->Bool} {C:List Bool} {ks:List ByteArray} (hC:Oq P ec C) (qp:eK P.procs ks C) (hp:∀p∈ks,0<=bq P.procs p):∀p∈ks,C[(bq P.procs p).toNat]? =some true:=by
 intro p h;have h0:=hp p h;exact qp p h _ (by omega) (fO h0)
theorem QI.start {P:bH} {ec:ByteArray->Bool} (dx:AN P):QI P ec [] (jx P.procs ([],[]) (iK ec P.main)):=by
 have gp:=sH (ec:=ec) P.main dx.1;obtain⟨_,h2,h3⟩:=ue P.procs (iK ec P.main) ([],[]);refine⟨uc gp ⟨eR.nil _,Nat.le_refl _⟩,q7 P.procs [] _ ([],[]) rfl,h2,fun i h=>by simp at h,fun C hC x hx=> ?_⟩;rcases h3 x hx with h | ⟨p,hp,rfl⟩
 ·simp at h
 ·exact GN hC hC.2.1 gp p hp
theorem QI.pop {P:bH} {ec:ByteArray->Bool} {D:List Int} {S O:List Int} {k:Int} (dx:AN P) (h:QI P ec D (S,k::O)):
 QI P ec (D++ [k]) (jx P.procs (S,O) (iK ec (aK P.procs k.toNat))):=by
 have gp:=sH (ec:=ec) (aK P.procs k.toNat) (tZ dx _);have hs:=h.split;simp only at hs;have eM:S=(D++ [k])++O:=by rw[hs];simp
 obtain⟨h1,h2,h3⟩:=ue P.procs (iK ec (aK P.procs k.toNat)) (S,O);have Ip:k∈S:=by rw[hs];simp
 refine⟨uc gp ⟨h.ok.set,by have:=h.ok.le;simp at this⊢;omega⟩,q7 P.procs _ _ (S,O) eM,fun p hp=>h1 _ (h.main p hp),fun i hi p hp=> ?_,fun C hC x hx=> ?_⟩
 ·rcases List.mem_append.1 hi with hi | hi
  ·exact h1 _ (h.done i hi p hp)
  ·simp at hi;subst hi;exact h2 p hp
 ·rcases h3 x hx with hx | ⟨p,hp,rfl⟩
  ·exact h.low C hC x hx
  ·exact GN hC (hC.2.2 k.toNat (h.low C hC k Ip)) gp p hp
theorem QI.fin {P:bH} {ec:ByteArray->Bool} {D S:List Int} (h:QI P ec D (S,[])):S=D/\Oq P ec (mA P.procs.length D)/\Xh P ec (mA P.procs.length D):=by
 have hs:S=D:=by have:=h.split;simpa using this
 subst hs;refine⟨rfl,⟨ie _ _,rL h.main rfl,fun i hi=> ?_⟩,⟨ie _ _,fun C hC i hi=> ?_⟩⟩
 ·have hl:=(List.getElem?_eq_some_iff.1 hi).1;rw[ie]at hl;rw[gw _ _ _ hl]at hi;have hm:(i:Int)∈S:=by simpa using hi
  exact rL (fun p hp=>h.done i hm p (by simpa using hp)) rfl
 ·have hl:=(List.getElem?_eq_some_iff.1 hi).1;rw[ie]at hl;rw[gw _ _ _ hl]at hi;have hm:(i:Int)∈S:=by simpa using hi
  simpa using h.low C hC i hm
theorem GO (P:bH) (dx:AN P):Oq P (ga P.procs (bY P.procs)) (mz P).procs/\Xh P (ga P.procs (bY P.procs)) (mz P).procs:=by
 have hp:=p0 P (ga P.procs (bY P.procs)) (mu P (ua P) P.main+1) P.main 0 (ua P) (Nat.lt_succ_self _) (by simp[ua]);have JU:wk P (ga P.procs (bY P.procs)) (mu P (ua P) P.main+1) P.main 0 (ua P)=mz P:=rfl;rw[JU]at hp;have h0:∀i:Nat,(ua P).procs[i]? ≠some true:=fun i h=>by
  simp only[ua]at h;rw[getElem?_replicate]at h;split at h<;>cases h
 refine⟨⟨sG P,hp.calls,fun i hi=>(hp.new i hi).resolve_left (h0 i)⟩,⟨sG P,fun C hC i hi=>hp.low C (fun i h=>hC.2.2 i h) hC.2.1 (fun i h=>absurd h (h0 i)) i hi⟩⟩
theorem QI.reach {P:bH} {D S:List Int} (dx:AN P) (h:QI P (ga P.procs (bY P.procs)) D (S,[])):mA P.procs.length D=(mz P).procs:=
 AK h.fin.2.1 h.fin.2.2 (GO P dx).1 (GO P dx).2
theorem DU (P:bH) (x:Int):x∈(mz P).steps↔x∈y3 (ga P.procs (bY P.procs)) P.main 0\/∃i:Nat,(mz P).procs[i]? =some true/\x∈y3 (ga P.procs (bY P.procs)) (aK P.procs i) (dc P i):=by
 have hp:=p0 P (ga P.procs (bY P.procs)) (mu P (ua P) P.main+1) P.main 0 (ua P) (Nat.lt_succ_self _) (by simp[ua]);have JU:wk P (ga P.procs (bY P.procs)) (mu P (ua P) P.main+1) P.main 0 (ua P)=mz P:=rfl;rw[JU]at hp;have h0:∀i:Nat,(ua P).procs[i]? ≠some true:=fun i h=>by
  simp only[ua]at h;rw[getElem?_replicate]at h;split at h<;>cases h
 rw[hp.steps];simp only[ua,not_mem_nil,false_or];constructor
 ·rintro(h | ⟨i,a,_,c⟩)
  ·exact .inl h
  ·exact .inr ⟨i,a,c⟩
 ·rintro(h | ⟨i,a,c⟩)
  ·exact .inl h
  ·exact .inr ⟨i,a,h0 i,c⟩
theorem t289 (ks vs:List V) (hk:ae ks=true) (hv:ae vs=true) (hfk:∀H n,eI (fz H (n+1)) ks=some ks) (Iv:∀H n,eI (fz H (n+1)) vs=some vs):af Tryz.prog 137 [.db ks vs] (·=.a6 186 [] [.bc [.db ks vs]]):=by
 refine af.intro aaf 100 (by simp) 20 ?_;simp -implicitDefEqProofs only[TS,go_sem];simp -implicitDefEqProofs only[TT,hk,hv,Bool.and_true,Bool.and_self,if_true,push_cast,go_sem_proc]
def kA (n:Nat) (D:List Int):List Int:=((List.range n).filter fun(i:Nat)=>decide ((i:Int)∈D)).map fun(i:Nat)=>(i:Int)
theorem O0 (f:Int->V) (k:Int):∀{D:List Int},k∈D->gG (D.map (.int .i64)) (D.map f) (.int .i64 k)=some (f k)
 | [],h=>by simp at h
 | x::D,h=>by
  simp only[map_cons,gG,gE,fF,if_true,Option.some.injEq,decide_eq_true_eq];by_cases hk:k=x
  ·subst hk;simp
  ·rw[if_neg hk];exact O0 f k ((List.mem_cons.1 h).resolve_left hk)
theorem Ur (k:Int) {D:List Int} (h:k∉D):ja (D.map (.int .i64)) (.int .i64 k)=(D++ [k]).map (.int .i64):=by
 rw[b8,fc,if_neg (by simpa using h)]
theorem LN (f:Int->V) (k:Int) (v:V):∀{D:List Int},k∉D->im (D.map (.int .i64)) (D.map f) (.int .i64 k) v=D.map f++ [v]
 | [],h=>by simp[im]
 | x::D,h=>by
  have hx:k≠x:=fun e=>h (by simp[e])
  have ih:=LN f k v (D:=D) (fun e=>h (by simp[e]));simp only[map_cons,im,gE,fF,if_true,Option.some.injEq,decide_eq_true_eq,hx,if_false,ih,cons_append]
noncomputable def DV (P:bH) (D:List Int):bH:=⟨(kA P.procs.length D).map fun i=>match P.procs[i.toNat]? with
 | some q=>⟨q.name,q.au,eH (ga P.procs (bY P.procs)) q.steps⟩
 | none=>⟨⟨#[]⟩,[],[]⟩,eH (ga P.procs (bY P.procs)) P.main⟩
theorem mZ (z v:V):fT false z (some v)=v:=rfl
theorem p5 {n:Nat} {D:List Int} {k:Int} (h:k∈kA n D):∃j:Nat,k=j/\j<n/\(j:Int)∈D:=by
 simp only[kA,mem_map,mem_filter,mem_range,decide_eq_true_eq]at h;obtain⟨j,⟨h1,h2⟩,rfl⟩:=h;exact⟨j,rfl,h1,h2⟩
theorem Ct (n:Nat) (D:List Int):(kA n D).length<=n:=by
 have:=length_filter_le (fun(i:Nat)=>decide ((i:Int)∈D)) (List.range n);simp only[kA,length_map];simpa using this
def LO (P:bH) (ec:ByteArray->Bool) (i:Int):Pr:=match P.procs[i.toNat]? with
 | some q=>⟨q.name,q.au,eH ec q.steps⟩
 | none=>⟨⟨#[]⟩,[],[]⟩
theorem kZ.set {H:List ak} {kv:V} {so:List Int×List Int} (h:kZ H kv so) {i:Nat} {x:ak} (hi:4<i) (hk:a7 kv i):kZ (H.set i x) kv so:=by
 have hg:∀j,j≠i->(H.set i x)[j]? =H[j]? :=fun j hj=>by rw[getElem?_set_ne (fun e=>hj e.symm)]
 refine⟨by rw[hg _ (by omega)];exact h.seen,by rw[hg _ (by omega)];exact h.cell,by rw[hg _ (by omega)];exact h.open_,?_,h.n2,h.n3,h.n4⟩;rcases h.ov with h | ⟨id,off,es,h1,h2,h3⟩
 ·exact .inl h
 ·refine .inr ⟨id,off,es,h1,?_,h3⟩;rw[hg _ (fun e=>hk off so.2.length (by rw[h1,e]))];exact h2
theorem t237 (P:bH) (hc:total P<=1000000) (ew:P.procs.length<=1000000) (dx:AN P) (sv:∀q∈P.procs,q.au.length<=1000000)
 (vo:∀(D:List Int) (f:Int->V),eR P.procs.length D->ae (D.map f)=true->af Tryz.prog 136 [.a6 186 [] [.bc [.db (D.map (.int .i64)) (D.map f)]]] (·=.fs ((kA P.procs.length D).map (.int .i64)))):
 af Tryz.prog 57 [aP P] (fun r=>∃D,eR P.procs.length D/\mA P.procs.length D=(mz P).procs/\r=.dJ [aP (DV P D),.fs ((kA P.procs.length D).map (.int .i64))]):=by
 have Us:=t233 P ew;have QL:aP P=.agg [.fs (P.procs.map aF),.fs (P.main.map encS)]:=rfl;have hT:total P=ai P.main+bD P.procs:=rfl;refine af.intro Z4 800 (by simp) 20 ?_;rw[QL]at Us⊢;simp -implicitDefEqProofs only[TE,go_sem];refine gJ (by simp[ae,al,aq,ah]) Us ?_;rintro _ ⟨S0,hS0,rfl⟩;have Gz:∀p,xX P.procs S0 p=ga P.procs (bY P.procs) p:=hS0.ec;have hecf:xX P.procs S0=ga P.procs (bY P.procs):=funext Gz;have O1:=fun l hl eT H kv so hi xV=>t287 P ew S0 _ l (Nat.lt_succ_self _) hl eT H kv so hi xV
 rw[hecf,QL]at O1;have hm:=O1 P.main dx.1 (by omega) [.row [.agg [.fs (P.procs.map aF),.fs (P.main.map encS)]],.row [.agg [.ag,.ag]],.mp [] [],.row [.map 2],.row [.ag]] .ag ([],[])
  ⟨rfl,rfl,rfl,.inl ⟨rfl,rfl⟩,(fun a b h=>by cases h),(fun a b h=>by cases h),(fun a b h=>by cases h)⟩ ⟨eR.nil _,Nat.le_refl _⟩
 have Ld:=QI.start (ec:=ga P.procs (bY P.procs)) dx;have k6:=ud P.procs (iK (ga P.procs (bY P.procs)) P.main) ([],[]);have iT:=KH.kr (H:=[.row [.agg [.fs (P.procs.map aF),.fs (P.main.map encS)]],.row [.agg [.ag,.ag]],.mp [] [],.row [.map 2],.row [.ag]]) (kv:=.ag) (so:=([],[]))
  ⟨rfl,rfl,rfl,.inl ⟨rfl,rfl⟩,(fun a b h=>by cases h),(fun a b h=>by cases h),(fun a b h=>by cases h)⟩ k6.2.1 k6.2.2
 generalize jx P.procs ([],[]) (iK (ga P.procs (bY P.procs)) P.main)=so1 at*;generalize KH [.row [.agg [.fs (P.procs.map aF),.fs (P.main.map encS)]],.row [.agg [.ag,.ag]],.mp [] [],.row [.map 2],.row [.ag]] .ag ([],[]) so1=H1 at*;generalize OQ [.row [.agg [.fs (P.procs.map aF),.fs (P.main.map encS)]],.row [.agg [.ag,.ag]],.mp [] [],.row [.map 2],.row [.ag]] .ag ([],[]) so1=kv1 at*;have uN:=iT.len;obtain⟨g0,k0⟩:=iT.get (j:=0) (by simp) (by omega) (by omega) (fun a b h=>by cases h);obtain⟨g1,k1⟩:=iT.get (j:=1) (by simp) (by omega) (by omega) (fun a b h=>by cases h);simp only[getElem?_cons_zero,getElem?_cons_succ]at g0 g1;simp only[length_cons,length_nil]at uN;generalize J8:ga P.procs (bY P.procs)=ec at*;have W6:∀l:List ak,(H1++l)[0]? =some (ak.row [.agg [.fs (P.procs.map aF),.fs (P.main.map encS)]]):=fun l=>by rw[getElem?_append_left (by omega)];exact g0
 simp -implicitDefEqProofs only[go_sem];repeat' (first | ((first | (with_reducible refine bR hm ?_) | (with_reducible refine aD ?_));simp -implicitDefEqProofs only[W6,go_sem]) | (with_reducible refine aA.mk ?_ ?_) | (with_reducible refine And.intro ?_ ?_) | ((with_reducible refine bz ?_);simp -implicitDefEqProofs only[xe,push_cast,go_sem_proc]) | intro _)
 have nY:kZ (H1++ [ak.row [.agg [.ag,.fs ((eH ec P.main).map encS)]],ak.mp [] []]) kv1 so1:=iT.inv.grow (fun j hj=>by rw[getElem?_append_left hj]);refine aL (fun m e H=>∃D so kv,D.length+m=P.procs.length/\QI P ec D so/\kZ H kv so/\H1.length+2<=H.length/\H[0]? =some (ak.row [.agg [.fs (P.procs.map aF),.fs (P.main.map encS)]])/\H[1]? =some (ak.row [.agg [.ag,.ag]])/\
  H[H1.length]? =some (ak.row [.agg [.ag,.fs ((eH ec P.main).map encS)]])/\H[H1.length+1]? =some (ak.mp (D.map (.int .i64)) (D.map fun k=> .fs ((eH ec (aK P.procs k.toNat)).map encS)))/\a7 kv 0/\a7 kv 1/\a7 kv H1.length/\a7 kv (H1.length+1)/\
  e 1=.ptr 0 0 0/\e 2=.ptr 1 0 0/\e 4=.db (S0.map (.int .i64)) (bF S0)/\e 6=.ptr 4 0 0/\e 7=.a6 134 [] [.ptr 3 0 0,.ptr 4 0 0]/\e 8=.ptr H1.length 0 0/\e 9=.map (H1.length+1)) P.procs.length
  ⟨[],so1,kv1,by simp,Ld,nY,by simp,by rw[getElem?_append_left (by omega)];exact g0,by rw[getElem?_append_left (by omega)];exact g1,by simp,by rw[getElem?_append_right (by omega)];simp,k0,k1,iT.inv.ov.mB (Nat.le_refl _),iT.inv.ov.mB (by omega),by simp[az,aC],by simp[az,aC],by simp[az,aC],by simp[az,aC],by simp[az,aC],by simp[az,aC],by simp[az,aC]⟩ ?_
 clear nY k0 k1 g0 g1 W6 hm k6 Ld;rintro m e H ⟨D,so,kv,hDm,hq,hi,Ik,g0,g1,gM,Ut,k0,k1,kM,kM1,h1,h2,h4,h6,h7,h8,h9⟩;have Uu:=hi.open_;rcases hi.ov with⟨hO,rfl⟩ | ⟨id,off,es,rfl,hid,dr,J9,To⟩
 ·simp -implicitDefEqProofs only[h1,h2,h4,h6,h7,h8,h9,Uu,Int.lt_irrefl,decide_false,go_sem];obtain⟨S,O⟩:=so;simp only at hO;subst hO;have fi:=hq.fin;obtain⟨hSD,_,_⟩:=fi;have hR:=QI.reach dx (by rw[J8];exact hq);have iI:eR P.procs.length D:=by rw[<-hSD];exact hq.ok.set
  have Iw:ae (D.map fun k=> .fs ((eH ec (aK P.procs k.toNat)).map encS))=true:=bS (fun x=>by simp[al,ah]) D;have Iv:∀(H:List ak) (n:Nat),eI (fz H (n+1)) (D.map fun k=> .fs ((eH ec (aK P.procs k.toNat)).map encS))=some (D.map fun k=> .fs ((eH ec (aK P.procs k.toNat)).map encS)):=fun H n=>dg _ _ (fun x=>by rw[jL];simp[ah]) D
  have GP:=t289 _ _ (aS D) Iw (fun H n=>fA H n D) Iv;have vo:=vo D _ iI Iw;refine⟨[H1.length+1],.db (D.map (.int .i64)) (D.map fun k=> .fs ((eH ec (aK P.procs k.toNat)).map encS)),?_,?_⟩
  ·rw[mr,cg,Ut];simp[mw,fA,Iv]
  have ED:bO [H1.length+1] H=H.set (H1.length+1) .dead:=rfl;rw[ED];have d0:(H.set (H1.length+1) .dead)[0]? =some (ak.row [.agg [.fs (P.procs.map aF),.fs (P.main.map encS)]]):=by rw[getElem?_set_ne (by omega)];exact g0
  have d1:(H.set (H1.length+1) .dead)[1]? =some (ak.row [.agg [.ag,.ag]]):=by rw[getElem?_set_ne (by omega)];exact g1
  have dM:(H.set (H1.length+1) .dead)[H1.length]? =some (ak.row [.agg [.ag,.fs ((eH ec P.main).map encS)]]):=by rw[getElem?_set_ne (by omega)];exact gM
  have dl:H1.length+2<=(H.set (H1.length+1) .dead).length:=by simpa using Ik
  generalize H.set (H1.length+1) .dead=HD at*;repeat' (first | ((first | ((with_reducible first | refine bj GP ?_ ?_ | refine bj vo ?_ ?_);(·simp[ae,al,cm,Iv,aS,Iw])) | ((with_reducible apply cj);(·simp -implicitDefEqProofs only[map_cons,map_nil,Iv,aS,Iw,push_cast,go_sem_proc]<;>rfl);(with_reducible first | exact GP | exact vo);(·rfl)) | (with_reducible refine aD ?_));simp -implicitDefEqProofs only[h1,h2,h4,h6,h7,h8,h9,go_sem]) | (with_reducible refine aA.mk ?_ ?_) | (with_reducible refine And.intro ?_ ?_) | ((with_reducible refine bz ?_);simp -implicitDefEqProofs only[xe,push_cast,go_sem_proc]) | intro _)
  rename_i GQ;have qK:=Ct P.procs.length D;refine aL (fun m e H=>∃pre post xj,kA P.procs.length D=pre++post/\m=post.length/\e 1=.ptr 0 0 0/\e 2=.ptr 1 0 0/\e 8=.ptr H1.length 0 0/\e 9=.db (D.map (.int .i64)) (D.map fun k=> .fs ((eH ec (aK P.procs k.toNat)).map encS))/\e 11=.fs ((kA P.procs.length D).map (.int .i64))/\e 50=.fs ((kA P.procs.length D).map (.int .i64))/\e 51=.int .i64 (kA P.procs.length D).length/\e 52=.int .i64 pre.length/\
   H[0]? =some (ak.row [.agg [.fs (P.procs.map aF),.fs (P.main.map encS)]])/\H[1]? =some (ak.row [.agg [.ag,.ag]])/\H[H1.length]? =some (ak.row [.agg [xj,.fs ((eH ec P.main).map encS)]])/\OV H xj ((pre.map (LO P ec)).map aF)/\a7 xj 0/\a7 xj 1/\a7 xj H1.length) (kA P.procs.length D).length
   ⟨[],_,.ag,rfl,rfl,by simp[az,h1],by simp[az,h2],by simp[az,h8],by simp[az],by simp[az],by simp[az],by simp[az],by simp[az],d0,d1,dM,.inl ⟨rfl,rfl⟩,(fun a b h=>by cases h),(fun a b h=>by cases h),(fun a b h=>by cases h)⟩ ?_
  clear d0 d1 dM dl h1 h2 h4 h6 h7 h8 h9 g0 g1 gM Ut;rintro m e H ⟨pre,post,xj,qp,rfl,h1,h2,h8,h9,ez,oQ,EO,sI,d0,d1,dM,bm,k0,k1,kM⟩;have cP:=bm.one;have ba:V.one xj=true:=bm.cS;simp only[V.one]at ba;have hMl:=(List.getElem?_eq_some_iff.1 dM).1;cases post with
  | nil=>
   have ev:pre=kA P.procs.length D:=by rw[qp];simp
   rw[ev]at bm;have u5:∀X,(H.set 1 X)[1]? =some X:=fun X=>by rw[getElem?_set];simp;omega
   simp -implicitDefEqProofs only[h1,h2,h8,h9,ez,oQ,EO,sI,aI qp,d0,d1,dM,cP,ba,u5,go_sem];have hz:∀X,fz (H.set 1 X) 18 xj=some (.fs (((kA P.procs.length D).map (LO P ec)).map aF)):=fun X=>dw (f:=aF) (n:=16) (fun H x=>gr H 15 x) (bm.set (x:=X) k1)
   simp -implicitDefEqProofs only[xe,h2,ez,u5,cP,hz,aS,push_cast,go_sem_proc];refine⟨D,iI,hR,?_⟩;unfold DV
   rw[J8];rfl
  | cons k post=>
   have DW:k∈kA P.procs.length D:=by rw[qp];simp
   obtain⟨j,rfl,nZ,Xk⟩:=p5 DW;have zR:=aO (V.int .i64) qp;have DX:(P.procs.map aF).getD j .any=.agg [.str P.procs[j].name,.fs (P.procs[j].au.map .str),.fs (P.procs[j].steps.map encS)]:=by
    simp[List.getD,nZ,aF]
   have gj:iD (j:Int) P.procs.length:=⟨by omega,by simp;omega⟩;have Ix:=O0 (fun k=> .fs ((eH ec (aK P.procs k.toNat)).map encS)) (j:Int) Xk;have DY:aK P.procs ((j:Int)).toNat=P.procs[j].steps:=by simp[aK,nZ]
   rw[DY]at Ix;have Cu:aF (LO P ec (j:Int))=.agg [.str P.procs[j].name,.fs (P.procs[j].au.map .str),.fs ((eH ec P.procs[j].steps).map encS)]:=by
    simp[LO,nZ,aF]
   have pV:=t46 P.procs[j].au (sv _ (getElem_mem nZ));have fM:∀l:List ak,(H++l)[H1.length]? =some (ak.row [.agg [xj,.fs ((eH ec P.main).map encS)]]):=fun l=>by rw[getElem?_append_left hMl];exact dM
   generalize P.procs[j]=q at*;have AV:=aa qp GQ;have cR:pre.length<(kA P.procs.length D).length:=by rw[qp];simp
   simp -implicitDefEqProofs only[h1,h2,h8,h9,ez,oQ,EO,sI,an qp,AV,d0,d1,dM,fM,cP,ba,zR,DX,gj,nZ,bL,Ix,mZ,go_sem];repeat' (first | ((first | ((with_reducible refine bj pV ?_ ?_);(·simp[ae,al,cm])) | ((with_reducible apply cj);(·simp -implicitDefEqProofs only[map_cons,map_nil,push_cast,go_sem_proc]<;>rfl);(with_reducible exact pV);(·rfl)) | (with_reducible refine aD ?_));simp -implicitDefEqProofs only[h1,h2,h8,h9,ez,oQ,EO,sI,an qp,AV,d0,d1,dM,fM,cP,ba,zR,DX,gj,nZ,bL,Ix,mZ,go_sem]) | (with_reducible refine aA.mk ?_ ?_) | (with_reducible refine And.intro ?_ ?_) | ((with_reducible refine bz ?_);simp -implicitDefEqProofs only[xe,push_cast,go_sem_proc]) | intro _)
   refine cu (bm.app _) (fun i o l h=>by cases h) (fo _) (by simp;omega) ?_;rintro bN H' bo hl' cp;obtain⟨a0,b0⟩:=cp 0 (by simp) k0;obtain⟨a1,b1⟩:=cp 1 (by simp;omega) k1;obtain⟨aM,bM⟩:=cp H1.length (by simp;omega) kM;rw[getElem?_append_left (by omega)]at a0 a1 aM;rw[d0]at a0;rw[d1]at a1;rw[dM]at aM;simp only[length_append,length_cons,length_nil]at hl';have j8:=bo.one;have cY:V.one bN=true:=bo.cS;simp only[V.one]at cY;simp -implicitDefEqProofs only[h1,h2,h8,h9,ez,oQ,EO,sI,AV,aM,j8,cY,go_sem];have O2:H1.length<H'.length:=by omega
   refine⟨post.length,Nat.lt_succ_self _,pre++ [(j:Int)],post,bN,by rw[qp];simp,rfl,by simp,?_,?_,?_,?_,b0,b1,bM⟩
   ·rw[getElem?_set_ne (by omega)];exact a0
   ·rw[getElem?_set_ne (by omega)];exact a1
   ·rw[getElem?_set];simp[O2]
   ·rw[map_append,map_append,map_cons,map_nil,map_cons,map_nil,Cu];exact bo.set bM
 ·obtain⟨S,O⟩:=so;cases O with
  | nil=>
   simp -implicitDefEqProofs only[h1,h2,h4,h6,h7,h8,h9,Uu,length_nil,Int.ofNat_zero,Int.lt_irrefl,decide_false,go_sem];intro _;have fi:=hq.fin;obtain⟨hSD,_,_⟩:=fi;have hR:=QI.reach dx (by rw[J8];exact hq);have iI:eR P.procs.length D:=by rw[<-hSD];exact hq.ok.set
   have Iw:ae (D.map fun k=> .fs ((eH ec (aK P.procs k.toNat)).map encS))=true:=bS (fun x=>by simp[al,ah]) D;have Iv:∀(H:List ak) (n:Nat),eI (fz H (n+1)) (D.map fun k=> .fs ((eH ec (aK P.procs k.toNat)).map encS))=some (D.map fun k=> .fs ((eH ec (aK P.procs k.toNat)).map encS)):=fun H n=>dg _ _ (fun x=>by rw[jL];simp[ah]) D
   have GP:=t289 _ _ (aS D) Iw (fun H n=>fA H n D) Iv;have vo:=vo D _ iI Iw;refine⟨[H1.length+1],.db (D.map (.int .i64)) (D.map fun k=> .fs ((eH ec (aK P.procs k.toNat)).map encS)),?_,?_⟩
   ·rw[mr,cg,Ut];simp[mw,fA,Iv]
   have ED:bO [H1.length+1] H=H.set (H1.length+1) .dead:=rfl;rw[ED];have d0:(H.set (H1.length+1) .dead)[0]? =some (ak.row [.agg [.fs (P.procs.map aF),.fs (P.main.map encS)]]):=by rw[getElem?_set_ne (by omega)];exact g0
   have d1:(H.set (H1.length+1) .dead)[1]? =some (ak.row [.agg [.ag,.ag]]):=by rw[getElem?_set_ne (by omega)];exact g1
   have dM:(H.set (H1.length+1) .dead)[H1.length]? =some (ak.row [.agg [.ag,.fs ((eH ec P.main).map encS)]]):=by rw[getElem?_set_ne (by omega)];exact gM
   have dl:H1.length+2<=(H.set (H1.length+1) .dead).length:=by simpa using Ik
   generalize H.set (H1.length+1) .dead=HD at*;repeat' (first | ((first | ((with_reducible first | refine bj GP ?_ ?_ | refine bj vo ?_ ?_);(·simp[ae,al,cm,Iv,aS,Iw])) | ((with_reducible apply cj);(·simp -implicitDefEqProofs only[map_cons,map_nil,Iv,aS,Iw,push_cast,go_sem_proc]<;>rfl);(with_reducible first | exact GP | exact vo);(·rfl)) | (with_reducible refine aD ?_));simp -implicitDefEqProofs only[h1,h2,h4,h6,h7,h8,h9,go_sem]) | (with_reducible refine aA.mk ?_ ?_) | (with_reducible refine And.intro ?_ ?_) | ((with_reducible refine bz ?_);simp -implicitDefEqProofs only[xe,push_cast,go_sem_proc]) | intro _)
   rename_i GQ;have qK:=Ct P.procs.length D;refine aL (fun m e H=>∃pre post xj,kA P.procs.length D=pre++post/\m=post.length/\e 1=.ptr 0 0 0/\e 2=.ptr 1 0 0/\e 8=.ptr H1.length 0 0/\e 9=.db (D.map (.int .i64)) (D.map fun k=> .fs ((eH ec (aK P.procs k.toNat)).map encS))/\e 11=.fs ((kA P.procs.length D).map (.int .i64))/\e 50=.fs ((kA P.procs.length D).map (.int .i64))/\e 51=.int .i64 (kA P.procs.length D).length/\e 52=.int .i64 pre.length/\
    H[0]? =some (ak.row [.agg [.fs (P.procs.map aF),.fs (P.main.map encS)]])/\H[1]? =some (ak.row [.agg [.ag,.ag]])/\H[H1.length]? =some (ak.row [.agg [xj,.fs ((eH ec P.main).map encS)]])/\OV H xj ((pre.map (LO P ec)).map aF)/\a7 xj 0/\a7 xj 1/\a7 xj H1.length) (kA P.procs.length D).length
    ⟨[],_,.ag,rfl,rfl,by simp[az,h1],by simp[az,h2],by simp[az,h8],by simp[az],by simp[az],by simp[az],by simp[az],by simp[az],d0,d1,dM,.inl ⟨rfl,rfl⟩,(fun a b h=>by cases h),(fun a b h=>by cases h),(fun a b h=>by cases h)⟩ ?_
   clear d0 d1 dM dl h1 h2 h4 h6 h7 h8 h9 g0 g1 gM Ut;rintro m e H ⟨pre,post,xj,qp,rfl,h1,h2,h8,h9,ez,oQ,EO,sI,d0,d1,dM,bm,k0,k1,kM⟩;have cP:=bm.one;have ba:V.one xj=true:=bm.cS;simp only[V.one]at ba;have hMl:=(List.getElem?_eq_some_iff.1 dM).1;cases post with
   | nil=>
    have ev:pre=kA P.procs.length D:=by rw[qp];simp
    rw[ev]at bm;have u5:∀X,(H.set 1 X)[1]? =some X:=fun X=>by rw[getElem?_set];simp;omega
    simp -implicitDefEqProofs only[h1,h2,h8,h9,ez,oQ,EO,sI,aI qp,d0,d1,dM,cP,ba,u5,go_sem];have hz:∀X,fz (H.set 1 X) 18 xj=some (.fs (((kA P.procs.length D).map (LO P ec)).map aF)):=fun X=>dw (f:=aF) (n:=16) (fun H x=>gr H 15 x) (bm.set (x:=X) k1)
    simp -implicitDefEqProofs only[xe,h2,ez,u5,cP,hz,aS,push_cast,go_sem_proc];refine⟨D,iI,hR,?_⟩;unfold DV
    rw[J8];rfl
   | cons k post=>
    have DW:k∈kA P.procs.length D:=by rw[qp];simp
    obtain⟨j,rfl,nZ,Xk⟩:=p5 DW;have zR:=aO (V.int .i64) qp;have DX:(P.procs.map aF).getD j .any=.agg [.str P.procs[j].name,.fs (P.procs[j].au.map .str),.fs (P.procs[j].steps.map encS)]:=by
     simp[List.getD,nZ,aF]
    have gj:iD (j:Int) P.procs.length:=⟨by omega,by simp;omega⟩;have Ix:=O0 (fun k=> .fs ((eH ec (aK P.procs k.toNat)).map encS)) (j:Int) Xk;have DY:aK P.procs ((j:Int)).toNat=P.procs[j].steps:=by simp[aK,nZ]
    rw[DY]at Ix;have Cu:aF (LO P ec (j:Int))=.agg [.str P.procs[j].name,.fs (P.procs[j].au.map .str),.fs ((eH ec P.procs[j].steps).map encS)]:=by
     simp[LO,nZ,aF]
    have pV:=t46 P.procs[j].au (sv _ (getElem_mem nZ));have fM:∀l:List ak,(H++l)[H1.length]? =some (ak.row [.agg [xj,.fs ((eH ec P.main).map encS)]]):=fun l=>by rw[getElem?_append_left hMl];exact dM
    generalize P.procs[j]=q at*;have AV:=aa qp GQ;have cR:pre.length<(kA P.procs.length D).length:=by rw[qp];simp
    simp -implicitDefEqProofs only[h1,h2,h8,h9,ez,oQ,EO,sI,an qp,AV,d0,d1,dM,fM,cP,ba,zR,DX,gj,nZ,bL,Ix,mZ,go_sem];repeat' (first | ((first | ((with_reducible refine bj pV ?_ ?_);(·simp[ae,al,cm])) | ((with_reducible apply cj);(·simp -implicitDefEqProofs only[map_cons,map_nil,push_cast,go_sem_proc]<;>rfl);(with_reducible exact pV);(·rfl)) | (with_reducible refine aD ?_));simp -implicitDefEqProofs only[h1,h2,h8,h9,ez,oQ,EO,sI,an qp,AV,d0,d1,dM,fM,cP,ba,zR,DX,gj,nZ,bL,Ix,mZ,go_sem]) | (with_reducible refine aA.mk ?_ ?_) | (with_reducible refine And.intro ?_ ?_) | ((with_reducible refine bz ?_);simp -implicitDefEqProofs only[xe,push_cast,go_sem_proc]) | intro _)
    refine cu (bm.app _) (fun i o l h=>by cases h) (fo _) (by simp;omega) ?_;rintro bN H' bo hl' cp;obtain⟨a0,b0⟩:=cp 0 (by simp) k0;obtain⟨a1,b1⟩:=cp 1 (by simp;omega) k1;obtain⟨aM,bM⟩:=cp H1.length (by simp;omega) kM;rw[getElem?_append_left (by omega)]at a0 a1 aM;rw[d0]at a0;rw[d1]at a1;rw[dM]at aM;simp only[length_append,length_cons,length_nil]at hl';have j8:=bo.one;have cY:V.one bN=true:=bo.cS;simp only[V.one]at cY;simp -implicitDefEqProofs only[h1,h2,h8,h9,ez,oQ,EO,sI,AV,aM,j8,cY,go_sem];have O2:H1.length<H'.length:=by omega
    refine⟨post.length,Nat.lt_succ_self _,pre++ [(j:Int)],post,bN,by rw[qp];simp,rfl,by simp,?_,?_,?_,?_,b0,b1,bM⟩
    ·rw[getElem?_set_ne (by omega)];exact a0
    ·rw[getElem?_set_ne (by omega)];exact a1
    ·rw[getElem?_set];simp[O2]
    ·rw[map_append,map_append,map_cons,map_nil,map_cons,map_nil,Cu];exact bo.set bM
  | cons k O=>
   have hs:=hq.split;simp only at hs;have Ip:k∈S:=by rw[hs];simp
   have dW:=hq.ok.set.lo k Ip;have fI:=hq.ok.set.hi k Ip;have hkD:k∉D:=by
    have AQ:=hq.ok.set.nodup;simp only[hs]at AQ;rw[nodup_append]at AQ;intro hm;exact AQ.2.2 k hm k (by simp) rfl
   obtain⟨j,rfl⟩:∃j:Nat,k=j:=⟨k.toNat,by omega⟩;have nZ:j<P.procs.length:=by omega
   obtain⟨pre,q,post,ao,cR⟩:∃pre q post,P.procs=pre++q::post/\pre.length=j:=⟨P.procs.take j,P.procs[j],P.procs.drop (j+1),by rw[<-drop_eq_getElem_cons nZ,take_append_drop],by simp;omega⟩;have DX:=aO aF ao;rw[cR]at DX;simp only[aF]at DX;have DY:aK P.procs j=q.steps:=by unfold aK;rw[ao,<-cR];simp
   have gj:iD (j:Int) P.procs.length:=⟨by omega,by simp;omega⟩;have hlO:((0:Int)<((O.length+1:Nat):Int))=True:=eq_true (by omega);simp only[length_cons]at J9 hid hi Uu k0 k1 kM kM1⊢;have ly:es[off]? =some (j:Int):=by
    have:(es.drop off)[0]? =some (j:Int):=by rw[To];rfl
    simpa using this
   have nJ:(es.map (V.int .i64)).getD off .any=.int .i64 j:=by
    rw[getD_eq_getElem?_getD,getElem?_map,ly];rfl
   have cX:off<es.length:=(List.getElem?_eq_some_iff.1 ly).1;simp -implicitDefEqProofs only[h1,h2,h4,h6,h7,h8,h9,Uu,hlO,hid,nJ,cX,Nat.add_zero,decide_true,if_true,DX,gj,g0,go_sem];intro _;refine⟨⟨by omega,by omega⟩,⟨by omega,by omega,by omega,by omega,pQ es⟩,?_⟩;have hO1:O.length+1 - 1=O.length:=rfl;rw[hO1];have Xi:=(List.getElem?_eq_some_iff.1 Uu).1;have eB:∀(X:ak) (j:Nat),j≠4->(H.set 4 X)[j]? =H[j]? :=fun X j hj=>by rw[getElem?_set_ne (fun e=>hj e.symm)]
   have DF:kZ (H.set 4 (.row [.ms id (off+1) O.length])) (.ms id (off+1) O.length) (S,O):=by
    refine⟨by rw[eB _ _ (by omega)];exact hi.seen,by rw[eB _ _ (by omega)];exact hi.cell,by rw[getElem?_set];simp;omega,.inr ⟨id,off+1,es,rfl,?_,dr,by simp only;omega,?_⟩,?_,?_,?_⟩
    ·rw[eB _ _ (fun e=>hi.n4 off _ (by rw[e]))];exact hid
    ·have:=congrArg (List.drop 1) To;rw[drop_drop]at this;simpa using this
    ·intro a b h;injection h with h;exact hi.n2 off _ (by rw[h])
    ·intro a b h;injection h with h;exact hi.n3 off _ (by rw[h])
    ·intro a b h;injection h with h;exact hi.n4 off _ (by rw[h])
   have DS:Cs P.procs.length (S,O):=⟨hq.ok.set,by have:=hq.ok.le;simp only[length_cons]at this⊢;omega⟩;have Uv:=tZ dx j;have j1:=qZ nZ;rw[DY]at Uv j1;have k6:=ud P.procs (iK ec q.steps) (S,O);have j7:=KH.kr (so1:=jx P.procs (S,O) (iK ec q.steps)) DF k6.2.1 k6.2.2;have cH:=O1 q.steps Uv (by omega) _ _ _ DF DS;have QP:=QI.pop dx hq;simp only[Int.toNat_natCast,DY]at QP;have Xl:∀i,a7 (V.ms id off (O.length+1)) i->a7 (V.ms id (off+1) O.length) i:=fun i h a b e=>by injection e with e;exact h off _ (by rw[e])
   obtain⟨a0,b0⟩:=j7.get (j:=0) (by simp;omega) (by omega) (by omega) (Xl _ k0);obtain⟨a1,b1⟩:=j7.get (j:=1) (by simp;omega) (by omega) (by omega) (Xl _ k1);obtain⟨aM,bM⟩:=j7.get (j:=H1.length) (by simp;omega) (by omega) (by omega) (Xl _ kM);obtain⟨aM1,bM1⟩:=j7.get (j:=H1.length+1) (by simp;omega) (by omega) (by omega) (Xl _ kM1);rw[eB _ _ (by omega)]at a0 a1 aM aM1;rw[g0]at a0;rw[g1]at a1;rw[gM]at aM;rw[Ut]at aM1;have MD:=j7.len;have oO:=j7.inv;have z8:(H.set 4 (.row [.ms id (off+1) O.length]))[0]? =some (ak.row [.agg [.fs (P.procs.map aF),.fs (P.main.map encS)]]):=by rw[eB _ _ (by omega)];exact g0
   simp only[length_set]at MD;have hDl:=QP.ok.set.len;have hDs:=QP.split;rw[hDs]at hDl;simp only[length_append,length_cons,length_nil]at hDl;generalize KH (H.set 4 (.row [.ms id (off+1) O.length])) (.ms id (off+1) O.length) (S,O) (jx P.procs (S,O) (iK ec q.steps))=H2 at*;generalize OQ (H.set 4 (.row [.ms id (off+1) O.length])) (.ms id (off+1) O.length) (S,O) (jx P.procs (S,O) (iK ec q.steps))=fH at*;generalize jx P.procs (S,O) (iK ec q.steps)=AS at*;have IE:ja (D.map (.int .i64)) (.int .i64 (j:Int))=(D++ [(j:Int)]).map (.int .i64):=Ur _ hkD;have hmv:=LN (fun k=> .fs ((eH ec (aK P.procs k.toNat)).map encS)) (j:Int) (.fs ((eH ec q.steps).map encS)) hkD;have eW:off+(O.length+1) - 1=off+O.length:=by omega
   repeat' (first | ((first | (with_reducible refine bR cH ?_) | (with_reducible refine aD ?_));simp -implicitDefEqProofs only[h1,h2,h4,h6,h7,h8,h9,z8,DX,gj,aM1,bL,IE,hmv,go_sem]) | (with_reducible refine aA.mk ?_ ?_) | (with_reducible refine And.intro ?_ ?_) | ((with_reducible refine bz ?_);simp -implicitDefEqProofs only[xe,push_cast,go_sem_proc]) | intro _)
   have hlM:H1.length+1<H2.length:=by omega
   refine⟨m - 1,by omega,D++ [(j:Int)],AS,fH,by simp;omega,QP,oO.set (by omega) bM1,by simp;omega,?_,?_,?_,?_,b0,b1,bM,bM1⟩
   ·rw[getElem?_set_ne (by omega)];exact a0
   ·rw[getElem?_set_ne (by omega)];exact a1
   ·rw[getElem?_set_ne (by omega)];exact aM
   ·rw[getElem?_set];simp[hlM,DY]
def Ka (P:bH):Prop:=af Tryz.prog 57 [aP P] (fun r=>∃D,eR P.procs.length D/\mA P.procs.length D=(mz P).procs/\r=.dJ [aP (DV P D),.fs ((kA P.procs.length D).map (.int .i64))])
theorem Kb {n:Nat} {D:List Int} {j:Nat} (h:j<n):(j:Int)∈kA n D↔(j:Int)∈D:=by
 constructor
 ·intro hm;obtain⟨j',e,_,h3⟩:=p5 hm;rw[e];exact h3
 ·intro hm;simp only[kA,mem_map,mem_filter,mem_range,decide_eq_true_eq];exact⟨j,⟨h,hm⟩,rfl⟩
theorem uf {P:bH} {i:Nat} (h:i<P.procs.length):aK P.procs i=P.procs[i].steps:=by simp[aK,h]
theorem k7 {P:bH} {i:Nat} (h:i<P.procs.length):dc P (i+1)=dc P i+ai (aK P.procs i):=by
 have ht:P.procs.take (i+1)=P.procs.take i++ [P.procs[i]]:=by rw[take_succ_eq_append_getElem h]
 have hc:bD [P.procs[i]]=ai P.procs[i].steps:=by simp[bD]
 simp only[dc,ht,bE,hc,uf h];omega
theorem jy {P:bH} {i:Nat}:∀d:Nat,dc P i<=dc P (i+d)
 | 0=>Int.le_refl _
 | d+1=>by
  have ih:=jy (P:=P) (i:=i) d;by_cases h:i+d<P.procs.length
  ·have:=k7 h;have e:i+(d+1)=i+d+1:=rfl;rw[e];omega
  ·have h1:P.procs.take (i+(d+1))=P.procs.take (i+d):=by
    rw[take_of_length_le (by omega),take_of_length_le (by omega)]
   have:dc P (i+(d+1))=dc P (i+d):=by simp only[dc,h1]
   omega
theorem oC (P:bH):dc P 0=(ai P.main:Int):=by simp[dc,bD]
theorem ug (D:List Int):∀n,(kA n D).Pairwise (·<=·)
 | 0=>by simp[kA]
 | n+1=>by
  have ih:=ug D n;have hA:kA (n+1) D=kA n D++if(n:Int)∈D then[(n:Int)]else[]:=by
   simp only[kA,range_succ,filter_append,map_append];congr 1
   by_cases h:(n:Int)∈D<;>simp[h]
  rw[hA,pairwise_append];refine⟨ih,by split<;>simp,fun a ha b hb=> ?_⟩;obtain⟨j,rfl,hj,_⟩:=p5 ha;split at hb
  ·simp at hb;omega
  ·simp at hb
theorem DZ (D:List Int) (n:Nat):(kA n D).Nodup:=by
 unfold kA
 refine List.Pairwise.map _ (fun a b (h:a≠b)=> ?_) (List.Pairwise.filter _ nodup_range);intro e;exact h (by omega)
theorem GS {n:Nat} {D:List Int} (h:eR n D):D.Perm (kA n D):=by
 refine(perm_ext_iff_of_nodup h.nodup (DZ D n)).2 (fun k=> ?_);constructor
 ·intro hk;have h0:=h.lo k hk;have h1:=h.hi k hk;obtain⟨j,rfl⟩:∃j:Nat,k=j:=⟨k.toNat,by omega⟩;exact(Kb (by omega)).2 hk
 ·intro hk;obtain⟨j,rfl,_,hj⟩:=p5 hk;exact hj
theorem AW {n:Nat} {D ss:List Int} (h:eR n D) (hp:ss.Perm D):ss.mergeSort (fun x y=>decide (x<=y))=kA n D:=by
 have h1:(ss.mergeSort (fun x y=>decide (x<=y))).Perm (kA n D):=((mergeSort_perm _ _).trans hp).trans (GS h);have h2:(ss.mergeSort (fun x y=>decide (x<=y))).Pairwise (·<=·):=by
  have:=pairwise_mergeSort (le:=fun(x y:Int)=>decide (x<=y)) (fun a b c wQ Uw=>by simp at*;omega) (fun a b=>by simp;omega) ss;exact this.imp (fun wQ=>by simpa using wQ)
 exact h1.eq_of_pairwise (fun a b _ _ wQ hba=>by omega) h2 (ug D n)
end Go.Proofs.YtdgoeblpcnjlbaaGreatDoor.Av
namespace Go.Proofs
open Go.Shelf List
def Tryz.v8:Go.Shelf.Ren:=⟨fun | 7=>137 | 10=>186 | n=>n,fun | 23=>147 | 26=>3 | 3=>27 | 28=>208 | 0=>0 | 27=>207 | 33=>75 | 4=>4 | n=>n,fun | n=>n⟩
theorem Tryz.Ux:Go.Proofs.SlLaysZI.n7 Tryz.prog Tryz.v8:={
 mixed:=by kernel_rfl
 f7:=⟨Tryz.f137.name,by decide,Tryz.func137.trans (congrArg some (by kernel_rfl))⟩
 f10:=⟨Tryz.f186.name,by decide,Tryz.func186.trans (congrArg some (by kernel_rfl))⟩
 t0:=Tryz.underlying0
 a0:=Tryz.isAgg0
 z0:=Tryz.sizeOf0
 v0:=Tryz.zeroValue0
 t4:=Tryz.underlying4
 a4:=Tryz.isAgg4
 z4:=Tryz.sizeOf4
 v4:=Tryz.zeroValue4
 t23:=Tryz.underlying147
 a23:=Tryz.isAgg147
 z23:=Tryz.sizeOf147
 v23:=Tryz.zeroValue147
 t26:=Tryz.underlying3
 a26:=Tryz.isAgg3
 z26:=Tryz.sizeOf3
 v26:=Tryz.zeroValue3
 t27:=Tryz.underlying207
 a27:=Tryz.isAgg207
 z27:=Tryz.sizeOf207
 v27:=Tryz.zeroValue207
 t28:=Tryz.underlying208
 a28:=Tryz.isAgg208
 z28:=Tryz.sizeOf208
 v28:=Tryz.zeroValue208
 t33:=Tryz.underlying75
 a33:=Tryz.isAgg75
 z33:=Tryz.sizeOf75
 v33:=Tryz.zeroValue75}
def Tryz.cU:Go.Shelf.Ren:=⟨fun | 6=>136 | 8=>185 | 9=>99 | 11=>242 | 13=>168 | 12=>171 | 23=>211 | 24=>212 | 14=>214 | 15=>215 | 16=>216 | 17=>217 | 18=>218 | 19=>219 | 20=>220 | 21=>221 | 22=>222 | 25=>264 | 26=>260 | 27=>261 | 28=>265 | 29=>266 | 30=>169 | 31=>282 | n=>n,fun | 26=>3 | 28=>208 | 24=>22 | 0=>0 | 3=>3 | 37=>233 | 48=>266 | 50=>268 | 4=>4 | 40=>259 | 39=>258 | 45=>263 | 5=>5 | 9=>9 | 51=>303 | 55=>198 | 57=>318 | 58=>319 | 33=>75 | n=>n,fun | n=>n⟩
theorem Tryz.Cv:Go.Proofs.SlLaysZI.n6 Tryz.prog Tryz.cU:={
 mixed:=by kernel_rfl
 f6:=⟨Tryz.f136.name,by decide,Tryz.func136.trans (congrArg some (by kernel_rfl))⟩
 f8:=⟨Tryz.f185.name,by decide,Tryz.func185.trans (congrArg some (by kernel_rfl))⟩
 f11:=⟨Tryz.f242.name,by decide,Tryz.func242.trans (congrArg some (by kernel_rfl))⟩
 t0:=Tryz.underlying0
 a0:=Tryz.isAgg0
 z0:=Tryz.sizeOf0
 v0:=Tryz.zeroValue0
 t24:=Tryz.underlying22
 a24:=Tryz.isAgg22
 z24:=Tryz.sizeOf22
 v24:=Tryz.zeroValue22
 t26:=Tryz.underlying3
 a26:=Tryz.isAgg3
 z26:=Tryz.sizeOf3
 v26:=Tryz.zeroValue3
 t28:=Tryz.underlying208
 a28:=Tryz.isAgg208
 z28:=Tryz.sizeOf208
 v28:=Tryz.zeroValue208
 i26:=by kernel_rfl}
def Tryz.D1:Go.Shelf.Ren:=⟨fun | 5=>99 | 8=>168 | 7=>171 | 19=>211 | 20=>212 | 10=>214 | 11=>215 | 12=>216 | 13=>217 | 14=>218 | 15=>219 | 16=>220 | 17=>221 | 18=>222 | 30=>264 | 31=>260 | 32=>261 | 33=>265 | 34=>266 | 35=>169 | 40=>282 | n=>n,fun | 23=>22 | 25=>3 | 3=>3 | 32=>233 | 22=>22 | 0=>0 | 44=>266 | 46=>268 | 4=>4 | 36=>259 | 35=>258 | 41=>263 | 5=>5 | 9=>9 | 53=>303 | 57=>198 | 63=>318 | 64=>319 | n=>n,fun | n=>n⟩
theorem Tryz.LP:Go.Proofs.SlLaysM.n5 Tryz.prog Tryz.D1:={
 mixed:=by kernel_rfl
 f5:=⟨Tryz.f99.name,by decide,Tryz.func99.trans (congrArg some (by kernel_rfl))⟩
 f7:=⟨Tryz.f171.name,by decide,Tryz.func171.trans (congrArg some (by kernel_rfl))⟩
 f8:=Tryz.func168.trans (congrArg some (by kernel_rfl))
 f10:=⟨Tryz.f214.name,by decide,Tryz.func214.trans (congrArg some (by kernel_rfl))⟩
 f11:=⟨Tryz.f215.name,by decide,Tryz.func215.trans (congrArg some (by kernel_rfl))⟩
 f12:=⟨Tryz.f216.name,by decide,Tryz.func216.trans (congrArg some (by kernel_rfl))⟩
 f13:=⟨Tryz.f217.name,by decide,Tryz.func217.trans (congrArg some (by kernel_rfl))⟩
 f14:=⟨Tryz.f218.name,by decide,Tryz.func218.trans (congrArg some (by kernel_rfl))⟩
 f15:=⟨Tryz.f219.name,by decide,Tryz.func219.trans (congrArg some (by kernel_rfl))⟩
 f16:=⟨Tryz.f220.name,by decide,Tryz.func220.trans (congrArg some (by kernel_rfl))⟩
 f17:=⟨Tryz.f221.name,by decide,Tryz.func221.trans (congrArg some (by kernel_rfl))⟩
 f18:=⟨Tryz.f222.name,by decide,Tryz.func222.trans (congrArg some (by kernel_rfl))⟩
 f19:=Tryz.func211.trans (congrArg some (by kernel_rfl))
 f20:=Tryz.func212.trans (congrArg some (by kernel_rfl))
 f30:=⟨Tryz.f264.name,by decide,Tryz.func264.trans (congrArg some (by kernel_rfl))⟩
 f31:=Tryz.func260.trans (congrArg some (by kernel_rfl))
 f32:=Tryz.func261.trans (congrArg some (by kernel_rfl))
 f33:=⟨Tryz.f265.name,by decide,Tryz.func265.trans (congrArg some (by kernel_rfl))⟩
 f34:=⟨Tryz.f266.name,by decide,Tryz.func266.trans (congrArg some (by kernel_rfl))⟩
 f35:=⟨Tryz.f169.name,by decide,Tryz.func169.trans (congrArg some (by kernel_rfl))⟩
 f40:=⟨Tryz.f282.name,by decide,Tryz.func282.trans (congrArg some (by kernel_rfl))⟩
 t0:=Tryz.underlying0
 a0:=Tryz.isAgg0
 z0:=Tryz.sizeOf0
 v0:=Tryz.zeroValue0
 t3:=Tryz.underlying3
 a3:=Tryz.isAgg3
 z3:=Tryz.sizeOf3
 v3:=Tryz.zeroValue3
 t4:=Tryz.underlying4
 a4:=Tryz.isAgg4
 z4:=Tryz.sizeOf4
 v4:=Tryz.zeroValue4
 t5:=Tryz.underlying5
 a5:=Tryz.isAgg5
 z5:=Tryz.sizeOf5
 v5:=Tryz.zeroValue5
 t9:=Tryz.underlying9
 a9:=Tryz.isAgg9
 z9:=Tryz.sizeOf9
 v9:=Tryz.zeroValue9
 t22:=Tryz.underlying22
 a22:=Tryz.isAgg22
 z22:=Tryz.sizeOf22
 v22:=Tryz.zeroValue22
 t23:=Tryz.underlying22
 a23:=Tryz.isAgg22
 z23:=Tryz.sizeOf22
 v23:=Tryz.zeroValue22
 t25:=Tryz.underlying3
 a25:=Tryz.isAgg3
 z25:=Tryz.sizeOf3
 v25:=Tryz.zeroValue3
 t32:=Tryz.underlying233
 a32:=Tryz.isAgg233
 z32:=Tryz.sizeOf233
 v32:=Tryz.zeroValue233
 t35:=Tryz.underlying258
 a35:=Tryz.isAgg258
 z35:=Tryz.sizeOf258
 v35:=Tryz.zeroValue258
 t36:=Tryz.underlying259
 a36:=Tryz.isAgg259
 z36:=Tryz.sizeOf259
 v36:=Tryz.zeroValue259
 t41:=Tryz.underlying263
 a41:=Tryz.isAgg263
 z41:=Tryz.sizeOf263
 v41:=Tryz.zeroValue263
 t44:=Tryz.underlying266
 a44:=Tryz.isAgg266
 z44:=Tryz.sizeOf266
 v44:=Tryz.zeroValue266
 t46:=Tryz.underlying268
 a46:=Tryz.isAgg268
 z46:=Tryz.sizeOf268
 v46:=Tryz.zeroValue268
 t53:=Tryz.underlying303
 a53:=Tryz.isAgg303
 z53:=Tryz.sizeOf303
 v53:=Tryz.zeroValue303
 t57:=Tryz.underlying198
 a57:=Tryz.isAgg198
 z57:=Tryz.sizeOf198
 v57:=Tryz.zeroValue198
 t63:=Tryz.underlying318
 a63:=Tryz.isAgg318
 z63:=Tryz.sizeOf318
 v63:=Tryz.zeroValue318
 t64:=Tryz.underlying319
 a64:=Tryz.isAgg319
 z64:=Tryz.sizeOf319
 v64:=Tryz.zeroValue319}
end Go.Proofs
namespace Go.Proofs
open Go.RowKit Go.Maps Go.Sort Go.Shelf List
theorem Tryz.O3 (m:Nat):AnyZI.SortsIn Tryz.prog Tryz.cU Fence.wide m:=
 ⟨fun dI off cap ss W hH O4 eW=>callsIn_wide.2 (AnyM.slices_Sort_int Tryz.LP dI off cap ss W hH O4 eW),
  fun p cap W=>callsIn_wide.2 (AnyM.slices_Sort_int_none Tryz.LP p cap W)⟩
theorem Tryz.D2 (lb:Array Value) (S:List Int->Prop) (N:Nat) (hN:N<=maxLen) (hNb:N*8<=140737488355328) (w:World) (wN:SeqGives Fence.wide 2 Tryz.prog 186 lb encZ S N w):
 Calls Tryz.prog 136 #[.func (.func 186) #[] lb] w fun e w'=>∃(v:Value) (ss:List Int),e=.returned v/\S ss/\
  w'.ownsRow w.heap.size (Tryz.cU.t 26) 1 v ss.length ((ss.mergeSort (fun x y=>decide (x<=y))).map encZ)/\(v=.slice none 0 0↔ss=[])/\Below w.heap.size w w':=by
 refine(callsIn_wide (n:=5)).1 ?_;exact AnyZI.sorted_in Tryz.Cv Fence.wide 5 trivial trivial trivial trivial rfl (by omega) (Tryz.O3 _) (enters_of Tryz.func99 (by kernel_rfl) rfl) 186 lb trivial (enters_of Tryz.func186 (by kernel_rfl) rfl) S N hN hNb w wN
end Go.Proofs
namespace Go.Proofs.YtdgoeblpcnjlbaaGreatDoor.Av
open Go.RowKit List
mutual
def paS (X:List Pr) (M:Nat->Nat->Bool) (r:ByteArray):St->Bool
 | .mk k r0 t v l e a b p ps=>if 0<=kI X k p then(decide (0<=oc (fun y=>decide (r=y)) ps 0) && M (kI X k p).toNat (oc (fun y=>decide (r=y)) ps 0).toNat)
   else(((dS k r0 t ps).any (fun y=>decide (r=y)) || paL X M r a) || paL X M r b)
def paL (X:List Pr) (M:Nat->Nat->Bool) (r:ByteArray):List St->Bool
 | []=>false
 | s::l=>paS X M r s || paL X M r l
end
def leaf:St->Bool
 | .mk k _ _ _ _ _ a b _ _=>k !=5 || (a.isEmpty && b.isEmpty)
def Uy (f:Nat->Bool) (n:Nat):List Int:=((List.range n).filter f).map (fun(i:Nat)=>(i:Int))
def Kc (M:Nat->Nat->Bool):List Pr->Nat->List (List Int)
 | [],_=> []
 | q::l,i=>Uy (M i) q.au.length::Kc M l (i+1)
theorem GU (M:Nat->Nat->Bool):∀(X:List Pr) (i j:Nat) (q:Pr),X[j]? =some q->(Kc M X i)[j]? =some (Uy (M (i+j)) q.au.length)
 | [],i,j,q,h=>by simp at h
 | x::X,i,0,q,h=>by simp at h;subst h;simp[Kc]
 | x::X,i,j+1,q,h=>by
  have:=GU M X (i+1) j q (by simpa using h);simp only[Kc,getElem?_cons_succ,this];congr 3;omega
structure WfY (P:bH) (y:mV):Prop where
 leaf:leaf y.1=true
 au:∀i:Nat,y.2.1=i->∃q,P.procs[i]? =some q/\(match y.1 with | .mk k r t _ _ _ _ _ _ ps=>∀z∈dS k r t ps,z∈q.au)
 call:match y.1 with | .mk k _ _ _ _ _ _ _ p ps=>k=5->0<=bq P.procs p/\ps.Nodup/\∃q,P.procs[(bq P.procs p).toNat]? =some q/\q.au.length=ps.length
theorem uh:∀{l seen:List ByteArray},cO seen l=false->l.Nodup/\∀x∈l,x∉seen
 | [],seen,_=>by simp
 | x::l,seen,h=>by
  simp only[cO,Bool.or_eq_false_iff]at h;obtain⟨h1,h2⟩:=uh h.2;have h0:x∉seen:=fun hx=>by
   have:=List.any_eq_false.1 h.1 x hx;simp at this
  refine⟨List.nodup_cons.2 ⟨fun hx=>h2 x hx (by simp),h1⟩,fun y hy=> ?_⟩;rcases List.mem_cons.1 hy with rfl | hy
  ·exact h0
  ·exact fun hs=>h2 y hy (by simp[hs])
theorem wb:∀{l seen:List ByteArray},pG seen l=0->l.Nodup/\∀x∈l,x∉seen
 | [],seen,_=>by simp
 | x::l,seen,h=>by
  simp only[pG]at h;split at h
  ·cases h
  split at h
  ·cases h
  rename_i hn;obtain⟨h1,h2⟩:=wb h;have h0:x∉seen:=fun hx=>hn (List.any_eq_true.2 ⟨x,hx,by simp⟩)
  refine⟨List.nodup_cons.2 ⟨fun hx=>h2 x hx (by simp),h1⟩,fun y hy=> ?_⟩;rcases List.mem_cons.1 hy with rfl | hy
  ·exact h0
  ·exact fun hs=>h2 y hy (by simp[hs])
mutual
theorem Kd:∀(s:St) (d:Int) (pr:Int) (la:Bool),sF s d=0->∀y∈nu s pr la,leaf y.1=true
 | .mk k r t v l e a b p ps,d,pr,la,h=>by
  intro y hy;simp only[sF]at h;split at h
  ·rename_i h1;exact absurd h h1
  rename_i h1;split at h
  ·rename_i h2;exact absurd h h2
  rename_i h2;simp only[nu,mem_cons,mem_append]at hy;rcases hy with rfl | hy | hy
  ·simp only[ne_eq,Decidable.not_not]at h1;rcases e with⟨ek,en,es,aR⟩
   simp only[kq,rA]at h1;simp only[leaf,Bool.or_eq_true,bne_iff_ne,ne_eq];by_cases h5:k=5
   ·right;subst h5;split at h1;·cases h1
    split at h1;·cases h1
    split at h1;·cases h1
    rename_i hf;simp only[yK]at hf;have wQ:¬(a.length+b.length>0):=fun hc=>hf (by rw[if_pos];decide;right;right;right;right;right;left;exact⟨by decide,hc⟩)
    have ha:a=[]:=eq_nil_of_length_eq_zero (by omega);have hb:b=[]:=eq_nil_of_length_eq_zero (by omega);simp[ha,hb]
   ·exact .inl h5
  ·exact mC a (d+1) pr la (by simpa using h2) y hy
  ·exact mC b (d+1) pr la h y hy
theorem mC:∀(l:List St) (d:Int) (pr:Int) (la:Bool),gA l d=0->∀y∈gC l pr la,leaf y.1=true
 | [],d,pr,la,h=>by intro y hy;simp[gC]at hy
 | s::l,d,pr,la,h=>by
  intro y hy;simp only[gA]at h;split at h
  ·rename_i h1;exact absurd h h1
  rename_i h1;simp only[gC,mem_append]at hy;rcases hy with hy | hy
  ·exact Kd s d pr _ (by simpa using h1) y hy
  ·exact mC l d pr la h y hy
end
theorem ui:∀{post pre:List Pr},rC pre post=0->∀q∈post,∃pre',pF pre' q=0
 | [],pre,_,q,h=>by simp at h
 | x::post,pre,h,q,hq=>by
  simp only[rC]at h;split at h
  ·rename_i h1;exact absurd h h1
  rename_i h1;rcases List.mem_cons.1 hq with rfl | hq
  ·exact⟨pre,by simpa using h1⟩
  ·exact ui h q hq
theorem mD {P:bH} (h:np P=0):rC [] P.procs=0/\gA P.main 1=0/\P.procs.length<=50:=by
 rw[np]at h;split at h;·cases h
 rename_i h0;split at h
 ·rename_i h1;exact absurd h h1
 rename_i h1;split at h
 ·rename_i h2;exact absurd h h2
 rename_i h2;exact⟨by simpa using h1,by simpa using h2,by omega⟩
theorem GV {pre:List Pr} {q:Pr} (h:pF pre q=0):q.au.Nodup/\gA q.steps 1=0/\0<q.au.length/\q.au.length<=12:=by
 rw[pF]at h;split at h;·cases h
 split at h;·cases h
 split at h;·cases h
 rename_i h3;split at h;·cases h
 rename_i h4;split at h
 ·rename_i h5;exact absurd h h5
 rename_i h5;exact⟨(wb (by simpa using h5)).1,h,by omega,by omega⟩
theorem y8 {P:bH} (h:lK P=0):np P=0:=by
 rw[lK]at h;split at h
 ·rename_i h1;exact absurd h h1
 ·rename_i h1;simpa using h1
theorem sJ {P:bH} (h:lK P=0):∀q∈P.procs,q.au.Nodup/\gA q.steps 1=0/\0<q.au.length/\q.au.length<=12:=by
 intro q hq;obtain⟨pre,h1⟩:=ui (mD (y8 h)).1 q hq;exact GV h1
theorem GW {l:List Pr}:∀{i:Nat},(∀q∈l,gA q.steps 1=0)->∀y∈mc l i,leaf y.1=true:=by
 induction l with
 | nil=>intro i _ y h;simp[mc]at h
 | cons q l ih=>
  intro i h y hy;simp only[mc,mem_append]at hy;rcases hy with hy | hy
  ·exact mC _ 1 _ _ (h q (by simp)) y hy
  ·exact ih (fun x hx=>h x (by simp[hx])) y hy
theorem oF5 {P:bH} {rs:Option (List ByteArray)} {r t p:ByteArray} {ps:List ByteArray} (h:oF P rs 5 r t p ps=0):∃q,P.procs.find? (fun z=>decide (z.name=p))=some q/\q.au.length=ps.length/\cO [] ps=false:=by
 unfold oF at h
 cases hf:P.procs.find? (fun z=>decide (z.name=p))with
 | none=>
  rw[hf]at h;cases rs with
  | none=>simp at h
  | some rs=>
   by_cases hc:((dS 5 r t ps).any fun z=> !rs.any fun y=>decide (z=y))=true
   ·simp only[hc,if_true]at h;cases h
   ·simp only[hc,if_false,ne_eq,not_true_eq_false]at h;cases h
 | some q=>
  rw[hf]at h;refine⟨q,rfl,?_⟩;have h2:(if q.au.length≠ps.length then(3:Int)else if cO [] ps=true then 6 else 0)=0:=by
   cases rs with
   | none=>simpa using h
   | some rs=>
    by_cases hc:((dS 5 r t ps).any fun z=> !rs.any fun y=>decide (z=y))=true
    ·simp only[hc,if_true]at h;cases h
    ·simp only[hc,if_false,ne_eq,not_true_eq_false]at h;exact h
  by_cases hlen:q.au.length=ps.length
  ·by_cases hd:cO [] ps=true
   ·simp[hlen,hd]at h2
   ·exact⟨hlen,by simpa using hd⟩
  ·simp[hlen]at h2
theorem Xm {P:bH} (h:lK P=0):∀y∈cw P,WfY P y:=by
 intro y hy;have hF:=y5 h y hy;have dx:=tL P y hy;have hlf:leaf y.1=true:=by
  have hc:=mD (y8 h);simp only[cw,mem_append]at hy;rcases hy with hy | hy
  ·exact mC _ 1 _ _ hc.2.1 y hy
  ·exact GW (fun q hq=>(sJ h q hq).2.1) y hy
 obtain⟨⟨k,r,t,v,l,e,a,b,p,ps⟩,pr,la⟩:=y;simp only[vf,oF]at hF;refine⟨hlf,fun i hi=> ?_,fun h5=> ?_⟩
 ·have hi:pr=(i:Int):=hi;subst hi;rcases dx with dx | ⟨pa,qa,pb,h1,h2⟩
  ·simp only at dx;omega
  ·simp only at h2;have LQ:i=pa.length:=by omega
   have hq:P.procs[i]? =some qa:=by rw[LQ,h1];simp
   refine⟨qa,hq,?_⟩;have hrs:gN P (i:Int)=some qa.au:=by
    simp only[gN,show¬((i:Int)<0) by omega,if_false,Int.toNat_natCast,hq,Option.map_some]
   rw[hrs]at hF;simp only at hF;split at hF
   ·cases hF
   ·rename_i hn;intro z hz;refine Classical.byContradiction fun hc=>hn (List.any_eq_true.2 ⟨z,hz,?_⟩)
    simp only[Bool.not_eq_true'];rw[any_eq_false];intro x hx;simp only[decide_eq_true_eq];rintro rfl;exact hc hx
 ·have h5:k=5:=h5;subst h5;obtain⟨q,hf,hlen,hd⟩:=oF5 (show oF P (gN P pr) 5 r t p ps=0 from hF);rcases jN (fun z:Pr=>decide (z.name=p)) P.procs 0 (by omega)with⟨hI,JK⟩ | ⟨pre,q',post,ao,hI,JK⟩
  ·rw[hf]at JK;cases JK
  ·rw[hf]at JK;cases JK;have hpI:bq P.procs p=(pre.length:Int):=by rw[bq,hI];omega
   exact⟨by omega,(uh hd).1,q,by rw[hpI,ao];simp,hlen⟩
theorem xl:∀{l:List Pr} {i j:Nat} {q:Pr},l[j]? =some q->∀y∈gC q.steps ((i+j:Nat):Int) true,y∈mc l i
 | [],i,j,q,h,y,hy=>by simp at h
 | x::l,i,0,q,h,y,hy=>by simp at h;subst h;simp only[mc,mem_append];exact .inl (by simpa using hy)
 | x::l,i,j+1,q,h,y,hy=>by
  simp only[mc,mem_append];exact .inr (xl (i:=i+1) (j:=j) (by simpa using h) y (by rw[show i+1+j=i+(j+1) by omega];exact hy))
theorem xm:∀{l:List Pr} {i:Nat} {y:mV},y∈mc l i->∃j q,l[j]? =some q/\y∈gC q.steps ((i+j:Nat):Int) true
 | [],i,y,h=>by simp[mc]at h
 | x::l,i,y,h=>by
  simp only[mc,mem_append]at h;rcases h with h | h
  ·exact⟨0,x,by simp,by simpa using h⟩
  ·obtain⟨j,q,h1,h2⟩:=xm h;exact⟨j+1,q,by simpa using h1,by rw[show i+(j+1)=i+1+j by omega];exact h2⟩
theorem GX {P:bH} {y:mV} (hy:y∈cw P) {i:Nat} (hi:y.2.1=i) {q:Pr} (hq:P.procs[i]? =some q):y∈gC q.steps (i:Int) true:=by
 simp only[cw,mem_append]at hy;rcases hy with hy | hy
 ·have:=fp _ _ _ y hy;omega
 ·obtain⟨j,q',h1,h2⟩:=xm hy;have:=fp _ _ _ y h2;have rm:i=j:=by omega
  subst rm;rw[hq]at h1;cases h1;simpa using h2
end Go.Proofs.YtdgoeblpcnjlbaaGreatDoor.Av
namespace Go.Proofs
open Go.RowKit Go.Maps Go.Sort Go.Shelf List
section
variable {P:Program} {ρ:Ren}
theorem D3 (L:SlLaysZI.n10 P ρ) {H:Type} (F:Fence) (n:Nat) (eb:F.fn (ρ.f 10)) (sv:F.round=none) (hn:1<=n) (l Bm o b nn:Nat) (D0:DataW H) {R:Value->Option (DataW H×List MemPlace)} (J:List Int->World->Prop)
 (hY:∀pre x W,J pre W->pre.length<Maps.size D0->YieldAt F (n - 1) P l #[encZ x] W fun e W'=>e=.returned (.bool true)/\J (pre++ [x]) W'/\KeepsWalks W W')
 (W:World) (hJ:AbidesFrom W.heap.size J) (hm:W.cell? ⟨Bm,o,none⟩=some (.map (some b))) (gh:W.ownsMap P (ρ.t 26) R b nn D0) (h0:J [] W):
 CallsIn F n P (ρ.f 10) #[.func (.yield l) #[] #[],.pointer (some ⟨Bm,o,none⟩)] W fun e W'=>(∃v,e=.returned v)/\∃ss:List Int,ss.Perm (intKeys D0)/\J ss W':=by
 have mixed:=L.mixed;have t0:=L.t0;have a0:=L.a0;have z0:=L.z0;have v0:=L.v0;have t4:=L.t4;have a4:=L.a4;have z4:=L.z4;have v4:=L.v4;have t23:=L.t23;have a23:=L.a23;have z23:=L.z23;have v23:=L.v23;have t26:=L.t26;have a26:=L.a26;have z26:=L.z26;have v26:=L.v26;have t33:=L.t33;have a33:=L.a33;have z33:=L.z33;have v33:=L.v33;have u0:=run_underlying L.t0;have u4:=run_underlying L.t4;have u23:=run_underlying L.t23;have u26:=run_underlying L.t26;have u33:=run_underlying L.t33;obtain⟨_,_,FG⟩:=L.f10;refine callsIn_of_wp FG rfl eb ?_ sv;simp only[SlBodyZ.n10_ntmps ρ,size_toArray,length_cons,length_nil,Nat.reduceAdd,Nat.reduceSub,Array.replicate_succ,Array.replicate_zero,List.push_toArray,List.append_toArray,nil_append,cons_append];gi_wp2_with (first
  | (gi_at_range;refine wpListIn_range_own _ rfl _ (ρ.t 23) rfl (ρ.t 26) (ρ.t 3) (int_keyed L.t26) L.t23 _ b nn _ rfl gh ?_;intro w0 hrg0 hg0 z8)
  | gi_in)
 go_frame
 gi_loopw [3] (fun _ wr=>∃(left:Lit->Bool) (dA:Nat) (ss:List Int),wr.ranges P (ρ.t 26) R b W.heap.size nn D0 left dA/\ss.length+dA<=Maps.size D0/\CollectedI D0 left ss/\J ss wr)
  (fun _ wr=>wr.rangeLeft b W.heap.size)
 case atStart=>
  exact⟨_,_,[],hrg0,by simp,CollectedI.start D0,hJ [] W w0 none h0 hg0 (fun r e=>by cases e)⟩
 case round=>
  obtain⟨left,dA,ss,hrg,lI,hC,pJ⟩:=hrel;gi_wp2_with (first
   | (gi_at_next;refine wpListIn_next_ranges _ rfl _ rfl (ρ.t 26) (int_keyed L.t26) R encZ id (fun key kl hk=>by obtain⟨x,hx,_⟩:=Maps.keyOf_i64 L.t26 hk;exact⟨x,hx⟩) (fun v _ _=>⟨v,rfl⟩) b W.heap.size nn _ _ _ rfl hrg ?_ ?_)
   | gi_in)
  ·intro zJ j5;gi_wp2
   go_end0
   exact⟨⟨_,rfl⟩,ss,hC.perm gh (int_keyed L.t26) L.t26 j5,pJ⟩
  ·intro x c kl yd yp w2 cnt2 hkey hlk hv QE hrg2 ct gB lz zK;obtain⟨x',ex,rfl,_⟩:=Maps.keyOf_i64 L.t26 hkey;obtain rfl:x=x':=encZ_inj ex;have vg:J ss w2:=hJ ss wr w2 (some W.heap.size) pJ gB (fun r e=>by cases e;exact⟨Nat.le_refl _,hrg.iter_walk⟩);obtain⟨fn,tmps,assign,body,hy,hR⟩:=hY ss x w2 vg (by omega);clear lz;gi_wp2
   refine hR.mono ?_;rintro e W3 ⟨rfl,Dt,vn⟩;gi_wp2
   have UC:=hrg2.of_walks vn;go_roundw
   case rel=>exact⟨_,cnt2,ss++ [x],UC,by simp;omega,hC.step hlk QE,Dt⟩
   case measure=>rw[UC.left_eq,hrg.left_eq];exact ct
theorem za (L:SlLaysZI.n10 P ρ) {H:Type} (F:Fence) (n:Nat) (eb:F.fn (ρ.f 10)) (sv:F.round=none) (hn:1<=n) (Bm o b nn:Nat) (D0:DataW H) {R:Value->Option (DataW H×List MemPlace)} (w:World) (hBm:Bm<w.heap.size)
 (hm:w.cell? ⟨Bm,o,none⟩=some (.map (some b))) (gh:w.ownsMap P (ρ.t 26) R b nn D0):
 SeqGives F n P (ρ.f 10) #[.pointer (some ⟨Bm,o,none⟩)] encZ (fun ss=>ss.Perm (intKeys D0)) (Maps.size D0) w:=fun l J W hW hJ hY h0=>by
 have UD:W.ownsMap P (ρ.t 26) R b nn D0:=by
  have l6:=gh.lt;obtain⟨es,clock,hb,Ft,hs,hD⟩:=gh;exact⟨es,clock,(hW.block b l6).trans hb,Ft,hs,hD⟩
 exact D3 {L with} F n eb sv hn l Bm o b nn D0 J hY W hJ ((hW.cell (p:=⟨Bm,o,none⟩) hBm).trans hm) UD h0
end
end Go.Proofs
namespace Go.Proofs.YtdgoeblpcnjlbaaGreatDoor.Av
open Go.RowKit Go.Maps List
theorem wc {B:List Pl} {I:IM}:∀{D:List Int} {l:List Value},aV B I (D.map (.int .i64)) l->l=D.map encZ
 | [],l,h=>by simpa[aV]using h
 | x::D,l,h=>by
  simp only[map_cons,aV,aU]at h;obtain⟨v,vs,rfl,rfl,h⟩:=h;rw[wc h];rfl
theorem D4 {I:IM} {w w':World} {e:TypeId} {v:Value} {L:List Int} (l4:∀b o,I b=some o->w.heap[b]? =some o) (hb:Below w.heap.size w w') (h:w'.ownsRow w.heap.size e 1 v L.length (L.map encZ)):
 ∃I',dY I I'/\(∀b o,I' b=some o->w'.heap[b]? =some o)/\(∀b,I b=none->I' b≠none->w.heap.size<=b)/\aU [] I' (.fs (L.map (.int .i64))) v:=by
 have BN:∀b o,I b=some o->w'.heap[b]? =some o:=fun b o h=>by
  have h1:=l4 b o h;rw[hb.block b (Array.getElem?_eq_some_iff.1 h1).1];exact h1
 rcases h.2 with⟨rfl,hz⟩ | ⟨g,cap,cur,rfl,h1,h2,h3,h4,h5,h6⟩
 ·have:L=[]:=eq_nil_of_length_eq_zero hz;subst this;exact⟨I,dY.refl I,BN,fun b h1 h2=>absurd h1 h2,by simp only[aU];exact⟨none,0,rfl,by simp,by simp,.inl rfl⟩⟩
 ·have UE:I g=none:=by
   cases hI:I g with
   | none=>rfl
   | some o=>have:=(Array.getElem?_eq_some_iff.1 (l4 g o hI)).1;omega
  refine⟨fun b=>if b=g then some (.cells cur e (0,0))else I b,fun b o Ig=> ?_,fun b o Ig=> ?_,fun b lC Dx=> ?_,?_⟩
  ·show(if b=g then _ else _)=_;rw[if_neg (by rintro rfl;rw[UE]at Ig;cases Ig)];exact Ig
  ·simp only at Ig;split at Ig
   ·rename_i LS;subst LS;cases Ig;exact h2
   ·exact BN b o Ig
  ·simp only at Dx;split at Dx
   ·omega
   ·exact absurd lC Dx
  ·simp only[aU];refine⟨_,cap,by rw[length_map],by simpa using h3,h4,.inr ⟨g,0,1,rfl,?_⟩⟩;rw[ch];intro i x hx;rw[getElem?_map]at hx;cases hL:L[i]? with
   | none=>rw[hL]at hx;cases hx
   | some n=>
    rw[hL]at hx;cases hx;refine⟨rfl,fun j c hj=> ?_⟩;simp only[aw]at hj;have Rt:j=0:=by have:=(List.getElem?_eq_some_iff.1 hj).1;simp at this;exact this
    subst Rt;simp at hj;subst hj;refine⟨.int .i64 n,?_,rfl⟩;have hi:=(List.getElem?_eq_some_iff.1 hL).1;have:(cur.toList.take (L.length*1))[i]? =(L.map encZ)[i]? :=by rw[h6]
    rw[getElem?_take_of_lt (by omega),getElem?_map,hL]at this;simp only[jD,if_pos,Nat.zero_add,Nat.mul_one,Nat.add_zero];rw[<-Array.getElem?_toList];exact this
theorem vo {n:Nat} (hn:n<=1000000) (D:List Int) (f:Int->V) (hD:eR n D) (Iw:ae (D.map f)=true):
 af Tryz.prog 136 [.a6 186 [] [.bc [.db (D.map (.int .i64)) (D.map f)]]] (·=.fs ((kA n D).map (.int .i64))):=by
 refine⟨by kernel_rfl,fun I w args l4 hr=> ?_⟩;simp only[aV,aU,cI]at hr;obtain⟨v0,l,eD,⟨fs,cs,rfl,Ic,v1,l1,lI,⟨bb,oo,rfl,⟨v2,I4,b,es,clock,rfl,hIb,gi,hk,hv⟩,_⟩,rfl⟩,rfl⟩:=hr;have hfs':fs= #[]:=by cases fs;simp_all
 have hcs':cs= #[.pointer (some ⟨bb,oo,none⟩)]:=by cases cs;simp_all
 have gU:args= #[.func (.func 186) fs cs]:=by cases args;simp_all
 subst gU hfs' hcs';have l6:bb<w.heap.size/\w.cell? ⟨bb,oo,none⟩=some (.map (some b)):=by
  unfold jD at I4
  split at I4
  ·rename_i c e fz hI;have h1:=l4 _ _ hI;refine⟨(Array.getElem?_eq_some_iff.1 h1).1,?_⟩;simp[World.cell?,h1,I4]
  ·cases I4
 have Cw:=wc hk;have hlen:es.size=D.length:=by have:=congrArg List.length Cw;simpa using this
 have hDn:D.length<=n:=hD.len;have ht26:Tryz.prog.underlying (Tryz.cU.t 26)=some (.int .i64):=Tryz.Cv.t26;let R:Value->Option (DataW Unit×List MemPlace):=fun _=>some (.lit (.bool false),[])
 have LU:∀x∈es.toList,∃m:Int,m∈D/\x.key=encZ m/\Go.WideElems.rd Tryz.prog (Tryz.cU.t 26) R x=some (.int .i64 m,.lit (.bool false)):=by
  intro x hx;have QR:x.key∈es.toList.map (·.key):=List.mem_map.2 ⟨x,hx,rfl⟩;rw[Cw]at QR;obtain⟨m,hm,hmx⟩:=List.mem_map.1 QR;refine⟨m,hm,hmx.symm,?_⟩;have h1:=hD.lo m hm;have h2:=hD.hi m hm;obtain⟨xk,xv,xb⟩:=x;simp only at hmx;subst hmx;have hw:(Lit.int .i64 m).wf=true:=by
   simp[Lit.wf,IntKind.min,IntKind.max,IntKind.signed,IntKind.bits];omega
  exact Go.WideElems.rd_mk (yv:=(.lit (.bool false),[])) (Go.Maps.keyOf_int_mk ht26 hw) (by rfl)
 have gh:w.ownsMap Tryz.prog (Tryz.cU.t 26) R b es.size (.map ((es.toList.map (Go.WideElems.rg Tryz.prog (Tryz.cU.t 26) R)).foldr DataW.insert [])):=by
  refine⟨es,clock,l4 _ _ hIb,⟨?_,⟨gi.1,gi.2,?_⟩,fun x hx=> ?_⟩,Nat.le_refl _,rfl⟩
  ·have:maxLen=9223372036854775807:=rfl;omega
  ·rw[Cw];exact List.pairwise_map.2 (hD.nodup.imp fun{a b} wQ e=>wQ (encZ_inj e))
  ·obtain⟨m,_,_,h⟩:=LU x hx;exact⟨_,h⟩
 have sY:(intKeys (.map ((es.toList.map (Go.WideElems.rg Tryz.prog (Tryz.cU.t 26) R)).foldr DataW.insert []))).Perm D:=by
  have h1:(intKeys (.map ((es.toList.map (Go.WideElems.rg Tryz.prog (Tryz.cU.t 26) R)).foldr DataW.insert []))).Perm ((es.toList.map (Go.WideElems.rg Tryz.prog (Tryz.cU.t 26) R)).map fun p=>Go.intOf p.1):=(Go.WideShapes.sorted_perm _).map _;have h2:((es.toList.map (Go.WideElems.rg Tryz.prog (Tryz.cU.t 26) R)).map fun p=>Go.intOf p.1)=D:=by
   have hinj:((es.toList.map (Go.WideElems.rg Tryz.prog (Tryz.cU.t 26) R)).map fun p=>Go.intOf p.1).map encZ=D.map encZ:=by
    rw[<-Cw,map_map,map_map];refine map_congr_left fun x hx=> ?_
    obtain⟨m,_,h3,h4⟩:=LU x hx;simp only[Function.comp,Go.WideElems.rg_of h4,Go.intOf,h3]
   exact(List.map_inj_right (fun a b h=>encZ_inj h)).1 hinj
  rw[h2]at h1;exact h1
 have eW:Maps.size (.map ((es.toList.map (Go.WideElems.rg Tryz.prog (Tryz.cU.t 26) R)).foldr DataW.insert []):DataW Unit)=es.size:=by
  simp[Maps.size,Go.DataW.length_sorted]
 have wN:SeqGives Fence.wide 2 Tryz.prog 186 #[.pointer (some ⟨bb,oo,none⟩)] encZ _ _ w:=
  za (ρ:=Tryz.v8) {Tryz.Ux with} Fence.wide 2 trivial rfl (by omega) bb oo b es.size _ w l6.1 l6.2 gh
 refine(Tryz.D2 _ _ _ (by rw[eW];have:maxLen=9223372036854775807:=rfl;omega) (by rw[eW];omega) w wN).mono ?_;rintro e w' ⟨v,ss,rfl,hS,nj,_,UF⟩;have pW:=AW hD (hS.trans sY);rw[pW]at nj;have hl:ss.length=(kA n D).length:=by rw[<-pW];simp
 rw[hl]at nj;obtain⟨I',h1,h2,h3,h4⟩:=D4 l4 UF nj;exact⟨_,v,I',rfl,rfl,h1,h2,h3,h4,UF⟩
def encI (l:List Int):V:=.fs (l.map (.int .i64))
theorem OV.freeze {H:List ak} {v:V} {l:List Int} (h:OV H v (l.map (.int .i64))):∃D,Av.fz (cQ D H) 20 v=some (.fs (l.map (.int .i64)))/\∀i,a7 v i->(bO D H)[i]? =H[i]? :=by
 rcases h with⟨h1,rfl⟩ | ⟨_,id,rfl,h2⟩
 ·refine⟨[],by rw[fQ,h1],fun i _=>rfl⟩
 ·refine⟨[id],?_,fun i hi=> ?_⟩
  ·have hk:(cQ [id] H)[id]? =some (.row (l.map (.int .i64))):=by rw[cg,h2];simp
   rw[iu,hk,ef,if_pos (by simp),drop_zero,take_of_length_le (by simp),fA];rfl
  ·rw[de,if_neg];rintro⟨hc,_⟩;have:i=id:=by simpa using hc
   exact hi 0 (l.map (V.int .i64)).length (by rw[this])
theorem Ke (H:List ak) (n:Nat) (l:List Int):Av.fz H (n+1) (encI l)=some (encI l):=by rw[encI,jL,if_pos (aS l)]
theorem zb (R:List (List Int)):df 1 (R.map encI):=cA _ _ (fun x=>by simp[encI,aw]) R
theorem Ka.mk {P:bH} (hc:total P<=1000000) (ew:P.procs.length<=1000000) (dx:AN P) (sv:∀q∈P.procs,q.au.length<=1000000):Ka P:=
 t237 P hc ew dx sv (fun D f hD hf=>vo ew D f hD hf)
end Go.Proofs.YtdgoeblpcnjlbaaGreatDoor.Av

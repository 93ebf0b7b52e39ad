/- ReadsFound. Text 17 of 17. -/
import Derived.Test.YtdgoeblpcnjlbaaGreatDoorCards
import Derived.Test.YtdgoeblpcnjlbaaGreatDoorTie
import Derived.WalkKit
import Derived.ProofKit
import Derived.OpenShut
import Derived.Carry
import Derived.Deep.DeepHandedRow
import Derived.Lib.LaidTab
import Derived.LaidMore
import Derived.Lay
import Derived.SevenTiedAt
import Derived.Stop.Joined
import Derived.Test.YtdgoeblpcnjlbaaGreatDoorM16
set_option linter.all false
set_option maxRecDepth 100000
set_option maxHeartbeats 64000000
namespace Go.Proofs.YtdgoeblpcnjlbaaGreatDoor.Av
open Go.RowKit Go.Maps Go.Sort List
theorem flat3uget:∀(l:List EaR) (i j:Nat) (x:EaR),l[i]? =some x->j<3->(l.flatMap encEc)[i*3+j]? =(encEc x)[j]?
 | [],i,j,x,h,_=>by simp at h
 | y::l,0,j,x,h,hj=>by
  simp at h;subst h;rw[List.flatMap_cons,List.getElem?_append_left (by show _<3;omega)];simp
 | y::l,i+1,j,x,h,hj=>by
  rw[List.flatMap_cons,List.getElem?_append_right (by show 3<=_;omega),show(i+1)*3+j - (encEc y).length=i*3+j by show _ - 3=_;omega];exact flat3uget l i j x (by simpa using h) hj
theorem ea_keys {B:List Pl} {I:IM}:∀{l:List EaR} {ks:List Value},aV B I (l.map encEa) ks->ks=l.map encK/\∀x∈l,x.2.1.size<=maxLen/\x.2.2.size<=maxLen
 | [],ks,h=>by simp only[List.map_nil,aV]at h;exact⟨by rw[h];rfl,fun x hx=>by simp at hx⟩
 | x::l,ks,h=>by
  simp only[List.map_cons,aV,encEa,aU]at h;obtain⟨v,vs,rfl,⟨cs,rfl,v0,l0,h0,rfl,v1,l1,rfl,⟨rfl,Ff⟩,v2,l2,rfl,⟨rfl,Jj⟩,rfl⟩,h⟩:=h;obtain⟨h1,h2⟩:=ea_keys h;have lI:cs= #[.int .i64 x.1,.string x.2.1,.string x.2.2]:=by cases cs;simp_all
  subst lI;refine⟨by rw[h1];rfl,fun y hy=> ?_⟩;rcases List.mem_cons.1 hy with rfl | hy
  ·exact⟨Ff,Jj⟩
  ·exact h2 y hy
theorem eg316:∀args w,(callFunc 178 args).run Tryz.prog w=.ok (.enter 178 args) w:=enters_of Tryz.func178 (by kernel_rfl) rfl
theorem keysE_gives (Bm o b:Nat) (es:Array MapEntry) (clock:Nat) (xs:List EaR) (Cw:es.toList.map (·.key)=xs.map encK) (gi:Bn es clock) (w:World) (hBm:Bm<w.heap.size) (hm:w.cell? ⟨Bm,o,none⟩=some (.map (some b))) (hb:w.heap[b]? =some (.map es clock)):
 SeqGives Fence.wide 2 Tryz.prog 178 #[.pointer (some ⟨Bm,o,none⟩)] encK (fun ss=>ss.Perm xs) xs.length w:=fun l J W hW hJ hY h0=>
 Tryz.keysE_in Fence.wide 2 trivial rfl (by omega) l Bm o b es clock xs Cw gi.1 gi.2 J hY W hJ ((hW.cell (p:=⟨Bm,o,none⟩) hBm).trans hm) ((hW.block b (Array.getElem?_eq_some_iff.1 hb).1).trans hb) h0
theorem a362 {H:List ak} (l:List EaR) (hl:l.length<=1000000000000):
 av Tryz.prog 235 [.ag,.a6 178 [] [.bc [.db (l.map encEa) (trG l)]]] H (fun r H'=>∃m:List EaR,m.Perm l/\OV H' r (m.map encEa)):=by
 refine⟨by kernel_rfl,fun f B I w args hs hr=> ?_⟩;simp only[aV,aU,cI]at hr;obtain⟨v0,l0,eD,rfl,v1,l1,rfl,⟨fs,cs,rfl,Ic,v2,l2,lI,⟨bb,oo,rfl,⟨v3,hv3,b,es,clock,rfl,hIb,gi,hk,hv⟩,_⟩,rfl⟩,rfl⟩:=hr;have hfs':fs= #[]:=by cases fs;simp_all
 have hcs':cs= #[.pointer (some ⟨bb,oo,none⟩)]:=by cases cs;simp_all
 have gU:args= #[.slice none 0 0,.func (.func 178) fs cs]:=by cases args;simp_all
 subst gU hfs' hcs';have l6:bb<w.heap.size/\w.cell? ⟨bb,oo,none⟩=some (.map (some b)):=by
  unfold jD at hv3
  split at hv3
  ·rename_i c e fz hI;have h1:=hs.lH _ _ hI;refine⟨(Array.getElem?_eq_some_iff.1 h1).1,?_⟩;simp[World.cell?,h1,hv3]
  ·cases hv3
 obtain⟨Cw,eW⟩:=ea_keys hk;have wN:=keysE_gives bb oo b es clock l Cw gi w l6.1 l6.2 (hs.lH _ _ hIb);have hM:maxLen=9223372036854775807:=rfl;refine((callsIn_wide (n:=3)).1 (Tryz.appendSeqE_in Fence.wide 3 trivial rfl (by omega) 178 _ trivial eg316 _ l.length (by omega) (by omega) w wN)).mono ?_;rintro e w' ⟨v,ss,rfl,hS,nj,Zk,UF⟩;have BN:∀b o,I b=some o->w'.heap[b]? =some o:=fun b o hI=>by
  rw[UF.block b (hs.Mu (by rw[hI];simp))];exact hs.lH b o hI
 have lz:cD f B I w' H:=hs.grow UF (dY.refl _) BN (fun b h1 h2=>absurd h1 h2);by_cases h0:ss=[]
 ·have QX:=Zk.2 h0;subst h0;exact⟨.ag,v,H,B,I,rfl,⟨[],hS,.inl ⟨rfl,rfl⟩⟩,lz,eA.refl _,dY.refl _,by simp only[aU];exact QX⟩
 ·obtain⟨Q9,nj⟩:=nj;rcases nj with⟨h1,h2⟩ | ⟨g,cap,cur,rfl,h1,h2,h3,h4,h5,h6⟩
  ·exact absurd (List.eq_nil_of_length_eq_zero h2) h0
  have hgI:I g=none:=by
   cases hI:I g with
   | none=>rfl
   | some o=>have:=hs.Mu (b:=g) (by rw[hI];simp);omega
  have W6:g<w'.heap.size:=(Array.getElem?_eq_some_iff.1 h2).1;have ni:=lz.push ⟨g,0,cap*3,3⟩ (.row (ss.map encEa)) ⟨cur,70,h2,h5,by show 0+(ss.map encEa).length*3<=cap*3;rw[List.length_map];omega,by
   rw[ch];intro i e hi;rw[List.getElem?_map]at hi;cases hx:ss[i]? with
   | none=>rw[hx]at hi;cases hi
   | some x=>
    rw[hx]at hi;simp only[Option.map_some,Option.some.injEq]at hi;subst hi;have dF:=(List.getElem?_eq_some_iff.1 hx).1;have hm:=eW x (hS.mem_iff.1 (List.mem_of_getElem? hx));refine⟨rfl,fun j c hj=> ?_⟩;have Ds:j<3:=(List.getElem?_eq_some_iff.1 hj).1;have cr:cur[0+i*3+j]? =(encEc x)[j]? :=by
     rw[<-flat3uget ss i j x hx Ds,<-h6,List.getElem?_take_of_lt (by omega),Nat.zero_add,Array.getElem?_toList]
    show∃v,cur[0+i*3+j]? =some v/\_;rw[cr];obtain rfl | rfl | rfl:j=0\/j=1\/j=2:=by omega
    ·obtain rfl:V.int .i64 x.1=c:=by simpa[aw,encEa]using hj
     exact⟨_,rfl,rfl⟩
    ·obtain rfl:V.str x.2.1=c:=by simpa[aw,encEa]using hj
     exact⟨_,rfl,rfl,hm.1⟩
    ·obtain rfl:V.str x.2.2=c:=by simpa[aw,encEa]using hj
     exact⟨_,rfl,rfl,hm.2⟩⟩ (fun i q c s3 Ng hlv=>by
    have:=(hs.own i q c s3 Ng hlv).2.2;show q.dI≠g;omega) ⟨hgI,.inl (Nat.le_trans hs.size h1),W6⟩
  refine⟨.ms H.length 0 ss.length,_,_,_,I,rfl,⟨ss,hS,.inr ⟨by simpa using h0,H.length,by rw[List.length_map],by simp⟩⟩,ni,eA.append _ _,dY.refl _,?_⟩;simp only[aU];exact⟨⟨g,0,cap*3,3⟩,some ⟨g,0,none⟩,cap,by rw[<-hs.len];simp,rfl,fun _=>rfl,h3,h4,by show 0+(0+cap)*3<=cap*3;omega⟩
end Go.Proofs.YtdgoeblpcnjlbaaGreatDoor.Av
namespace Go.Proofs.YtdgoeblpcnjlbaaGreatDoor.Av
open Go.RowKit Go.Maps Go.Sort List
theorem t315 {H:List ak} (l:List EaR) (hl:l.length<=1000000000000):
 av Tryz.prog 177 [.a6 178 [] [.bc [.db (l.map encEa) (trG l)]]] H (fun r H'=>∃m:List EaR,m.Perm l/\OV H' r (m.map encEa)):=by
 refine av.intro c315 100 (by simp) ?_;simp -implicitDefEqProofs only[s315,go_sem];refine av.mono (a362 l hl) ?_;rintro r H' hm;simp -implicitDefEqProofs only[go_sem];simp -implicitDefEqProofs only[r315,push_cast,go_sem_proc];exact hm
theorem c274uholds:C274:=by
 intro l hb hl;refine af.intro c274 200 (by simp) 20 ?_;simp -implicitDefEqProofs only[s274,go_sem];refine av.mono (t315 l hl) ?_;rintro kv H' ⟨m,hm,bm⟩;simp -implicitDefEqProofs only[go_sem];refine av.mono (a261o (fun x hx=>hb x (hm.mem_iff.1 hx)) bm (by rw[hm.length_eq];exact hl) 107 (.inr rfl)) ?_;rintro _ H2 ⟨rfl,m2,h1,h2,bJ,_,_⟩;have hz:=dw (f:=encEa) (n:=18) (fun H x=>fz_encEa H 17 x) bJ;simp -implicitDefEqProofs only[go_sem];simp -implicitDefEqProofs only[r274,hz,push_cast,go_sem_proc];exact⟨m2,h1.trans hm,h2,rfl⟩
end Go.Proofs.YtdgoeblpcnjlbaaGreatDoor.Av
namespace Go.Proofs.YtdgoeblpcnjlbaaGreatDoor.Av
open Go.RowKit Go.Sort List
def rlOf:St->ByteArray
 | .mk _ r _ _ _ _ _ _ _ _=>r
def roN (P:bH) (n:Int):ByteArray:=match (cw P)[n.toNat]? with | some y=>rlOf y.1 | none=>⟨#[]⟩
mutual
theorem roS_of (RO:Int->ByteArray):∀(x:St) (pr:Int) (la:Bool) (n:Int),(∀(j:Nat) y,(nu x pr la)[j]? =some y->RO (n+j)=rlOf y.1)->roS RO x n
 | .mk k r t v l e a b p ps,pr,la,n,h=>by
  simp only[nu]at h;refine⟨by have:=h 0 _ rfl;simpa[rlOf]using this,roL_of RO a pr la (n+1) (fun j y hj=> ?_),roL_of RO b pr la (n+1+ai a) (fun j y hj=> ?_)⟩
  ·have:=h (j+1) y (by rw[List.getElem?_cons_succ,List.getElem?_append_left (List.getElem?_eq_some_iff.1 hj).1];exact hj);rw[<-this];congr 1;omega
  ·have:=h (ai a+j+1) y (by rw[List.getElem?_cons_succ,List.getElem?_append_right (by rw[er];omega),er,Nat.add_sub_cancel_left];exact hj);rw[<-this];congr 1;omega
theorem roL_of (RO:Int->ByteArray):∀(l:List St) (pr:Int) (la:Bool) (n:Int),(∀(j:Nat) y,(gC l pr la)[j]? =some y->RO (n+j)=rlOf y.1)->roL RO l n
 | [],_,_,_,_=>trivial
 | x::l,pr,la,n,h=>by
  simp only[gC]at h;refine⟨roS_of RO x pr (la && l.isEmpty) n (fun j y hj=>h j y (by rw[List.getElem?_append_left (List.getElem?_eq_some_iff.1 hj).1];exact hj)),roL_of RO l pr la (n+dA x) (fun j y hj=> ?_)⟩;have:=h (dA x+j) y (by rw[List.getElem?_append_right (by rw[jm];omega),jm,Nat.add_sub_cancel_left];exact hj);rw[<-this];congr 1;omega
end
theorem ro_main (P:bH):roL (roN P) P.main 0:=roL_of _ P.main (-1) true 0 (fun j y hj=>by
 have:(cw P)[j]? =some y:=by rw[cw,List.getElem?_append_left (List.getElem?_eq_some_iff.1 hj).1];exact hj
 rw[roN,show((0:Int)+(j:Int)).toNat=j by omega,this])
theorem ro_body (P:bH) (i:Nat) (hi:i<P.procs.length):roL (roN P) (aK P.procs i) (dc P i):=by
 obtain⟨pre,q,post,h1,hl⟩:∃pre q post,P.procs=pre++q::post/\pre.length=i:=⟨P.procs.take i,P.procs[i],P.procs.drop (i+1),by rw[<-List.drop_eq_getElem_cons hi,List.take_append_drop],by simp;omega⟩;have e1:aK P.procs i=q.steps:=by unfold aK;rw[h1,<-hl];simp
 have e2:dc P i=((ai P.main+bD pre:Nat):Int):=by unfold dc;rw[h1,<-hl];simp
 rw[e1,e2];refine roL_of _ q.steps (pre.length:Nat) true _ (fun j y hj=> ?_);have oN:=(List.getElem?_eq_some_iff.1 hj).1;have:(cw P)[ai P.main+bD pre+j]? =some y:=by
  rw[cw,List.getElem?_append_right (by rw[er];omega),er,h1,tK,Nat.zero_add,spP,List.getElem?_append_right (by rw[og];omega),og,List.getElem?_append_left (by omega)];rw[show ai P.main+bD pre+j - ai P.main - bD pre=j by omega];exact hj
 rw[roN,show(((ai P.main+bD pre:Nat):Int)+(j:Int)).toNat=ai P.main+bD pre+j by omega,this]
mutual
theorem dmS_of {X:List Pr} (h:∀q∈X,q.au.length<=12):∀s,okS2 X s=true->dmS X s=true
 | .mk k r t v l e a b p ps,hs=>by
  simp only[okS2,Bool.and_eq_true,Bool.or_eq_true,bne_iff_ne,ne_eq,decide_eq_true_eq]at hs;simp only[dmS,Bool.and_eq_true,Bool.or_eq_true,decide_eq_true_eq];refine⟨?_,dmL_of h a hs.2.1,dmL_of h b hs.2.2⟩;rcases hs.1 with h1 | ⟨h1,h2⟩
  ·exact .inl h1
  ·refine .inr ⟨h1,?_⟩;cases hx:X[(procI X p).toNat]? with
   | none=>rw[hx]at h2;cases h2
   | some q=>
    rw[hx]at h2;simp only[Option.map_some,Option.some.injEq]at h2;have:=h q (List.mem_of_getElem? hx);omega
theorem dmL_of {X:List Pr} (h:∀q∈X,q.au.length<=12):∀l,okL2 X l=true->dmL X l=true
 | [],_=>rfl
 | s::l,hs=>by
  simp only[okL2,Bool.and_eq_true]at hs;simp only[dmL,dmS_of h s hs.1,dmL_of h l hs.2,Bool.and_self]
end
theorem dmP_of {P:bH} (h:lK P=0):DmP P:=by
 have dU:∀q∈P.procs,q.au.length<=12:=fun q hq=>(sJ h q hq).2.2.2
 have h2:=okP2uof h;refine⟨dmL_of dU _ h2.1,fun i=> ?_⟩;unfold aK
 cases hx:P.procs[i]? with
 | none=>rfl
 | some q=>exact dmL_of dU _ (h2.2 q (List.mem_of_getElem? hx))
end Go.Proofs.YtdgoeblpcnjlbaaGreatDoor.Av
namespace Go.Proofs.YtdgoeblpcnjlbaaGreatDoor.Av
open Go.RowKit Go.Sort List
theorem HR:∀{l seen:List ByteArray},pG seen l=0->∀x∈l,dt x=true
 | [],seen,_,x,hx=>by simp at hx
 | y::l,seen,h,x,hx=>by
  simp only[pG]at h;split at h
  ·cases h
  rename_i hn;split at h
  ·cases h
  rcases List.mem_cons.1 hx with rfl | hx
  ·simpa using hn
  ·exact HR h x hx
theorem pl_roles {P:bH} (h:lK P=0):∀q∈P.procs,∀r∈q.au,r≠⟨#[]⟩:=by
 intro q hq r hr;obtain⟨pre,h1⟩:=ui (mD (y8 h)).1 q hq;rw[pF]at h1;split at h1;·cases h1
 split at h1;·cases h1
 split at h1;·cases h1
 split at h1;·cases h1
 split at h1
 ·rename_i h5;exact absurd h1 h5
 rename_i h5;exact jV (HR (by simpa using h5) r hr)
theorem pw_of {P:bH} (h:lK P=0):PW P (roN P):=by
 have dx:AN P:=AP h;have h2:=okP2uof h;have hd:=dmP_of h;refine⟨⟨wf_main h dx,h2.1,hd.main,ro_main P⟩,fun i hi=> ?_,fun i q k r hq hr=>pl_roles h q (List.mem_of_getElem? hq) r (List.mem_of_getElem? hr),hd.body⟩;have hq:P.procs[i]? =some P.procs[i]:=List.getElem?_eq_getElem hi;have e1:aK P.procs i=P.procs[i].steps:=by unfold aK;rw[hq]
 refine⟨?_,?_,hd.body i,ro_body P i hi⟩
 ·rw[e1];exact wf_body h dx hq
 ·rw[e1];exact h2.2 _ (List.mem_of_getElem? hq)
theorem mainR_ne {P:bH} (h:lK P=0):∀r∈mainR P,r≠⟨#[]⟩:=fun r hr=>jV (Hu h r hr)
theorem pw_uniq {α:Type} {r:α->α->Prop} (hi:∀x y,r x y->r y x->False):∀{a b:List α},a.Perm b->a.Pairwise r->b.Pairwise r->a=b
 | [],b,h,_,_=>h.nil_eq
 | x::a,[],h,_,_=>absurd h.symm.nil_eq (by simp)
 | x::a,y::b,h,h1,h2=>by
  rw[List.pairwise_cons]at h1 h2;have hxy:x=y:=by
   have hx:=h.mem_iff.1 (List.mem_cons_self (a:=x) (l:=a));have hy:=h.mem_iff.2 (List.mem_cons_self (a:=y) (l:=b));rcases List.mem_cons.1 hx with e | hx
   ·exact e
   ·rcases List.mem_cons.1 hy with e | hy
    ·exact e.symm
    ·exact(hi _ _ (h1.1 y hy) (h2.1 x hx)).elim
  subst hxy;rw[pw_uniq hi (h.cons_inv) h1.2 h2.2]
theorem ltE_uniq {a b:List EaR} (hk:∀x∈a,∀y∈a,x.1=y.1/\x.2.2=y.2.2->x=y) (hn:a.Nodup) (h:a.Perm b) (h1:a.Pairwise (fun x y=>ltE y x=false)) (h2:b.Pairwise (fun x y=>ltE y x=false)):a=b:=by
 have strict:∀c:List EaR,c.Perm a->c.Pairwise (fun x y=>ltE y x=false)->c.Pairwise (fun x y=>ltE x y=true):=fun c hc hp=>by
  have uV:c.Nodup:=hc.nodup_iff.2 hn;refine(List.Pairwise.and hp uV).imp_of_mem ?_;rintro x y hx hy ⟨h3,h4⟩;rcases ltE_tri x y with h5 | h5 | h5
  ·exact h5
  ·rw[h3]at h5;cases h5
  ·exact absurd (hk x (hc.mem_iff.1 hx) y (hc.mem_iff.1 hy) h5) h4
 refine pw_uniq (r:=fun x y=>ltE x y=true) (fun x y hxy hyx=> ?_) h (strict a (List.Perm.refl _) h1) (strict b h.symm h2);have:=ltE_trans x y x hxy hyx;rw[ltE_irrefl]at this;cases this
theorem eaA_mem {P:bH} (hd:DmP P) (RO:Int->ByteArray) (y:EaR):y∈eaA P RO↔y.2.2∈nmL (cw P)/\FO P (ucC P.procs y.2.2) y.2.2 (mainR P) y.1/\y.2.1=RO y.1:=by
 rw[eaA,List.mem_flatMap];constructor
 ·rintro⟨nm,h1,h2⟩;obtain⟨h3,h4,rfl⟩:=(eaO_mem hd RO nm y).1 h2;rw[eaN,mem_addGs]at h1;rcases h1 with h1 | h1
  ·simp at h1
  ·exact⟨h1,h3,h4⟩
 ·rintro⟨h1,h2,h3⟩;exact⟨y.2.2,by rw[eaN,mem_addGs];exact .inr h1,(eaO_mem hd RO _ y).2 ⟨h2,h3,rfl⟩⟩
theorem eaA_nd {P:bH} (hd:DmP P) (RO:Int->ByteArray):(eaA P RO).Nodup:=by
 rw[eaA,List.Nodup,List.pairwise_flatMap];refine⟨fun nm _=> ?_,?_⟩
 ·rw[eaO,List.pairwise_map];refine(eaF_nd P nm).imp_of_mem ?_;intro a b ha hb dr he;obtain⟨ha2,_⟩:=(eaF_mem hd nm a).1 ha;obtain⟨Dx,_⟩:=(eaF_mem hd nm b).1 hb;simp only[Prod.mk.injEq]at he;exact dr (Prod.ext he.1 (ha2.trans Dx.symm))
 ·have hn:(eaN P).Nodup:=addGs_nd _ (by simp);refine hn.imp ?_;intro a b wQ x hx y hy e;subst e;exact wQ (((eaO_mem hd RO a x).1 hx).2.2.symm.trans ((eaO_mem hd RO b x).1 hy).2.2)
theorem early_law {P:bH} (hd:DmP P) (RO:Int->ByteArray) {m m':List EaR} (h1:m.Perm (eaA P RO)) (h2:m.Pairwise (fun x y=>ltE y x=false))
 (h3:m'.Perm ((wkN P (ucC P.procs) (mainR P) (iB (exL (cw P))) []).map fun x=>(x.1,RO x.1,x.2))) (h4:m'.Pairwise (fun x y=>ltE y x=false)):m=m':=by
 have vl:m.Nodup:=h1.nodup_iff.2 (eaA_nd hd RO);have nH:m'.Nodup:=h3.nodup_iff.2 (by
  rw[List.Nodup,List.pairwise_map];refine(wkN_nd P (ucC P.procs) (mainR P) (iB (exL (cw P))) [] (by simp)).imp ?_;intro a b wQ e;simp only[Prod.mk.injEq]at e;exact wQ (Prod.ext e.1 e.2.2))
 have hmm:∀y,y∈m↔y∈m':=fun y=>by
  rw[h1.mem_iff,h3.mem_iff,eaA_mem hd,List.mem_map];constructor
  ·rintro⟨q1,q2,q3⟩;refine⟨(y.1,y.2.2),(wkN_fo hd _ _ _ _ _).2 (.inr ⟨by rw[nsort_mem,exL_mem];exact q1,q2⟩),?_⟩;exact Prod.ext rfl (Prod.ext q3.symm rfl)
  ·rintro⟨x,hx,rfl⟩;rcases(wkN_fo hd _ _ x _ _).1 hx with h | ⟨q1,q2⟩
   ·simp at h
   ·rw[nsort_mem,exL_mem]at q1;exact⟨q1,q2,rfl⟩
 refine ltE_uniq (fun x hx y hy e=> ?_) vl ((List.perm_ext_iff_of_nodup vl nH).2 hmm) h2 h4;have hx':=(eaA_mem hd RO x).1 (h1.mem_iff.1 hx);have hy':=(eaA_mem hd RO y).1 (h1.mem_iff.1 hy);exact Prod.ext e.1 (Prod.ext (by rw[hx'.2.2,hy'.2.2,e.1]) e.2)
end Go.Proofs.YtdgoeblpcnjlbaaGreatDoor.Av
namespace Go.Proofs.YtdgoeblpcnjlbaaGreatDoor.Av
open Go.RowKit Go.Sort List
noncomputable def eaZ (P:bH):List EaR:=(eaA P (roN P)).mergeSort (fun x y=> !ltE y x)
theorem eaZ_perm (P:bH):(eaZ P).Perm (eaA P (roN P)):=List.mergeSort_perm _ _
theorem eaZ_pw (P:bH):(eaZ P).Pairwise (fun x y=>ltE y x=false):=by
 have:=List.pairwise_mergeSort (le:=fun x y:EaR=> !ltE y x) (fun a b c h1 h2=>by
  simp only[Bool.not_eq_true']at*;exact ltE_swo.ntrans c b a h2 h1) (fun a b=>by
  cases h:ltE b a with
  | false=>rfl
  | true=>
   have:ltE a b=false:=by
    cases h2:ltE a b with
    | false=>rfl
    | true=>have:=ltE_trans _ _ _ h h2;rw[ltE_irrefl]at this;cases this
   rw[this];rfl) (eaA P (roN P))
 exact this.imp (fun{a b} h=>by simpa using h)
theorem t221z (P:bH) (hc:total P<=1000000) (hw:iE P<=1000000) (ew:P.procs.length<=1000000):
 af Tryz.prog 28 [aP P] (·=if rE P=0 then .dJ [.fs ((eaZ P).map encEa),.int .i64 0]else .dJ [.fs [],.int .i64 (rE P)]):=by
 refine(t221 P hc hw ew (RO:=roN P) pw_of dmP_of mainR_ne).mono ?_;rintro r ⟨m,hm,rfl⟩;by_cases h0:rE P=0
 ·rw[if_pos h0,if_pos h0];obtain⟨h1,h2⟩:=hm h0;have cR:lK P=0:=by rw[<-yR];exact h0
  have hd:=dmP_of cR;have:m=eaZ P:=by
   have hn:m.Nodup:=h1.nodup_iff.2 (eaA_nd hd (roN P));refine ltE_uniq (fun x hx y hy e=> ?_) hn (h1.trans (eaZ_perm P).symm) h2 (eaZ_pw P);have hx':=(eaA_mem hd (roN P) x).1 (h1.mem_iff.1 hx);have hy':=(eaA_mem hd (roN P) y).1 (h1.mem_iff.1 hy);exact Prod.ext e.1 (Prod.ext (by rw[hx'.2.2,hy'.2.2,e.1]) e.2)
  rw[this]
 ·rw[if_neg h0,if_neg h0]
theorem t224z (P:bH) (hc:total P<=1000000) (hw:iE P<=1000000) (hmrl:(rR (cw P)).length<=1000000000) (cR:lK P=0) (ew:P.procs.length<=1000000):
 af Tryz.prog 31 [aP P] (·=.fs ((eaZ P).map encEa)):=by
 have hd:=dmP_of cR;refine(t224 c274uholds P hc hw hmrl cR ew (pw_of cR) hd (mainR_ne cR)).mono ?_;rintro r ⟨m,h1,h2,rfl⟩;rw[early_law hd (roN P) (eaZ_perm P) (eaZ_pw P) h1 h2]
theorem t228r (xs:List (List ByteArray)):af Tryz.prog 35 [.fs (xs.map encR),.fs (xs.map encR),.a6 16 [] []] (·=.bool true):=by
 refine af.intro c228 200 (by simp) 20 ?_;simp -implicitDefEqProofs only[s228,decide_true,go_sem];intro hlen _ _;refine aL (fun m e H=>∃pre post,xs=pre++post/\m=post.length/\e 0=.fs (xs.map encR)/\e 1=.fs (xs.map encR)/\e 2=.a6 16 [] []/\e 15=.fs (xs.map encR)/\e 16=.int .i64 xs.length/\e 17=.int .i64 pre.length) xs.length ⟨[],xs,by simp[az,aC]⟩ ?_;rintro m e H ⟨pre,post,ao,rfl,h0,h1,h2,gy,cZ,ea⟩;cases post with
 | nil=>
  simp -implicitDefEqProofs only[h0,h1,h2,gy,cZ,ea,aI ao,decide_false,go_sem];simp -implicitDefEqProofs only[r228,push_cast,go_sem_proc]
 | cons y post=>
  have hg:=aO encR ao;rw[encR]at hg;have hy:=NA y;simp -implicitDefEqProofs only[h0,h1,h2,gy,cZ,ea,hg,an ao,aa ao hlen,decide_true,go_sem];repeat' (first | ((first | ((with_reducible refine bj hy ?_ ?_);(·simp[ae,al,cm,aE])) | ((with_reducible apply cj);(·simp -implicitDefEqProofs only[List.map_cons,List.map_nil,aE,push_cast,go_sem_proc]<;>rfl);(with_reducible exact hy);(·rfl)) | (with_reducible refine aD ?_));simp -implicitDefEqProofs only[h0,h1,h2,gy,cZ,ea,hg,an ao,aa ao hlen,go_sem]) | (with_reducible refine aA.mk ?_ ?_) | (with_reducible refine And.intro ?_ ?_) | ((with_reducible refine bz ?_);simp -implicitDefEqProofs only[r228,push_cast,go_sem_proc]) | intro _)
  exact⟨_,Nat.lt_succ_self _,pre++ [y],post,by simp[ao],rfl,by simp⟩
theorem rolesS_lenR (k:Int) (r t:ByteArray) (ps:List ByteArray):(dS k r t ps).length<=2+ps.length:=by
 rw[dS];repeat' split
 all_goals simp
 all_goals omega
mutual
theorem mr1ulenR:∀(s:St) (pr:Int) (la:Bool),(rR (nu s pr la)).length<=3*wS s
 | .mk k r t v l e a b p ps,pr,la=>by
  have ha:=mrl_lenR a pr la;have hb:=mrl_lenR b pr la;have hr:=rolesS_lenR k r t ps;rw[nu,show(St.mk k r t v l e a b p ps,pr,la)::(gC a pr la++gC b pr la)=[(St.mk k r t v l e a b p ps,pr,la)]++(gC a pr la++gC b pr la) from rfl,gb,gb];have h1:(rR [(St.mk k r t v l e a b p ps,pr,la)]).length<=2+ps.length:=by
   simp only[rR,List.flatMap_cons,List.flatMap_nil,List.append_nil];split
   ·exact hr
   ·simp
  simp only[List.length_append,wS];omega
theorem mrl_lenR:∀(l:List St) (pr:Int) (la:Bool),(rR (gC l pr la)).length<=3*dn l
 | [],_,_=>by simp[gC,rR]
 | x::l,pr,la=>by
  have h1:=mr1ulenR x pr (la && l.isEmpty);have h2:=mrl_lenR l pr la;rw[gC,gb,dn,List.length_append];omega
end
theorem mrp_lenR:∀(l:List Pr) (i:Nat),(rR (spP l i)).length<=3*lM l
 | [],_=>by simp[spP,rR]
 | q::l,i=>by
  have h1:=mrl_lenR q.steps i true;have h2:=mrp_lenR l (i+1);rw[spP,gb,lM,List.length_append];omega
theorem t202 (L:List Int):af Tryz.prog 5 [.fs (L.map (.int .i64))] (·=.bool true):=by
 obtain⟨P,a',k1,k2,k3,k4,k5⟩:=t4 L 0 (by omega);have h4:=k5 0 1 _ (MS.base L);have ht:total P<=1000000:=by have:=kx P;omega
 have ew:P.procs.length<=1000000:=by omega
 have hw:iE P<=1000000:=by omega
 have V3:(rR (cw P)).length<=1000000000:=by
  have h1:=mrl_lenR P.main (-1) true;have h2:=mrp_lenR P.procs 0;rw[cw,gb,List.length_append];simp only[iE]at hw;omega
 have h221:=t221z P ht hw ew;have h222:=t222 P ht ew;have h223:=t223 P ht ew;have h8:=t8 P ht;have EB:=yR P;rw[<-EB]at h8;by_cases he:rE P=0
 ·have cR:lK P=0:=by rw[<-EB];exact he
  have h224:=t224z P ht hw V3 cR ew;have h225:=t225 P ht ew cR;have h226:=t226 P ht ew cR;rw[if_pos he]at h221 h222 h223;rw[he]at h8;have ha:=t227r (eaZ P);have hb:=t228r (rnN P.procs);have hc:=t211r (dpF P.procs (cw P) 0);generalize eaZ P=X1 at*;generalize rnN P.procs=X2 at*;generalize dpF P.procs (cw P) 0=X3 at*;simp only[aP]at h4 h221 h222 h223 h224 h225 h226 h8;simp only[SB]at h4;refine af.intro c202 900 (by simp) 20 ?_;simp -implicitDefEqProofs only[s202,go_sem];repeat' (first | ((first | (with_reducible refine bR h4 ?_) | ((with_reducible first | refine bj h221 ?_ ?_ | refine bj h222 ?_ ?_ | refine bj h223 ?_ ?_ | refine bj h224 ?_ ?_ | refine bj h225 ?_ ?_ | refine bj h226 ?_ ?_ | refine bj ha ?_ ?_ | refine bj hb ?_ ?_ | refine bj hc ?_ ?_ | refine bj h8 ?_ ?_ | refine bj t13 ?_ ?_);(·simp[ae,al,cm,aq,ah,norefL_encEa,norefL_encR,aS])) | ((with_reducible apply cj);(·simp -implicitDefEqProofs only[List.map_cons,List.map_nil,aq,ah,norefL_encEa,norefL_encR,aS,push_cast,go_sem_proc]<;>rfl);(with_reducible first | exact h221 | exact h222 | exact h223 | exact h224 | exact h225 | exact h226 | exact ha | exact hb | exact hc | exact h8 | exact t13);(·rfl)) | (with_reducible refine aD ?_));simp -implicitDefEqProofs only[Int.reduceEq,decide_true,go_sem]) | (with_reducible refine aA.mk ?_ ?_) | (with_reducible refine And.intro ?_ ?_) | ((with_reducible refine bz ?_);simp -implicitDefEqProofs only[r202,push_cast,go_sem_proc]) | intro _)
 ·rw[if_neg he]at h221 h222 h223;have ha:=t227r [];have hb:=t228r [];have hc:=t211r [];simp only[aP,List.map_nil]at h4 h221 h222 h223 h8 ha hb hc;simp only[SB]at h4;generalize rE P=c at*;refine af.intro c202 900 (by simp) 20 ?_;simp -implicitDefEqProofs only[s202,go_sem];repeat' (first | ((first | (with_reducible refine bR h4 ?_) | ((with_reducible first | refine bj h221 ?_ ?_ | refine bj h222 ?_ ?_ | refine bj h223 ?_ ?_ | refine bj ha ?_ ?_ | refine bj hb ?_ ?_ | refine bj hc ?_ ?_ | refine bj h8 ?_ ?_ | refine bj t13 ?_ ?_);(·simp[ae,al,cm,aq,ah,norefL_encEa,aS])) | ((with_reducible apply cj);(·simp -implicitDefEqProofs only[List.map_cons,List.map_nil,aq,ah,norefL_encEa,aS,push_cast,go_sem_proc]<;>rfl);(with_reducible first | exact h221 | exact h222 | exact h223 | exact ha | exact hb | exact hc | exact h8 | exact t13);(·rfl)) | (with_reducible refine aD ?_));simp -implicitDefEqProofs only[Int.reduceEq,decide_true,he,go_sem]) | (with_reducible refine aA.mk ?_ ?_) | (with_reducible refine And.intro ?_ ?_) | ((with_reducible refine bz ?_);simp -implicitDefEqProofs only[r202,push_cast,go_sem_proc]) | intro _)
end Go.Proofs.YtdgoeblpcnjlbaaGreatDoor.Av
namespace Go.Proofs.YtdgoeblpcnjlbaaGreatDoor.Av
open Go.ChangeShapes Go.WideShapes Go.ChangeAt Go.RowKit List
theorem own:ownKnob Tryz.prog.godebug=none:=by kernel_rfl
theorem laidOut:laidOutB Tryz.prog=true:=by kernel_rfl
theorem Qj:Tryz.prog.cellsOf 3=1:=by kernel_rfl
theorem uM {W:World} {a:Option Addr} {len cap:Nat} {zs:List Int} (hz:zs.length=len) (hl:len<=cap) (hm:cap<=maxLen) (h:zs=[]\/∃b o,a=some ⟨b,o,none⟩/\∀i,i<zs.length->W.cell? ⟨b,o+i,none⟩=some (.int .i64 (zs.getD i 0))):
 aU [] (fun b=>W.heap[b]?) (.fs (zs.map (.int .i64))) (.slice a len cap):=by
 simp only[aU];refine⟨a,cap,by simp[hz],by simpa[hz]using hl,hm,?_⟩;rcases h with rfl | ⟨b,o,rfl,h⟩
 ·exact .inl rfl
 ·refine .inr ⟨b,o,1,rfl,?_⟩;rw[ch];intro i e he;have hi:i<zs.length:=by have:=(List.getElem?_eq_some_iff.1 he).1;simpa using this
  have kd:e=.int .i64 (zs.getD i 0):=by
   simp[hi,List.getD]at he⊢;exact he.symm
  subst kd;refine⟨by simp[aw],fun j c hj=> ?_⟩;obtain rfl:j=0:=by
   have:=(List.getElem?_eq_some_iff.1 hj).1;simp[aw]at this;exact this
  simp[aw]at hj;subst hj;refine⟨.int .i64 (zs.getD i 0),?_,by simp[aU]⟩;have hc:=h i hi;simp only[World.cell?]at hc;simp only[jD,Nat.mul_one,Nat.add_zero];generalize W.heap[b]? =ob at*;cases ob with
  | none=>simp at hc
  | some ob=>cases ob<;>simp_all
end Go.Proofs.YtdgoeblpcnjlbaaGreatDoor.Av
namespace Go.Proofs.YtdgoeblpcnjlbaaGreatDoor.Av
open Go.ChangeShapes Go.WideShapes Go.ChangeAt Go.RowKit List
theorem H6 (H:Type) (enc:TypeId×Value->H) (W:World) (base:Nat) (args:Array Value) (ds gs:List (DataW H)) (before:List MemPlace)
 (A9:∀(j:Nat) t v,Tryz.f5.params[j]? =some t->args[j]? =some v->Value.okWide Tryz.prog W .any base t v)
 (hW:DataW.Whole enc Tryz.prog Tryz.f5.params.toList Rows.readsFoundSpec.vars false W args.toList ds gs before):
 Calls Tryz.prog 5 args W fun e W'=>∃v,e=.returned v/\Rows.readsFoundSpec.post enc Tryz.prog Tryz.f5 false true false false W args v W':=by
 have hW':=hW;obtain⟨p,q,hA0,hV,rfl,lX,AQ⟩:=hW;have hA:DataW.TrodAll enc Tryz.prog W 0 (fun _=>true) true Tryz.f5.params.toList args.toList ds p:=hA0;rw[Tryz.params5]at hA A9;obtain⟨v0,d0,rfl,rfl,h0⟩:=trodAll_one hA;obtain⟨rfl,rfl⟩:=trodVars_none hV;obtain⟨a0,len,cap,rfl⟩:=okWide_slice Tryz.underlying22 (A9 0 22 v0 rfl rfl);have h0k:=h0;obtain⟨fuel0,hf⟩:=h0;clear hA0 hA;simp only[List.append_nil]at hW';have ct:∀x∈p,x.block<W.heap.size:=fun x hx=>by simpa using hW'.lt x hx
 have eD:∀(W':World),Below W.heap.size W W'->DataW.Trod enc Tryz.prog W' 0 (fun b=>decide (b<W.heap.size)) true 22 (.slice a0 len cap) d0 p:=
  fun W' hn=>Below.trod laidOut (by kernel_rfl) (of_decide_eq_true (by kernel_rfl)) h0k hn ct
 have eN:∃L:List Int,aU [] (fun b=>W.heap[b]?) (.fs (L.map (.int .i64))) (.slice a0 len cap):=by
  rcases open_ints Tryz.underlying22 Tryz.underlying3 Qj hf with⟨lI,hx⟩ | ⟨a,len',cap',zs,lI,_,hl,hm,hz,hx,cr,hwz⟩
  ·simp[Value.cells]at lI;obtain⟨rfl,rfl,rfl⟩:=lI;exact⟨[],uM (zs:=[]) rfl (Nat.le_refl _) (by decide) (.inl rfl)⟩
  ·simp[Value.cells]at lI;obtain⟨rfl,rfl,rfl⟩:=lI;simp only[if_true]at hz;obtain⟨b,off,spot⟩:=a;by_cases j5:len=0
   ·subst j5;exact⟨[],uM (zs:=[]) rfl (Nat.zero_le _) hm (.inl rfl)⟩
   ·have Wy:spot=none:=by simpa[Addr.add]using World.cell?_spot (cr 0 (by omega))
    subst Wy;refine⟨zs.take len,uM (by rw[List.length_take];omega) hl hm (.inr ⟨b,off,rfl,fun i hi=> ?_⟩)⟩;rw[List.length_take]at hi;have:=cr i (by omega);rw[add_plain]at this;rw[this];simp[List.getD,List.getElem?_take,show i<len by omega]
 obtain⟨L,eN⟩:=eN;obtain⟨_,cH⟩:=t202 L;refine(cH (fun b=>W.heap[b]?) W #[.slice a0 len cap] (fun b o h=>h) (by simp only[aV];exact⟨_,[],rfl,eN,rfl⟩)).mono ?_;rintro e W' ⟨r,v,I',rfl,rfl,_,_,_,hr,hB⟩;simp only[aU]at hr;subst hr;refine⟨_,rfl,_,_,_,[],p,[],hW',?_,?_,?_,hB.frame _,fun h=>by cases h⟩
 ·exact trodAll_mk1 (shut_bool Tryz.underlying4 _)
 ·exact trodAll_mk1 (eD W' hB)
 ·rfl
end Go.Proofs.YtdgoeblpcnjlbaaGreatDoor.Av
namespace Go.Proofs.YtdgoeblpcnjlbaaGreatDoor.Av
open Go.ChangeShapes Go.WideShapes Go.ChangeAt Go.RowKit List
theorem lifted (os:Os) (started:os.Started) (H:Type) (enc:TypeId×Value->H):
 ReturnsInHanded {} Tryz.checked os 5 .any (fun w args=>(Rows.readsFoundSpec.pre enc Tryz.prog Tryz.f5 Rows.readsFoundRow.domain false w args/\laidMetH Tryz.prog Rows.readsFoundRow.laid w)/\sizedMet enc Tryz.prog Tryz.f5 (OpenSpec.ofChange Rows.readsFoundSpec) false w args)
  (Rows.readsFoundSpec.post enc Tryz.prog Tryz.f5 false true false false):=by
 refine returnsInHanded_of_change_and (C:=Tryz.checked) (X:=fun w _=>laidMetH Tryz.prog Rows.readsFoundRow.laid w) (fun _ _ _ hh h=>h.of_heap hh) own started (by kernel_rfl) Tryz.func5
  (ChangeSpec.witness_shaped (enc:=enc) (C:=Tryz.checked) (os:=os) (X:=fun w _=>laidMetH Tryz.prog Rows.readsFoundRow.laid w) false (World.laidAll Tryz.prog os Rows.readsFoundRow.laid) #[.slice none 0 0] 8 (World.laidAll_os _ _ _)
    (World.shaped_of_ZipB (by kernel_rfl) (by kernel_rfl)) (by kernel_rfl) (by kernel_rfl) (by kernel_rfl)
    (by rw[MakeChecks.laidMetH_plain _ _ _ (by kernel_rfl)];exact laidMet_laidAll _ (by kernel_rfl) (by kernel_rfl))) ?_
 intro W base args ds gs before A9 hW _ _ _ _;exact H6 H enc W base args ds gs before A9 hW
theorem said:Rows.ReadsFoundSaid:=
 OpenClaim.holds_of_wide 5 Tryz.f5 rfl rfl rfl rfl rfl rfl rfl ⟨rfl,rfl,rfl,rfl,rfl⟩ rfl rfl rfl rfl rfl (by kernel_rfl) Tryz.func5 (by kernel_rfl)
  (of_decide_eq_true (by kernel_rfl)) (by unfold Func.isWrapper;first | (rw[if_pos (by decide+kernel)];kernel_rfl) | (rw[if_neg (by decide+kernel)];exact⟨rfl,rfl⟩))
  (fun os started H enc _=>lifted os started H enc)
theorem Qk (f:FuncId) (fn:Func) (hf:Tryz.pinned.checked.prog.funcNamed "promptbook/pblaw2.ReadsFound" =some f) (RD:Tryz.pinned.checked.prog.funcs[f]? =some fn):
 false=Tryz.pinned.checked.prog.looks []/\∀(j:Nat) t,fn.params[j]? =some t->Tryz.pinned.checked.prog.wantsStandIn t=false:=by
 obtain rfl:f=5:=Option.some.inj ((show Tryz.prog.funcNamed "promptbook/pblaw2.ReadsFound" =some 5 by kernel_rfl).symm.trans hf) |>.symm;obtain rfl:fn=Tryz.f5:=(Option.some.inj (Tryz.func5.symm.trans RD)).symm;refine⟨by kernel_rfl,fun j t ht=> ?_⟩;rw[Tryz.params5]at ht;obtain rfl:t=22:=by simpa using Array.mem_of_getElem? ht
 exact(show Tryz.prog.wantsStandIn 22=false by kernel_rfl)
end Go.Proofs.YtdgoeblpcnjlbaaGreatDoor.Av
namespace Go.Proofs.YtdgoeblpcnjlbaaGreatDoor
theorem card_holds:Rows.ReadsFoundCardSaid:=
 Claim7.holds_tied_plain_at .later [] _ _ _ _ Av.said (fun _ h=>by cases h) (by kernel_rfl) (fun _ h=>by cases h) readsFound_row_tie rfl ⟨rfl,rfl⟩ (by kernel_rfl) rfl Av.Qk (by kernel_rfl)
#print axioms card_holds
end Go.Proofs.YtdgoeblpcnjlbaaGreatDoor

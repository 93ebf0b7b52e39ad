/- Proved: for every list of numbers the law PlaysChanged answers true and leaves its argument as it was (the tied card); no condition beyond the row's own. Text 15 of 17. -/
import Derived.Lib.SlicesCompact
import Derived.Sort.EncStr
import Derived.Shelf.SlicesG.CompactS
import Derived.Shelf.SortM.Plain
import Derived.Shelf.SortM.SortNone
import Derived.Ground.SlgmProg
import Derived.Ground.SlgnProg
import Derived.Test.YtdgoeblpcnjlbaaGreatDoorProg
import Derived.Test.YtdgoeblpcnjlbaaGreatDoorK14
set_option linter.all false
set_option maxRecDepth 100000
set_option maxHeartbeats 64000000
namespace Go.Proofs.YtdgoeblpcnjlbaaGreatDoor.Av
open Go.RowKit List
def vr (f:ByteArray->ByteArray) (r:ByteArray):ByteArray:=if r=⟨#[]⟩then r else f r
mutual
def oX (f:ByteArray->ByteArray):St->St
 | .mk k r t v l e a b p ps=> .mk k (vr f r) (vr f t) v l e (ep f a) (ep f b) p (ps.map f)
def ep (f:ByteArray->ByteArray):List St->List St
 | []=> []
 | x::l=>oX f x::ep f l
end
theorem gW (f:ByteArray->ByteArray):∀(a b:List St),ep f (a++b)=ep f a++ep f b
 | [],b=>by simp[ep]
 | x::a,b=>by rw[cons_append,ep,ep,gW f a b,cons_append]
theorem qb (f:ByteArray->ByteArray):∀(a:List St),(ep f a).length=a.length
 | []=>by simp[ep]
 | x::a=>by simp[ep,qb f a]
mutual
def CE (Rs:ByteArray->Prop):St->Prop
 | .mk k r t v l e a b p ps=>(r=⟨#[]⟩\/Rs r)/\(t=⟨#[]⟩\/Rs t)/\(∀s∈ps,Rs s)/\oH Rs a/\oH Rs b
def oH (Rs:ByteArray->Prop):List St->Prop
 | []=>True
 | x::l=>CE Rs x/\oH Rs l
end
mutual
theorem uv:∀x,CE (fun _=>True) x
 | .mk k r t v l e a b p ps=>by rw[CE];exact⟨.inr trivial,.inr trivial,fun _ _=>trivial,uw a,uw b⟩
theorem uw:∀l,oH (fun _=>True) l
 | []=>by simp[oH]
 | x::l=>by rw[oH];exact⟨uv x,uw l⟩
end
theorem sK {Rs:ByteArray->Prop}:∀{l:List St},oH Rs l->∀x∈l,CE Rs x
 | [],_,x,hx=>by cases hx
 | y::l,h,x,hx=>by
  rw[oH]at h;rcases List.mem_cons.1 hx with rfl | hx
  ·exact h.1
  ·exact sK h.2 x hx
theorem av.back {P:Program} {g:FuncId} {vs:List V} {H:List ak} {r:V} (hr:al r=true) (h:av P g vs H (fun r' H'=>r'=r/\∃X,H'=H++X)):av P g vs H (bX r H):=
 av.trim (h.mono (by rintro r' H' ⟨rfl,X,rfl⟩;exact⟨H,X,rfl,rfl,fun i b hb=> .inl hb,hr,rfl,rfl⟩))
theorem me.const (HB:List ak):me HB.length (fun _:Unit=>HB):=⟨fun _=>rfl,fun _ _ i b h=> .inl h⟩
theorem Hi {HB:List ak} {b0 b1:ak} {J:List ak} {esz bytes:Nat} {src:List V} {yv kv:V} {K:V->List ak->Prop} {acc:List V} (bm:OV (HB++b0::b1::J) kv acc) (dW:∀j,j<HB.length+2->a7 kv j) (hy:∀i o l,yv≠ .ms i o l) (hh:df esz acc) (hb:(acc.length+src.length)*bytes<=140737488355328)
 (hk:∀bN J',OV (HB++b0::b1::J') bN (acc++src)->(∀j,j<HB.length+2->a7 bN j)->K bN (HB++b0::b1::J')):nh esz bytes src yv kv (HB++b0::b1::J) K:=
 pP (me.const HB) (a:=()) (L0:=[b0,b1]) bm dW hy hh hb hk
theorem OV.PD {α:Type} {g:α->V} (hg:∀H x,Av.fz H 19 (g x)=some (g x)) {HB:List ak} {b0 b1:ak} {J:List ak} {kv:V} {l:List α} (h:OV (HB++b0::b1::J) kv (l.map g)) (hk:∀j,j<HB.length+2->a7 kv j):
 ∃D J1,Av.fz (cQ D (HB++b0::b1::J)) 20 kv=some (.fs (l.map g))/\bO D (HB++b0::b1::J)=HB++b0::b1::J1:=by
 rcases h with⟨h1,rfl⟩ | ⟨_,id,rfl,h2⟩
 ·exact⟨[],J,by rw[fQ,h1],rfl⟩
 ·obtain⟨J1,Q0⟩:=gP (H:=bO [id] (HB++b0::b1::J)) (A:=HB++ [b0,b1]) (by rw[gq];simp) (fun j hj=>by
   have hj:j<HB.length+2:=by simpa using hj
   rw[de,if_neg]
   ·rw[show HB++b0::b1::J=(HB++ [b0,b1])++J by simp,getElem?_append_left (by simpa using hj)]
   ·rintro⟨hc,_⟩;have:j=id:=by simpa using hc
    exact hk j hj 0 (l.map g).length (by rw[this]))
  refine⟨[id],J1,?_,by rw[Q0];simp⟩;have uk:(cQ [id] (HB++b0::b1::J))[id]? =some (.row (l.map g)):=by rw[cg,h2];simp
  rw[iu,uk,ef,if_pos (by simp),drop_zero,take_of_length_le (by simp),dg _ _ (fun x=>hg _ x)];rfl
theorem VM (f:ByteArray->ByteArray) (g:FuncId) (cs:List V) (HB:List ak) (Q:ByteArray->Prop) (oG:∀r,Q r->∀J,av Tryz.prog g (.str r::cs) (HB++J) (bX (.str (f r)) (HB++J))) (k:Int) (r t v l:ByteArray) (ek en:Int) (es:ByteArray) (aR:List Ex) (a b:List St) (p:ByteArray) (ps:List ByteArray)
 (hqr:r=⟨#[]⟩\/Q r) (T5:t=⟨#[]⟩\/Q t) (QP:∀s∈ps,Q s) (jA:ps.length<=10000000000) (qK:a.length<=10000000000) (l6:b.length<=10000000000)
 (ha:∀x∈a,∀J,av Tryz.prog 83 [encS x,.a6 g [] cs] (HB++J) (bX (encS (oX f x)) (HB++J))) (hb:∀x∈b,∀J,av Tryz.prog 83 [encS x,.a6 g [] cs] (HB++J) (bX (encS (oX f x)) (HB++J))):
 av Tryz.prog 83 [encS (.mk k r t v l (.mk ek en es aR) a b p ps),.a6 g [] cs] HB (bX (encS (oX f (.mk k r t v l (.mk ek en es aR) a b p ps))) HB):=by
 have Gc:(!decide (r=⟨#[]⟩))=true->∀J,av Tryz.prog g (.str r::cs) (HB++J) (bX (.str (f r)) (HB++J)):=fun h=>oG r (by
  rcases hqr with h' | h'
  ·subst h';simp at h
  ·exact h')
 have htt:(!decide (t=⟨#[]⟩))=true->∀J,av Tryz.prog g (.str t::cs) (HB++J) (bX (.str (f t)) (HB++J)):=fun h=>oG t (by
  rcases T5 with h' | h'
  ·subst h';simp at h
  ·exact h')
 refine av.back (fX _) ?_;rw[ay];refine av.intro c254 900 (by simp) ?_;simp -implicitDefEqProofs only[U5,go_sem];repeat' (first | ((first | (with_reducible first | refine bR ((Gc (by assumption) _)) ?_ | refine bR ((htt (by assumption) _)) ?_) | (with_reducible refine aD ?_));simp -implicitDefEqProofs only[go_sem]) | (with_reducible refine aA.mk ?_ ?_) | (with_reducible refine And.intro ?_ ?_) | ((with_reducible refine bz ?_);simp -implicitDefEqProofs only[D7,push_cast,go_sem_proc]) | intro _)
 all_goals
  rename_i h1 h2 hlen;generalize VN:ak.row [.agg [.int .i64 0,.str ⟨#[]⟩,.str ⟨#[]⟩,.str ⟨#[]⟩,.str ⟨#[]⟩,.int .i64 0,.int .i64 0,.str ⟨#[]⟩,.ag,.ag,.ag,.str ⟨#[]⟩,.ag]]=B1;refine aL (fun m e H=>∃pre post kv J,ps=pre++post/\m=post.length/\e 1=.a6 g [] cs/\e 2=.ptr HB.length 0 0/\e 4=.ptr (HB.length+1) 0 0/\e 5=kv/\e 31=.fs (ps.map .str)/\e 32=.int .i64 ps.length/\e 33=.int .i64 pre.length/\
   H=HB++ak.row [.agg [.int .i64 k,.str (vr f r),.str (vr f t),.str v,.str l,.int .i64 ek,.int .i64 en,.str es,.fs (aR.map bu),.fs (a.map encS),.fs (b.map encS),.str p,.fs (ps.map .str)]]::B1::J/\OV H kv ((pre.map f).map .str)/\∀j,j<HB.length+2->a7 kv j) ps.length
   ⟨[],ps,.ag,[],rfl,rfl,by simp[az,aC],by simp[az,aC],by simp[az,aC],by simp[az,aC],by simp[az,aC],by simp[az,aC],by simp[az,aC],by simp at h1 h2;simp[vr,h1,h2,VN],.inl ⟨by simp,rfl⟩,(fun j _ a b h=>by cases h)⟩ ?_
  clear h1 h2;rintro m e H ⟨pre,post,kv,J,ao,rfl,h1,h2,h4,h5,EM,yP,Q1,rfl,bm,dW⟩;have cP:=bm.one;have ba:=bm.cS;simp only[V.one]at ba;cases post with
  | cons q post=>
   have hg:=aO V.str ao;have htq:=oG q (QP q (by rw[ao];simp));have cR:pre.length<=ps.length:=by rw[ao];simp
   simp -implicitDefEqProofs only[h1,h2,h4,h5,EM,yP,Q1,an ao,aa ao hlen,ba,cP,hg,go_sem];repeat' (first | ((first | (with_reducible refine bR ((htq _)) ?_) | (with_reducible refine aD ?_));simp -implicitDefEqProofs only[h1,h2,h4,h5,EM,yP,Q1,an ao,aa ao hlen,ba,cP,hg,go_sem]) | (with_reducible refine aA.mk ?_ ?_) | (with_reducible refine And.intro ?_ ?_) | ((with_reducible refine bz ?_);simp -implicitDefEqProofs only[D7,push_cast,go_sem_proc]) | intro _)
   refine Hi bm dW (fun i o l h=>by cases h) (cA _ _ (fun x=>by simp[aw]) _) (by simp only[length_map,length_cons,length_nil];omega) ?_;rintro bN J' bo hn;simp -implicitDefEqProofs only[h1,h2,h4,h5,EM,yP,Q1,aa ao hlen,go_sem];exact⟨post.length,Nat.lt_succ_self _,pre++ [q],post,bN,J',by simp[ao],rfl,rfl,by simp,rfl,by simpa using bo,hn⟩
  | nil=>
   have ev:pre=ps:=by rw[ao];simp
   rw[ev]at bm;simp -implicitDefEqProofs only[h1,h2,h4,h5,EM,yP,Q1,aI ao,ba,cP,go_sem];obtain⟨D,J1,IA,Eg⟩:=bm.PD (g:=V.str) (fun H x=>dN _ _ x) dW;refine⟨D,_,IA,?_⟩;rw[Eg];simp -implicitDefEqProofs only[h1,h2,h4,h5,EM,yP,Q1,go_sem];intro cX;clear IA Eg bm dW h5 EM yP Q1 cP ba ao;generalize PE:ak.row [.agg [.int .i64 k,.str (vr f r),.str (vr f t),.str v,.str l,.int .i64 ek,.int .i64 en,.str es,.fs (aR.map bu),.fs (a.map encS),.fs (b.map encS),.str p,.fs ((ps.map f).map .str)]]=B0;refine aL (fun m e H=>∃pre post ka J,a=pre++post/\m=post.length/\e 1=.a6 g [] cs/\e 2=.ptr HB.length 0 0/\e 4=.ptr (HB.length+1) 0 0/\e 8=ka/\e 9=.ag/\e 47=.fs (a.map encS)/\e 48=.int .i64 a.length/\e 49=.int .i64 pre.length/\
    H=HB++B0::B1::J/\OV H ka ((ep f pre).map encS)/\∀j,j<HB.length+2->a7 ka j) a.length
    ⟨[],a,.ag,J1,rfl,rfl,by simp[az,h1],by simp[az,h2],by simp[az,h4],by simp[az],by simp[az],by simp[az],by simp[az],by simp[az],by simp[PE],.inl ⟨rfl,rfl⟩,(fun j _ a b h=>by cases h)⟩ ?_
   clear h1 h2 h4 J J1 e pre ev;rintro m e H ⟨pre,post,ka,J,ao,rfl,h1,h2,h4,h8,h9,Hj,Hk,Hl,rfl,bm,dW⟩;have IB:=bm.one;have nO:=bm.cS;simp only[V.one]at nO;cases post with
   | cons q post=>
    have hg:=aO encS ao;have hq:=ha q (by rw[ao];simp);have cR:(ep f pre).length<=a.length:=by rw[qb,ao];simp
    generalize VO:oX f q=q2 at hq;rcases q with⟨k',r',t',v',l',⟨ek',en',wz,PH⟩,a',b',p',ps'⟩
    rcases q2 with⟨k2,r2,t2,v2,l2,⟨ek2,en2,es2,PI⟩,a2,b2,p2,ps2⟩
    rw[ay,ay]at hq;rw[ay]at hg;simp -implicitDefEqProofs only[h1,h2,h4,h8,h9,Hj,Hk,Hl,an ao,aa ao cX,nO,IB,hg,go_sem];repeat' (first | ((first | (with_reducible refine bR ((hq _)) ?_) | (with_reducible refine aD ?_));simp -implicitDefEqProofs only[h1,h2,h4,h8,h9,Hj,Hk,Hl,an ao,aa ao cX,nO,IB,hg,go_sem]) | (with_reducible refine aA.mk ?_ ?_) | (with_reducible refine And.intro ?_ ?_) | ((with_reducible refine bz ?_);simp -implicitDefEqProofs only[D7,push_cast,go_sem_proc]) | intro _)
    refine Hi (J:=J++ [_]) (by simpa using bm.app [_]) dW (fun i o l h=>by cases h) (cx _) (by simp only[length_map,length_cons,length_nil];omega) ?_;rintro ka' J' bo hn;simp -implicitDefEqProofs only[h1,h2,h4,h8,h9,Hj,Hk,Hl,aa ao cX,go_sem];exact⟨post.length,Nat.lt_succ_self _,pre++ [_],post,ka',J',by simp[ao];rfl,rfl,rfl,by simp,rfl,by rw[gW,ep,ep,VO,map_append,map_singleton,ay];exact bo,hn⟩
   | nil=>
    have ev:pre=a:=by rw[ao];simp
    rw[ev]at bm;simp -implicitDefEqProofs only[h1,h2,h4,h8,h9,Hj,Hk,Hl,aI ao,nO,IB,go_sem];obtain⟨D,J1,IA,Eg⟩:=bm.PD (g:=encS) (fun H x=>eg H 17 x) dW;refine⟨D,_,IA,?_⟩;rw[Eg];subst PE;simp -implicitDefEqProofs only[h1,h2,h4,h8,h9,Hj,Hk,Hl,go_sem];intro Hm;clear IA Eg bm dW h8 Hj Hk Hl IB nO ao;generalize PE:ak.row [.agg [.int .i64 k,.str (vr f r),.str (vr f t),.str v,.str l,.int .i64 ek,.int .i64 en,.str es,.fs (aR.map bu),.fs (a.map encS),.fs (b.map encS),.str p,.fs ((ps.map f).map .str)]]=B0;refine aL (fun m e H=>∃pre post ka J,b=pre++post/\m=post.length/\e 1=.a6 g [] cs/\e 2=.ptr HB.length 0 0/\e 4=.ptr (HB.length+1) 0 0/\e 8=.fs ((ep f a).map encS)/\e 9=ka/\e 61=.fs (b.map encS)/\e 62=.int .i64 b.length/\e 63=.int .i64 pre.length/\
     H=HB++B0::B1::J/\OV H ka ((ep f pre).map encS)/\∀j,j<HB.length+2->a7 ka j) b.length
     ⟨[],b,.ag,J1,rfl,rfl,by simp[az,h1],by simp[az,h2],by simp[az,h4],by simp[az],by simp[az,h9],by simp[az],by simp[az],by simp[az],by simp[PE],.inl ⟨rfl,rfl⟩,(fun j _ a b h=>by cases h)⟩ ?_
    clear h1 h2 h4 h9 J J1 e pre ev;rintro m e H ⟨pre,post,ka,J,ao,rfl,h1,h2,h4,h8,h9,Hj,Hk,Hl,rfl,bm,dW⟩;have IB:=bm.one;have nO:=bm.cS;simp only[V.one]at nO;cases post with
    | cons q post=>
     have hg:=aO encS ao;have hq:=hb q (by rw[ao];simp);have cR:(ep f pre).length<=b.length:=by rw[qb,ao];simp
     generalize VO:oX f q=q2 at hq;rcases q with⟨k',r',t',v',l',⟨ek',en',wz,PH⟩,a',b',p',ps'⟩
     rcases q2 with⟨k2,r2,t2,v2,l2,⟨ek2,en2,es2,PI⟩,a2,b2,p2,ps2⟩
     rw[ay,ay]at hq;rw[ay]at hg;simp -implicitDefEqProofs only[h1,h2,h4,h8,h9,Hj,Hk,Hl,an ao,aa ao Hm,nO,IB,hg,go_sem];repeat' (first | ((first | (with_reducible refine bR ((hq _)) ?_) | (with_reducible refine aD ?_));simp -implicitDefEqProofs only[h1,h2,h4,h8,h9,Hj,Hk,Hl,an ao,aa ao Hm,nO,IB,hg,go_sem]) | (with_reducible refine aA.mk ?_ ?_) | (with_reducible refine And.intro ?_ ?_) | ((with_reducible refine bz ?_);simp -implicitDefEqProofs only[D7,push_cast,go_sem_proc]) | intro _)
     refine Hi (J:=J++ [_]) (by simpa using bm.app [_]) dW (fun i o l h=>by cases h) (cx _) (by simp only[length_map,length_cons,length_nil];omega) ?_;rintro ka' J' bo hn;simp -implicitDefEqProofs only[h1,h2,h4,h8,h9,Hj,Hk,Hl,aa ao Hm,go_sem];exact⟨post.length,Nat.lt_succ_self _,pre++ [_],post,ka',J',by simp[ao];rfl,rfl,rfl,by simp,rfl,by rw[gW,ep,ep,VO,map_append,map_singleton,ay];exact bo,hn⟩
    | nil=>
     have ev:pre=b:=by rw[ao];simp
     rw[ev]at bm;simp -implicitDefEqProofs only[h1,h2,h4,h8,h9,Hj,Hk,Hl,aI ao,nO,IB,go_sem];obtain⟨D,J1,IA,Eg⟩:=bm.PD (g:=encS) (fun H x=>eg H 17 x) dW;refine⟨D,_,IA,?_⟩;rw[Eg];subst PE VN;simp -implicitDefEqProofs only[h1,h2,h4,h8,h9,go_sem];simp -implicitDefEqProofs only[D7,h2,h4,push_cast,go_sem_proc];rw[oX,ay];trace_state
     exact⟨rfl,_,rfl⟩
theorem af.ofA {P:Program} {g:FuncId} {vs:List V} {r:V} (hr:al r=true) (h:av P g vs [] (bX r [])):af P g vs (·=r):=by
 refine⟨h.1,fun I w args l4 eN=> ?_⟩;let f:Fr:=⟨w,fun _=>False,I⟩
 have hs:cD f [] I w []:=by
  constructor
  ·rfl
  ·exact l4
  ·exact dY.refl _
  ·intro b h1 h2;exact absurd h1 h2
  ·rfl
  ·rfl
  ·rfl
  ·exact Nat.le_refl _
  ·intro k _ _;rfl
  ·intro i p b h1;simp at h1
  ·intro i j p q b c h1;simp at h1
  ·intro i p b h1;simp at h1
 refine(h.2 f [] I w args hs eN).mono ?_;rintro e w' ⟨r',v,H',B',I',rfl,⟨rfl,rfl⟩,eM,hB,hI,hrp⟩;refine⟨r',v,I',rfl,rfl,hI,eM.lH,fun b h1 h2=> ?_,eU hr hrp,⟨eM.os,eM.tape,eM.output,eM.size,fun k hk=>eM.keep k hk (fun h=>h)⟩⟩;rcases eM.dZ b h1 h2 with h3 | h3
 ·exact h3
 ·exact h3.elim
theorem CF (f:ByteArray->ByteArray) (g:FuncId) (cs:List V) (HB:List ak) (Q:ByteArray->Prop) (oG:∀r,Q r->∀J,av Tryz.prog g (.str r::cs) (HB++J) (bX (.str (f r)) (HB++J))):∀(m:Nat) (x:St),SizeOf.sizeOf x<m->wS x<=10000000000->CE Q x->
 ∀J,av Tryz.prog 83 [encS x,.a6 g [] cs] (HB++J) (bX (encS (oX f x)) (HB++J))
 | 0,x,h,_,_=>absurd h (Nat.not_lt_zero _)
 | m+1,.mk k r t v l (.mk ek en es aR) a b p ps,hm,hw,hq=>fun J=>by
  rw[CE]at hq;simp only[St.mk.sizeOf_spec]at hm;simp only[wS,wE]at hw;have SZ:∀x∈a,wS x<=dn a:=fun x hx=>by
   obtain⟨p1,p2,rfl⟩:=append_of_mem hx;rw[cB,dn];omega
  have hwb:∀x∈b,wS x<=dn b:=fun x hx=>by
   obtain⟨p1,p2,rfl⟩:=append_of_mem hx;rw[cB,dn];omega
  have Ii:=jQ a;have EN:=jQ b;refine VM f g cs (HB++J) Q (fun r hr J'=>by rw[append_assoc];exact oG r hr _) k r t v l ek en es aR a b p ps hq.1 hq.2.1 hq.2.2.1 (by omega) (by omega) (by omega) (fun x hx J'=> ?_) (fun x hx J'=> ?_)
  ·have h1:=sizeOf_lt_of_mem hx;have h2:=SZ x hx;rw[append_assoc];exact CF f g cs HB Q oG m x (by omega) (by omega) (sK hq.2.2.2.1 x hx) _
  ·have h1:=sizeOf_lt_of_mem hx;have h2:=hwb x hx;rw[append_assoc];exact CF f g cs HB Q oG m x (by omega) (by omega) (sK hq.2.2.2.2 x hx) _
theorem t254 (f:ByteArray->ByteArray) (g:FuncId) (cs:List V) (lI:ae cs=true) (Q:ByteArray->Prop) (oG:∀r,Q r->af Tryz.prog g (.str r::cs) (·=.str (f r))) (m:Nat) (x:St) (hm:SizeOf.sizeOf x<m) (hw:wS x<=10000000000) (hq:CE Q x):
 af Tryz.prog 83 [encS x,.a6 g [] cs] (·=encS (oX f x)):=
 af.ofA (fX _) (CF f g cs [] Q (fun r hr J=>di (by simp[ae,al,lI]) (oG r hr) ⟨rfl,rfl⟩) m x hm hw hq [])
theorem t255 (M:List (ByteArray×ByteArray)) (r:ByteArray):af Tryz.prog 84 [.str r,.bc [.db (iA M) (iX M)]] (·=.str (dT M r)):=by
 refine af.intro c255 100 (by simp) 20 ?_;cases h:lf M r with
 | none=>
  simp -implicitDefEqProofs only[Pg,mH,lg,fT,h,Option.map_none,Option.getD_none,Option.isSome_none,go_sem];simp -implicitDefEqProofs only[Ph,push_cast,go_sem_proc];rw[dT,h];rfl
 | some z=>
  simp -implicitDefEqProofs only[Pg,mH,lg,fT,h,Option.map_some,Option.getD_some,Option.isSome_some,go_sem];simp -implicitDefEqProofs only[Ph,push_cast,go_sem_proc];rw[dT,h];rfl
theorem Hn (r:ByteArray):vr (fun r=>r) r=r:=by rw[vr];split<;>rfl
mutual
theorem Ho:∀x:St,oX (fun r=>r) x=x
 | .mk k r t v l e a b p ps=>by rw[oX,Hn,Hn,xt a,xt b,map_id']
theorem xt:∀xs:List St,ep (fun r=>r) xs=xs
 | []=>by rw[ep]
 | x::xs=>by rw[ep,Ho x,xt xs]
end
theorem t298 (r:ByteArray):af Tryz.prog 154 [.str r] (·=.str r):=by
 refine af.intro c298 100 (by simp) 20 ?_;simp -implicitDefEqProofs only[Vg,go_sem];simp -implicitDefEqProofs only[Vh,push_cast,go_sem_proc]
theorem t299 (xs:List St) (hw:dn xs<=1000000):af Tryz.prog 155 [.fs (xs.map encS),.bc [.a6 154 [] []]] (·=.fs (xs.map encS)):=by
 have hlx:=jQ xs;refine af.intro c299 400 (by simp) 20 ?_;simp -implicitDefEqProofs only[Vi,go_sem];intro hlen;refine aL (fun m e H=>∃pre post kv,xs=pre++post/\m=post.length/\e 1=.bc [.a6 154 [] []]/\e 4=kv/\e 7=.fs (xs.map encS)/\e 8=.int .i64 xs.length/\e 9=.int .i64 pre.length/\OV H kv (pre.map encS)) xs.length ⟨[],xs,.ag,rfl,rfl,by simp[az,aC],by simp[az,aC],by simp[az,aC],by simp[az,aC],by simp[az,aC],.inl ⟨rfl,rfl⟩⟩ ?_;rintro m e H ⟨pre,post,kv,ao,rfl,h1,h4,h7,h8,h9,bm⟩;have cP:=bm.one;have ba:=bm.cS;simp only[V.one]at ba;cases post with
 | nil=>
  have ev:pre=xs:=by rw[ao];simp
  simp -implicitDefEqProofs only[h1,h4,h7,h8,h9,aI ao,go_sem];have hz:fz H 20 kv=_:=dw (f:=encS) (n:=18) (fun H x=>eg H 17 x) bm;rw[ev]at hz;simp -implicitDefEqProofs only[Pq,hz,push_cast,go_sem_proc]
 | cons q post=>
  have hg:=aO encS ao;have Xr:wS q<=dn xs:=by rw[ao,cB,dn];omega
  have hq:=t254 (fun r=>r) 154 [] rfl (fun _=>True) (fun r _=>t298 r) _ q (Nat.lt_succ_self _) (by omega) (uv q);rw[Ho]at hq;have cR:pre.length<=xs.length:=by rw[ao];simp
  have hES:=fun L:List St=>map_append (f:=encS) (l₁:=pre) (l₂:=L)
  rcases q with⟨k,r,t,v,l,⟨ek,en,es,aR⟩,a,b,p,ps⟩
  have hE:=ay k r t v l ek en es aR a b p ps;rw[ay]at hg hq;simp -implicitDefEqProofs only[h1,h4,h7,h8,h9,an ao,aa ao hlen,ba,cP,hg,go_sem];repeat' (first | ((first | ((with_reducible refine bj hq ?_ ?_);(·simp[ae,al,cm,bf,ah,aE])) | ((with_reducible apply cj);(·simp -implicitDefEqProofs only[map_cons,map_nil,bf,ah,aE,push_cast,go_sem_proc]<;>rfl);(with_reducible exact hq);(·rfl)) | (with_reducible refine aD ?_));simp -implicitDefEqProofs only[h1,h4,h7,h8,h9,an ao,aa ao hlen,ba,cP,hg,go_sem]) | (with_reducible refine aA.mk ?_ ?_) | (with_reducible refine And.intro ?_ ?_) | ((with_reducible refine bz ?_);simp -implicitDefEqProofs only[Pq,push_cast,go_sem_proc]) | intro _)
  refine cu (bm.app _) (fun i o l h=>by cases h) (cx _) (by simp only[length_map,length_cons,length_nil];omega) ?_;rintro bN H' bo hle cp;simp -implicitDefEqProofs only[h1,h4,h7,h8,h9,aa ao hlen,go_sem];exact⟨post.length,Nat.lt_succ_self _,pre++ [_],post,bN,by simp[ao];rfl,rfl,rfl,by simp,by rw[map_append,map_singleton,ay];exact bo⟩
theorem t249 (P:bH) (hw:iE P<=1000000) (ew:P.procs.length<=1000000):af Tryz.prog 77 [aP P] (·=aP P):=by
 rcases P with⟨xs,main⟩
 simp only[iE]at hw;simp only at ew;have hm:=t299 main (by omega);refine af.intro c249 400 (by simp) 20 ?_;simp -implicitDefEqProofs only[U0,aP,go_sem];refine⟨[2],_,(by rfl),?_⟩;rw[show bO [2] [ak.row [.agg [.fs (xs.map aF),.fs (main.map encS)]],ak.row [.agg [.ag,.ag]],ak.row [.a6 154 [] []]]=[ak.row [.agg [.fs (xs.map aF),.fs (main.map encS)]],ak.row [.agg [.ag,.ag]],.dead] from rfl];simp -implicitDefEqProofs only[go_sem];repeat' (first | ((first | ((with_reducible refine bj hm ?_ ?_);(·simp[ae,al,cm])) | ((with_reducible apply cj);(·simp -implicitDefEqProofs only[map_cons,map_nil,push_cast,go_sem_proc]<;>rfl);(with_reducible exact hm);(·rfl)) | (with_reducible refine aD ?_));simp -implicitDefEqProofs only[go_sem]) | (with_reducible refine aA.mk ?_ ?_) | (with_reducible refine And.intro ?_ ?_) | ((with_reducible refine bz ?_);simp -implicitDefEqProofs only[Ki,push_cast,go_sem_proc]) | intro _)
 rename_i hlen;refine aL (fun m e H=>∃pre post kv J,xs=pre++post/\m=post.length/\e 2=.ptr 1 0 0/\e 4=.a6 155 [] [.bc [.a6 154 [] []]]/\e 5=.ptr 3 0 0/\e 15=.fs (xs.map aF)/\e 16=.int .i64 xs.length/\e 17=.int .i64 pre.length/\
  H=ak.row [.agg [.fs (xs.map aF),.fs (main.map encS)]]::ak.row [.agg [.ag,.ag]]:: .dead::ak.row [.agg [kv,.fs (main.map encS)]]::J/\OV H kv (pre.map aF)/\a7 kv 0/\a7 kv 1/\a7 kv 2/\a7 kv 3) xs.length
  ⟨[],xs,.ag,[],rfl,rfl,by simp[az,aC],by simp[az,aC],by simp[az,aC],by simp[az,aC],by simp[az,aC],by simp[az,aC],by simp,.inl ⟨rfl,rfl⟩,(fun a b h=>by cases h),(fun a b h=>by cases h),(fun a b h=>by cases h),(fun a b h=>by cases h)⟩ ?_
 rintro m e H ⟨pre,post,kv,J,ao,rfl,h2,h4,h5,gy,cZ,ea,rfl,bm,dW,iT,ir,vn⟩;have cP:=bm.one;have ba:=bm.cS;simp only[V.one]at ba;cases post with
 | nil=>
  have ev:pre=xs:=by rw[ao];simp
  rw[ev]at bm;simp -implicitDefEqProofs only[h2,h4,h5,gy,cZ,ea,aI ao,ba,cP,go_sem];have bJ:=bm.set (x:=ak.row [.agg [kv,.fs (main.map encS)]]) iT;simp only[set_cons_succ,set_cons_zero]at bJ;have hz:fz _ 19 kv=_:=dw (f:=aF) (n:=17) (fun H x=>gr H 16 x) bJ;simp -implicitDefEqProofs only[Ki,h2,hz,push_cast,go_sem_proc]
 | cons q post=>
  have hg:=aO aF ao;simp only[aF]at hg;have Xr:lM xs=lM pre+(q.au.length+dn q.steps+lM post):=by rw[ao,fZ,lM]
  have cR:pre.length<=xs.length:=by rw[ao];simp
  have pV:=t46 q.au (by omega);have hq:=t299 q.steps (by omega);simp -implicitDefEqProofs only[h2,h4,h5,gy,cZ,ea,an ao,aa ao hlen,ba,cP,hg,go_sem];repeat' (first | ((first | ((with_reducible first | refine bj pV ?_ ?_ | refine bj hq ?_ ?_);(·simp[ae,al,cm])) | ((with_reducible apply cj);(·simp -implicitDefEqProofs only[map_cons,map_nil,push_cast,go_sem_proc]<;>rfl);(with_reducible first | exact pV | exact hq);(·rfl)) | (with_reducible refine aD ?_));simp -implicitDefEqProofs only[h2,h4,h5,gy,cZ,ea,an ao,aa ao hlen,ba,cP,hg,go_sem]) | (with_reducible refine aA.mk ?_ ?_) | (with_reducible refine And.intro ?_ ?_) | ((with_reducible refine bz ?_);simp -implicitDefEqProofs only[Ki,push_cast,go_sem_proc]) | intro _)
  have bJ:∀L:List ak,OV (ak.row [.agg [.fs (xs.map aF),.fs (main.map encS)]]::ak.row [.agg [.ag,.ag]]:: .dead::ak.row [.agg [kv,.fs (main.map encS)]]::(J++L)) kv (pre.map aF):=fun L=>bm.app L
  refine cu (bJ _) (fun i o l h=>by cases h) (fo _) (by simp;omega) ?_;rintro bN H' bo hle cp;obtain⟨pO,lV⟩:=cp 0 (by simp) dW;obtain⟨ky,pn⟩:=cp 1 (by simp) iT;obtain⟨jO,nY⟩:=cp 2 (by simp) ir;obtain⟨F4,QZ⟩:=cp 3 (by simp) vn;simp only[getElem?_cons_zero,getElem?_cons_succ]at pO ky jO F4;obtain⟨J',rfl⟩:=m5 pO ky jO F4;have ej:V.one bN=true:=bo.cS;simp only[V.one]at ej;have gQ:=bo.one;simp -implicitDefEqProofs only[h2,h4,h5,gy,cZ,ea,an ao,aa ao hlen,ba,cP,ej,gQ,hg,go_sem];refine⟨post.length,Nat.lt_succ_self _,pre++ [q],post,bN,J',by simp[ao],rfl,by simp,rfl,?_,lV,pn,nY,QZ⟩;have:=bo.set (x:=ak.row [.agg [bN,.fs (main.map encS)]]) QZ;simpa[aF]using this
theorem xu {M:List (ByteArray×ByteArray)} (h0:lf M ⟨#[]⟩=none) (r:ByteArray):vr (dT M) r=dT M r:=by
 rw[vr];split
 ·rename_i h;rw[h,dT,h0];rfl
 ·rfl
mutual
theorem PJ {M:List (ByteArray×ByteArray)} (h0:lf M ⟨#[]⟩=none) {n0:Int}:∀(s:St) (n:Int),n+dA s<=n0->BX (xr M n0) s n=[oX (dT M) s]
 | .mk k r t v l e a b p ps,n,h=>by
  simp only[dA]at h;have ct:n<n0:=by omega
  rw[BX,xw h0 a (n+1) (by omega),xw h0 b (n+1+ai a) (by omega),xr,if_pos ct,Ee,oX,xu h0,xu h0]
theorem xw {M:List (ByteArray×ByteArray)} (h0:lf M ⟨#[]⟩=none) {n0:Int}:∀(l:List St) (n:Int),n+ai l<=n0->eZ (xr M n0) l n=ep (dT M) l
 | [],n,h=>by rw[eZ,ep]
 | s::l,n,h=>by
  simp only[ai]at h;rw[eZ,ep,PJ h0 s n (by omega),xw h0 l (n+dA s) (by omega)];rfl
end
mutual
theorem KF {M:List (ByteArray×ByteArray)} {n0:Int}:∀(s:St) (n:Int),n0<=n->BX (xr M n0) s n=[s]
 | .mk k r t v l e a b p ps,n,h=>by
  have ct:¬n<n0:=by omega
  rw[BX,sL a (n+1) (by omega),sL b (n+1+ai a) (by omega),xr,if_neg ct]
theorem sL {M:List (ByteArray×ByteArray)} {n0:Int}:∀(l:List St) (n:Int),n0<=n->eZ (xr M n0) l n=l
 | [],n,h=>by rw[eZ]
 | s::l,n,h=>by
  rw[eZ,KF s n h,sL l (n+dA s) (by omega)];rfl
end
theorem CH {M:List (ByteArray×ByteArray)} {n0:Int}:∀(l:List Pr) (n:Int),n0<=n->qu (xr M n0) l n=l
 | [],n,h=>by rw[qu]
 | q::l,n,h=>by rw[qu,sL q.steps n h,CH l (n+ai q.steps) (by omega)]
theorem PK (P:bH) {M:List (ByteArray×ByteArray)} (h0:lf M ⟨#[]⟩=none):qV (xr M (ai P.main)) P=⟨P.procs,ep (dT M) P.main⟩:=by
 rw[qV,CH P.procs _ (Int.le_refl _),xw h0 P.main 0 (by omega)]
def cC (x:ByteArray×ByteArray):V:=.agg [.str x.1,.str x.2]
theorem cn (M:List (ByteArray×ByteArray)):ae (M.map cC)=true:=bS (fun x=>by simp[cC,al,ae]) M
theorem ux (r v:ByteArray) (M:List (ByteArray×ByteArray)) (h:∀x∈M,x.1≠r):ja (iA M) (.str r)=iA (M++ [(r,v)]):=by
 have:(iA M).any (fun q=>gE (.str r) q==some true)=false:=by
  rw[any_eq_false];intro q hq;obtain⟨x,hx,rfl⟩:=List.mem_map.1 hq;have:=h x hx;simp[gE,fF,Ne.symm this]
 rw[ja,this];simp[iA]
theorem qd (r v:ByteArray):∀(M:List (ByteArray×ByteArray)),(∀x∈M,x.1≠r)->im (iA M) (iX M) (.str r) (.str v)=iX (M++ [(r,v)])
 | [],_=>by simp[iA,iX,im]
 | x::M,h=>by
  have ih:=qd r v M (fun y hy=>h y (by simp[hy]));have h0:=h x (by simp);simp only[iA,iX,map_cons,cons_append]at ih⊢;simp[im,gE,fF,Ne.symm h0,ih]
noncomputable def wi (P:bH) (M:List (ByteArray×ByteArray)) (ff:Int):V:=
 if rE P≠0 then .dJ [aP ⟨[],[]⟩,.int .i64 (rE P)]else if ff≠0 then .dJ [aP ⟨[],[]⟩,.int .i64 ff]else .dJ [aP (qV (xr M (ai P.main)) P),.int .i64 0]
theorem t216 (P:bH) (hw:iE P<=1000000) (hc:total P<=1000000) (ew:P.procs.length<=1000000) (M:List (ByteArray×ByteArray)) (R:List ByteArray) (ff:Int)
 (A3:af Tryz.prog 73 [aP P] (·=.fs (R.map .str))) (VP:af Tryz.prog 72 [.fs (R.map .str),.fs (M.map cC)] (·=.int .i64 ff)) (hff:ff=0->(M.map (·.1)).Nodup):
 af Tryz.prog 23 [aP P,.fs (M.map cC)] (·=wi P M ff):=by
 have ez:=t11 P hc;have lA:ai P.main<=1000000:=by have:total P=ai P.main+bD P.procs:=rfl;omega
 have VQ:=t246 _ P.main (Nat.lt_succ_self _) lA;have iG:=t20r M (ai P.main) P hw ew;have j6:=lh P.main;rw[wi];generalize rE P=ck at*;generalize qV (xr M (ai P.main)) P=Q at*;simp only[aP]at ez A3 iG⊢;refine af.intro c216 900 (by simp) 20 ?_;simp -implicitDefEqProofs only[UK,go_sem];repeat' (first | ((first | ((with_reducible first | refine bj ez ?_ ?_ | refine bj A3 ?_ ?_ | refine bj VP ?_ ?_);(·simp[ae,al,cm,aq,ah,cn,aE])) | ((with_reducible apply cj);(·simp -implicitDefEqProofs only[map_cons,map_nil,aq,ah,cn,aE,push_cast,go_sem_proc]<;>rfl);(with_reducible first | exact ez | exact A3 | exact VP);(·rfl)) | (with_reducible refine aD ?_));simp -implicitDefEqProofs only[cn,go_sem]) | (with_reducible refine aA.mk ?_ ?_) | (with_reducible refine And.intro ?_ ?_) | ((with_reducible refine bz ?_);simp -implicitDefEqProofs only[Kf,push_cast,go_sem_proc]) | intro _)
 ·rename_i h;simp at h;simp[h]
 ·rename_i h1 h;simp at h1 h;simp[h1,h]
 rename_i h1 h2 hlen;simp at h1 h2;have AQ:=hff h2;refine aL (fun m e H=>∃pre post J,M=pre++post/\m=post.length/\e 2=.ptr 0 0 0/\e 4=.ptr 1 0 0/\e 8=.ptr 3 0 0/\e 27=.fs (M.map cC)/\e 28=.int .i64 M.length/\e 29=.int .i64 pre.length/\
  H=ak.row [.agg [.fs (P.procs.map aF),.fs (P.main.map encS)]]::ak.row [.agg [.ag,.ag]]:: .mp (iA pre) (iX pre)::ak.row [.map 2]::J) M.length
  ⟨[],M,[],rfl,rfl,by simp[az,aC],by simp[az,aC],by simp[az,aC],by simp[az,aC],by simp[az,aC],by simp[az,aC],by simp[iA,iX]⟩ ?_
 rintro m e H ⟨pre,post,J,ao,rfl,Ng,h4,h8,j0,vT,oR,rfl⟩;cases post with
 | cons q post=>
  have hg:=aO cC ao;simp only[cC]at hg;have dr:∀x∈pre,x.1≠q.1:=by
   intro x hx e;rw[ao,map_append,nodup_append]at AQ;exact AQ.2.2 x.1 (mem_map_of_mem hx) q.1 (by simp) e
  have hk:=ux q.1 q.2 pre dr;have hv:=qd q.1 q.2 pre dr;simp -implicitDefEqProofs only[Ng,h4,h8,j0,vT,oR,an ao,aa ao hlen,hg,mH,hk,hv,go_sem];exact⟨post.length,Nat.lt_succ_self _,pre++ [q],post,_,by simp[ao],rfl,by simp,rfl⟩
 | nil=>
  have ev:pre=M:=by rw[ao];simp
  subst ev;simp -implicitDefEqProofs only[Ng,h4,h8,j0,vT,oR,aI ao,go_sem];repeat' (first | ((first | ((with_reducible refine bj VQ ?_ ?_);(·simp[ae,al,cm,aq,ah])) | ((with_reducible apply cj);(·simp -implicitDefEqProofs only[map_cons,map_nil,aq,ah,push_cast,go_sem_proc]<;>rfl);(with_reducible exact VQ);(·rfl)) | (with_reducible refine aD ?_));simp -implicitDefEqProofs only[Ng,h4,h8,j0,vT,oR,go_sem]) | (with_reducible refine aA.mk ?_ ?_) | (with_reducible refine And.intro ?_ ?_) | ((with_reducible refine bz ?_);simp -implicitDefEqProofs only[Kf,push_cast,go_sem_proc]) | intro _)
  rw[j6];obtain⟨H1,vI⟩:∃H1,H1=(ak.row [.agg [.fs (P.procs.map aF),.fs (P.main.map encS)]]::ak.row [.agg [.ag,.ag]]:: .mp (iA pre) (iX pre)::ak.row [.map 2]::(J++ [ak.row [V.int .i64 ((ai P.main:Nat):Int)]])):=⟨_,rfl⟩;rw[<-vI];have g0:H1[0]? =some (ak.row [.agg [.fs (P.procs.map aF),.fs (P.main.map encS)]]):=by rw[vI];rfl
  have g1:H1[1]? =some (ak.row [.agg [.ag,.ag]]):=by rw[vI];rfl
  have g2:H1[2]? =some (.mp (iA pre) (iX pre)):=by rw[vI];rfl
  have g3:H1[3]? =some (ak.row [.map 2]):=by rw[vI];rfl
  have g4:H1[J.length+4]? =some (ak.row [V.int .i64 ((ai P.main:Nat):Int)]):=by rw[vI];simp
  clear vI;have k0:∀i,i<4->(bO [J.length+4] H1)[i]? =H1[i]? :=fun i hi=>by
   rw[de,if_neg];rintro⟨h,_⟩;simp at h;omega
  have fz1:fz (cQ [J.length+4] H1) 20 (.ptr (J.length+4) 0 0)=some (.bc [.int .i64 ((ai P.main:Nat):Int)]):=by
   have hk:(cQ [J.length+4] H1)[J.length+4]? =some (ak.row [V.int .i64 ((ai P.main:Nat):Int)]):=by rw[cg,g4];simp
   rw[l9,hk,jK];simp[aw,b7,cN,jZ,Dn]
  have Xw:fz (cQ [3,2] (bO [J.length+4] H1)) 20 (.ptr 3 0 0)=some (.bc [.db (iA pre) (iX pre)]):=by
   have h3:(cQ [3,2] (bO [J.length+4] H1))[3]? =some (ak.row [.map 2]):=by rw[cg,k0 3 (by omega),g3];simp
   have h2:(cQ [3,2] (bO [J.length+4] H1))[2]? =some (.mp (iA pre) (iX pre)):=by rw[cg,k0 2 (by omega),g2];simp
   have e1:∀n,eI (fz (cQ [3,2] (bO [J.length+4] H1)) (n+1)) (iA pre)=some (iA pre):=fun n=>dg _ _ (fun x=>by simp[dN]) pre
   have e2:∀n,eI (fz (cQ [3,2] (bO [J.length+4] H1)) (n+1)) (iX pre)=some (iX pre):=fun n=>dg _ _ (fun x=>by simp[dN]) pre
   rw[l9,h3,jK];simp[aw,b7,cN,mr,h2,mw,e1,e2,Dn]
  refine⟨[J.length+4],_,fz1,[3,2],_,Xw,?_⟩;have f0:(bO [3,2] (bO [J.length+4] H1))[0]? =some (ak.row [.agg [.fs (P.procs.map aF),.fs (P.main.map encS)]]):=by
   rw[de,if_neg (by simp),k0 0 (by omega),g0]
  have f1:(bO [3,2] (bO [J.length+4] H1))[1]? =some (ak.row [.agg [.ag,.ag]]):=by
   rw[de,if_neg (by simp),k0 1 (by omega),g1]
  generalize bO [3,2] (bO [J.length+4] H1)=H3 at*;have Gu:=(List.getElem?_eq_some_iff.1 f1).1;repeat' (first | ((first | ((with_reducible refine bj iG ?_ ?_);(·simp[ae,al,cm,aq,ah,dB,dC])) | ((with_reducible apply cj);(·simp -implicitDefEqProofs only[map_cons,map_nil,aq,ah,dB,dC,push_cast,go_sem_proc]<;>rfl);(with_reducible exact iG);(·rfl)) | (with_reducible refine aD ?_));simp -implicitDefEqProofs only[Ng,h4,h8,j0,vT,oR,f0,f1,go_sem]) | (with_reducible refine aA.mk ?_ ?_) | (with_reducible refine And.intro ?_ ?_) | ((with_reducible refine bz ?_);simp -implicitDefEqProofs only[Kf,push_cast,go_sem_proc]) | intro _)
  simp only[h4];rw[getElem?_set_self Gu];simp[h1,h2,aw,b7,cN,jL,aq,ah,Dn]
theorem t293 (x y:ByteArray×ByteArray):af Tryz.prog 147 [cC y,.bc [.str x.1,.str x.2]] (·=.bool (decide (y.1=x.1) || decide (y.2=x.2))):=by
 simp only[cC];refine af.intro c293 100 (by simp) 20 ?_;by_cases h:y.1=x.1
 ·simp -implicitDefEqProofs only[Pn,h,decide_true,go_sem];simp -implicitDefEqProofs only[Po,h,push_cast,go_sem_proc];try simp[h]
 ·simp -implicitDefEqProofs only[Pn,h,decide_false,go_sem];simp -implicitDefEqProofs only[Po,h,push_cast,go_sem_proc];try simp[h]
theorem t294 (x y:ByteArray×ByteArray):af Tryz.prog 148 [cC y,.bc [.str x.1,.str x.2]] (·=.bool (decide (y.1=x.2))):=by
 simp only[cC];refine af.intro c294 100 (by simp) 20 ?_;simp -implicitDefEqProofs only[Vc,go_sem];simp -implicitDefEqProofs only[Vd,push_cast,go_sem_proc]
theorem t324 (f:ByteArray×ByteArray->Bool) (g:FuncId) (cs:List V) (lI:ae cs=true) (oG:∀y,af Tryz.prog g (cC y::cs) (·=.bool (f y))) (M:List (ByteArray×ByteArray)):
 af Tryz.prog 195 [.fs (M.map cC),.a6 g [] cs] (fun r=>∃n:Int,r=.int .i64 n/\decide (0<=n)=M.any f):=by
 refine af.intro c324 200 (by simp) 20 ?_;simp -implicitDefEqProofs only[Vm,go_sem];intro hlen;refine aL (fun m e H=>∃pre post,M=pre++post/\m=post.length/\pre.any f=false/\e 0=.fs (M.map cC)/\e 1=.a6 g [] cs/\e 6=.fs (M.map cC)/\e 7=.int .i64 M.length/\e 8=.int .i64 pre.length) M.length ⟨[],M,rfl,rfl,rfl,by simp[az,aC]⟩ ?_;rintro m e H ⟨pre,post,ao,rfl,lZ,h0,h1,h6,h7,h8⟩;cases post with
 | nil=>
  have ev:pre=M:=by rw[ao];simp
  subst ev;simp -implicitDefEqProofs only[h0,h1,h6,h7,h8,aI ao,go_sem];simp -implicitDefEqProofs only[Ps,push_cast,go_sem_proc];rw[lZ];rfl
 | cons q post=>
  have hg:=aO cC ao;have hq:=oG q;simp only[cC]at hg hq;simp -implicitDefEqProofs only[h0,h1,h6,h7,h8,an ao,aa ao hlen,hg,go_sem];repeat' (first | ((first | ((with_reducible refine bj hq ?_ ?_);(·simp[ae,al,cm,lI,cn])) | ((with_reducible apply cj);(·simp -implicitDefEqProofs only[map_cons,map_nil,lI,cn,push_cast,go_sem_proc]<;>rfl);(with_reducible exact hq);(·rfl)) | (with_reducible refine aD ?_));simp -implicitDefEqProofs only[h0,h1,h6,h7,h8,an ao,aa ao hlen,hg,go_sem]) | (with_reducible refine aA.mk ?_ ?_) | (with_reducible refine And.intro ?_ ?_) | ((with_reducible refine bz ?_);simp -implicitDefEqProofs only[Ps,push_cast,go_sem_proc]) | intro _)
  ·rename_i hf;rw[ao];simp[hf]
  ·rename_i hf;exact⟨_,Nat.lt_succ_self _,pre++ [q],post,by simp[ao],rfl,by simp only[any_append,lZ,any_cons,hf,any_nil,Bool.or_false],by simp⟩
theorem t292 (f:ByteArray×ByteArray->Bool) (g:FuncId) (cs:List V) (lI:ae cs=true) (oG:∀y,af Tryz.prog g (cC y::cs) (·=.bool (f y))) (M:List (ByteArray×ByteArray)):
 af Tryz.prog 146 [.fs (M.map cC),.a6 g [] cs] (·=.bool (M.any f)):=by
 have h:=t324 f g cs lI oG M;refine af.intro c292 100 (by simp) 20 ?_;simp -implicitDefEqProofs only[Va,go_sem];refine gJ (by simp[ae,al,cn,lI]) h ?_;rintro r ⟨n,rfl,hn⟩;simp -implicitDefEqProofs only[go_sem];simp -implicitDefEqProofs only[Vb,push_cast,go_sem_proc];try simpa using hn
def bl (s:ByteArray):List UInt8:=s.data.toList
def lb (z:List UInt8):ByteArray:=⟨z.toArray⟩
theorem wj (s:ByteArray):lb (bl s)=s:=by cases s;simp[lb,bl]
theorem Hp (z:List UInt8):bl (lb z)=z:=by simp[lb,bl]
def Eh (l:List (List UInt8)):List (List UInt8):=l.mergeSort fun x y=>decide (x<=y)
def zV (l:List ByteArray):List ByteArray:=(Eh (l.map bl)).map lb
def sc (l:List ByteArray):List ByteArray:=(Lib.compact (l.map bl)).map lb
theorem m6 (l:List ByteArray):(zV l).length=l.length:=by simp[zV,Eh,length_mergeSort]
theorem rb (l:List (List UInt8)):(Eh l).Perm l:=mergeSort_perm _ _
theorem rQ (l:List (List UInt8)):(Eh l).Pairwise (·<=·):=by
 have:=pairwise_mergeSort (le:=fun(x y:List UInt8)=>decide (x<=y)) (fun a b c h1 h2=>by simp only[decide_eq_true_eq]at*;exact List.le_trans h1 h2) (fun a b=>by simp only[Bool.or_eq_true,decide_eq_true_eq];exact List.le_total a b) l;exact this.imp (fun h=>by simpa using h)
theorem xx (zs:List (List UInt8)) (hs:zs.Pairwise (·<=·)):∀m,m<=zs.length->(∀x,x∈Lib.compactUpTo zs.toArray m↔x∈zs.take m)/\(Lib.compactUpTo zs.toArray m).Pairwise (fun a b=>a<=b/\a≠b)
 | 0,_=>by simp[Lib.compactUpTo]
 | m+1,h=>by
  obtain⟨h1,h2⟩:=xx zs hs m (by omega);have hm:m<zs.length:=by omega
  have hz:zs.toArray[m]! =zs[m]:=by simp[hm]
  have ht:zs.take (m+1)=zs.take m++ [zs[m]]:=by rw[take_succ_eq_append_getElem hm]
  rw[Lib.compactUpTo_succ,hz,ht];by_cases hk:Lib.keeps zs.toArray m=true
  ·rw[if_pos hk];refine⟨fun x=>by rw[mem_append,mem_append,h1],?_⟩;rw[pairwise_append];refine⟨h2,by simp,fun a ha b hb=> ?_⟩;simp only[mem_singleton]at hb;subst hb;have NW:=(h1 a).1 ha;obtain⟨j,hj,rfl⟩:=List.mem_take_iff_getElem.1 NW;have Ll:j<m:=by omega
   have hle:=List.pairwise_iff_getElem.1 hs j m (by omega) hm Ll;refine⟨hle,fun e=> ?_⟩;simp only[Lib.keeps,decide_eq_true_eq]at hk;rcases hk with hk | hk
   ·omega
   ·rw[hz]at hk;have oM:m - 1<zs.length:=by omega
    have Ff:zs.toArray[m - 1]! =zs[m - 1]:=by simp[oM]
    rw[Ff]at hk;have h3:=List.pairwise_iff_getElem.1 hs (m - 1) m oM hm (by omega);have h4:zs[j]<=zs[m - 1]:=by
     by_cases Yj:j=m - 1
     ·subst Yj;exact List.le_refl _
     ·exact List.pairwise_iff_getElem.1 hs j (m - 1) (by omega) oM (by omega)
    rw[e]at h4;exact hk (List.le_antisymm h4 h3)
  ·rw[if_neg hk,append_nil];refine⟨fun x=> ?_,h2⟩;rw[h1,mem_append,mem_singleton];refine⟨.inl,fun hx=> ?_⟩;rcases hx with hx | rfl
   ·exact hx
   ·simp only[Lib.keeps,decide_eq_true_eq,not_or,Classical.not_not,ne_eq]at hk;obtain⟨dW,iT⟩:=hk;have oM:m - 1<zs.length:=by omega
    have Ff:zs.toArray[m - 1]! =zs[m - 1]:=by simp[oM]
    rw[hz,Ff]at iT;rw[iT];exact List.mem_take_iff_getElem.2 ⟨m - 1,by omega,rfl⟩
theorem KG (zs:List (List UInt8)) (hs:zs.Pairwise (·<=·)) (x:List UInt8):x∈Lib.compact zs↔x∈zs:=by
 have:=(xx zs hs zs.length (Nat.le_refl _)).1 x;rwa[take_length]at this
theorem A5 (zs:List (List UInt8)) (hs:zs.Pairwise (·<=·)):(Lib.compact zs).Pairwise (fun a b=>a<=b/\a≠b):=(xx zs hs zs.length (Nat.le_refl _)).2
theorem CI {a b:List (List UInt8)} (ha:a.Pairwise (fun x y=>x<=y/\x≠y)) (hb:b.Pairwise (fun x y=>x<=y/\x≠y)) (h:∀x,x∈a↔x∈b):a=b:=by
 have QS:a.Nodup:=ha.imp (fun h=>h.2);have DH:b.Nodup:=hb.imp (fun h=>h.2);have hp:a.Perm b:=(perm_ext_iff_of_nodup QS DH).2 h;exact hp.eq_of_pairwise (fun x y _ _ h1 h2=>List.le_antisymm h1.1 h2.1) ha hb
def KI (l:List ByteArray):List (List UInt8):=Lib.compact (Eh (l.map bl))
def iB (l:List ByteArray):List ByteArray:=sc (zV l)
theorem uy (l:List ByteArray):iB l=(KI l).map lb:=by
 have:(zV l).map bl=Eh (l.map bl):=by rw[zV,map_map,show bl∘lb=id from funext Hp,map_id]
 rw[iB,sc,this];rfl
theorem m7 (l:List ByteArray) (x:List UInt8):x∈KI l↔x∈l.map bl:=by rw[KI,KG _ (rQ _)];exact(rb _).mem_iff
theorem zo (l:List ByteArray):(KI l).Pairwise (fun x y=>x<=y/\x≠y):=A5 _ (rQ _)
theorem re (l:List ByteArray) (s:ByteArray):s∈iB l↔s∈l:=by
 rw[uy];constructor
 ·intro h;obtain⟨x,hx,rfl⟩:=List.mem_map.1 h;obtain⟨t,ht,rfl⟩:=List.mem_map.1 ((m7 l x).1 hx);rw[wj];exact ht
 ·intro h;exact List.mem_map.2 ⟨bl s,(m7 l _).2 (mem_map_of_mem h),wj s⟩
def nz (l:List ByteArray):List ByteArray:=match l with
 | []=> []
 | x::r=>if x=⟨#[]⟩then r else x::r
theorem PL {l m:List ByteArray} (h:∀s,(s∈l/\s≠⟨#[]⟩)↔s∈m):nz (iB l)=iB m:=by
 have hr:=zo l;have da:=m7 l;have EN:∀x:List UInt8,lb x=⟨#[]⟩↔x=[]:=fun x=>by
  constructor
  ·intro e;have:=congrArg bl e;rw[Hp]at this;rw[this];rfl
  ·rintro rfl;rfl
 have dr:∀x∈KI m,x≠ []:=by
  intro x hx e;obtain⟨t,ht,rfl⟩:=List.mem_map.1 ((m7 m x).1 hx);exact((h t).2 ht).2 (by rw[<-wj t,e];rfl)
 have j6:∀x,x≠ []->(x∈KI l↔x∈KI m):=by
  intro x hx;rw[m7,m7];constructor
  ·intro h1;obtain⟨t,ht,rfl⟩:=List.mem_map.1 h1;exact mem_map_of_mem ((h t).1 ⟨ht,fun e=>hx (by rw[e];rfl)⟩)
  ·intro h1;obtain⟨t,ht,rfl⟩:=List.mem_map.1 h1;exact mem_map_of_mem ((h t).2 ht).1
 have hrm:=zo m;rw[uy,uy];generalize KI m=b at*;cases hl:KI l with
 | nil=>
  rw[hl]at j6;have:b=[]:=by
   cases b with
   | nil=>rfl
   | cons y b=>exact absurd ((j6 y (dr y (by simp))).2 (by simp)) (by simp)
  rw[this];rfl
 | cons x r=>
  rw[hl]at hr j6;rw[pairwise_cons]at hr;by_cases hx:x=[]
  ·subst hx;rw[map_cons,nz,if_pos ((EN []).2 rfl)];congr 1
   refine CI hr.2 hrm (fun y=> ?_);by_cases hy:y=[]
   ·subst hy;exact⟨fun h=>absurd rfl (hr.1 _ h).2,fun h=>absurd rfl (dr _ h)⟩
   ·rw[<-j6 y hy];simp[hy]
  ·rw[map_cons,nz,if_neg (fun e=>hx ((EN x).1 e)),<-map_cons];congr 1
   refine CI (List.pairwise_cons.2 hr) hrm (fun y=> ?_);by_cases hy:y=[]
   ·subst hy;refine⟨fun h=> ?_,fun h=>absurd rfl (dr _ h)⟩;simp only[mem_cons]at h;rcases h with h | h
    ·exact absurd h.symm hx
    ·have h1:=(hr.1 _ h).1;exact absurd (List.le_antisymm h1 (nil_le _)) hx
   ·exact j6 y hy
end Go.Proofs.YtdgoeblpcnjlbaaGreatDoor.Av
namespace Go.Proofs
open Go.Shelf List
def Tryz.Ei:Go.Shelf.Ren:=⟨fun | 6=>101 | 8=>168 | 9=>172 | 19=>211 | 20=>212 | 21=>223 | 22=>224 | 23=>225 | 24=>226 | 25=>227 | 26=>228 | 27=>229 | 28=>230 | 29=>231 | 36=>267 | 31=>260 | 32=>261 | 37=>268 | 38=>269 | 39=>270 | 41=>283 | n=>n,fun | 27=>31 | 29=>9 | 3=>3 | 32=>233 | 26=>31 | 0=>0 | 44=>266 | 46=>268 | 4=>4 | 36=>259 | 35=>258 | 41=>263 | 5=>5 | 9=>9 | 53=>303 | 57=>198 | 63=>318 | 64=>319 | n=>n,fun | n=>n⟩
theorem Tryz.Md:Go.Proofs.SlLaysM.n6 Tryz.prog Tryz.Ei:={
 mixed:=by kernel_rfl
 f6:=⟨Tryz.f101.name,by decide,Tryz.func101.trans (congrArg some (by kernel_rfl))⟩
 f8:=Tryz.func168.trans (congrArg some (by kernel_rfl))
 f9:=⟨Tryz.f172.name,by decide,Tryz.func172.trans (congrArg some (by kernel_rfl))⟩
 f19:=Tryz.func211.trans (congrArg some (by kernel_rfl))
 f20:=Tryz.func212.trans (congrArg some (by kernel_rfl))
 f21:=⟨Tryz.f223.name,by decide,Tryz.func223.trans (congrArg some (by kernel_rfl))⟩
 f22:=⟨Tryz.f224.name,by decide,Tryz.func224.trans (congrArg some (by kernel_rfl))⟩
 f23:=⟨Tryz.f225.name,by decide,Tryz.func225.trans (congrArg some (by kernel_rfl))⟩
 f24:=⟨Tryz.f226.name,by decide,Tryz.func226.trans (congrArg some (by kernel_rfl))⟩
 f25:=⟨Tryz.f227.name,by decide,Tryz.func227.trans (congrArg some (by kernel_rfl))⟩
 f26:=⟨Tryz.f228.name,by decide,Tryz.func228.trans (congrArg some (by kernel_rfl))⟩
 f27:=⟨Tryz.f229.name,by decide,Tryz.func229.trans (congrArg some (by kernel_rfl))⟩
 f28:=⟨Tryz.f230.name,by decide,Tryz.func230.trans (congrArg some (by kernel_rfl))⟩
 f29:=⟨Tryz.f231.name,by decide,Tryz.func231.trans (congrArg some (by kernel_rfl))⟩
 f31:=Tryz.func260.trans (congrArg some (by kernel_rfl))
 f32:=Tryz.func261.trans (congrArg some (by kernel_rfl))
 f36:=⟨Tryz.f267.name,by decide,Tryz.func267.trans (congrArg some (by kernel_rfl))⟩
 f37:=⟨Tryz.f268.name,by decide,Tryz.func268.trans (congrArg some (by kernel_rfl))⟩
 f38:=⟨Tryz.f269.name,by decide,Tryz.func269.trans (congrArg some (by kernel_rfl))⟩
 f39:=⟨Tryz.f270.name,by decide,Tryz.func270.trans (congrArg some (by kernel_rfl))⟩
 f41:=⟨Tryz.f283.name,by decide,Tryz.func283.trans (congrArg some (by kernel_rfl))⟩
 t0:=Tryz.underlying0
 a0:=Tryz.isAgg0
 z0:=Tryz.sizeOf0
 v0:=Tryz.zeroValue0
 t3:=Tryz.underlying3
 a3:=Tryz.isAgg3
 z3:=Tryz.sizeOf3
 v3:=Tryz.zeroValue3
 t4:=Tryz.underlying4
 a4:=Tryz.isAgg4
 z4:=Tryz.sizeOf4
 v4:=Tryz.zeroValue4
 t5:=Tryz.underlying5
 a5:=Tryz.isAgg5
 z5:=Tryz.sizeOf5
 v5:=Tryz.zeroValue5
 t9:=Tryz.underlying9
 a9:=Tryz.isAgg9
 z9:=Tryz.sizeOf9
 v9:=Tryz.zeroValue9
 t26:=Tryz.underlying31
 a26:=Tryz.isAgg31
 z26:=Tryz.sizeOf31
 v26:=Tryz.zeroValue31
 t27:=Tryz.underlying31
 a27:=Tryz.isAgg31
 z27:=Tryz.sizeOf31
 v27:=Tryz.zeroValue31
 t29:=Tryz.underlying9
 a29:=Tryz.isAgg9
 z29:=Tryz.sizeOf9
 v29:=Tryz.zeroValue9
 t32:=Tryz.underlying233
 a32:=Tryz.isAgg233
 z32:=Tryz.sizeOf233
 v32:=Tryz.zeroValue233
 t35:=Tryz.underlying258
 a35:=Tryz.isAgg258
 z35:=Tryz.sizeOf258
 v35:=Tryz.zeroValue258
 t36:=Tryz.underlying259
 a36:=Tryz.isAgg259
 z36:=Tryz.sizeOf259
 v36:=Tryz.zeroValue259
 t41:=Tryz.underlying263
 a41:=Tryz.isAgg263
 z41:=Tryz.sizeOf263
 v41:=Tryz.zeroValue263
 t44:=Tryz.underlying266
 a44:=Tryz.isAgg266
 z44:=Tryz.sizeOf266
 v44:=Tryz.zeroValue266
 t46:=Tryz.underlying268
 a46:=Tryz.isAgg268
 z46:=Tryz.sizeOf268
 v46:=Tryz.zeroValue268
 t53:=Tryz.underlying303
 a53:=Tryz.isAgg303
 z53:=Tryz.sizeOf303
 v53:=Tryz.zeroValue303
 t57:=Tryz.underlying198
 a57:=Tryz.isAgg198
 z57:=Tryz.sizeOf198
 v57:=Tryz.zeroValue198
 t63:=Tryz.underlying318
 a63:=Tryz.isAgg318
 z63:=Tryz.sizeOf318
 v63:=Tryz.zeroValue318
 t64:=Tryz.underlying319
 a64:=Tryz.isAgg319
 z64:=Tryz.sizeOf319
 v64:=Tryz.zeroValue319}
def Tryz.Ej:Go.Shelf.Ren:=⟨fun | 44=>102 | n=>n,fun | 25=>31 | 26=>9 | 3=>3 | 4=>4 | 0=>0 | n=>n,fun | n=>n⟩
theorem Tryz.Me:Go.Proofs.SlLaysN.n44 Tryz.prog Tryz.Ej:={
 mixed:=by kernel_rfl
 f44:=⟨Tryz.f102.name,by decide,Tryz.func102.trans (congrArg some (by kernel_rfl))⟩
 t0:=Tryz.underlying0
 a0:=Tryz.isAgg0
 z0:=Tryz.sizeOf0
 v0:=Tryz.zeroValue0
 t3:=Tryz.underlying3
 a3:=Tryz.isAgg3
 z3:=Tryz.sizeOf3
 v3:=Tryz.zeroValue3
 t4:=Tryz.underlying4
 a4:=Tryz.isAgg4
 z4:=Tryz.sizeOf4
 v4:=Tryz.zeroValue4
 t25:=Tryz.underlying31
 a25:=Tryz.isAgg31
 z25:=Tryz.sizeOf31
 v25:=Tryz.zeroValue31
 t26:=Tryz.underlying9
 a26:=Tryz.isAgg9
 z26:=Tryz.sizeOf9
 v26:=Tryz.zeroValue9
 i26:=by kernel_rfl}
end Go.Proofs
namespace Go.Proofs.YtdgoeblpcnjlbaaGreatDoor.Av
open Go.RowKit Go.Sort List
theorem wm {α:Type} [Inhabited α] {f:Fr} {B:List Pl} {I:IM} {w:World} {H:List ak} (hs:cD f B I w H) (enc:α->Value) {id:Nat} {p:Pl} {es wz:List V}
 (hp:B[id]? =some p) (hH:H[id]? =some (.row es)) (hl:wz.length=es.length) (d:Array α)
 (he:∀(i:Nat) e,wz[i]? =some e->(aw e).length=p.esz/\∀(j:Nat) c,(aw e)[j]? =some c->i*p.esz+j<d.size/\aU B I c (enc d[i*p.esz+j]!)) (n:Nat) (os:Array Obj):
 cD f B I (grow (putRow enc (Sort.ahead w n) p.dI p.base d) os) (H.set id (.row wz)):=by
 obtain⟨carr,t,h1,h2,h3,h4⟩:=hs.ok id p _ hp hH;have iI:putRow enc w p.dI p.base d=w.setRow p.dI (putCells enc p.base d carr):=by
  unfold putRow mapBlock World.setRow
  congr 1
  apply Array.ext_getElem?
  intro k;simp only[Array.getElem?_modify];by_cases hk:p.dI=k
  ·subst hk;simp only[if_true,h1,Option.map_some,onCells]
  ·simp[hk]
 have eW:(putCells enc p.base d carr).size=carr.size:=by simp[putCells]
 have JU:=hs.rewrite hp hH h1 eW (wz:=wz) (by rw[hl];exact h3) (by
  rw[ch];intro i e hi;obtain⟨q1,q2⟩:=he i e hi;refine⟨q1,fun j c hj=> ?_⟩;obtain⟨q3,q4⟩:=q2 j c hj;have rm:i<wz.length:=(List.getElem?_eq_some_iff.1 hi).1;have oN:j<p.esz:=by rw[<-q1];exact(List.getElem?_eq_some_iff.1 hj).1
  have hb:p.base+i*p.esz+j<carr.size:=by
   have:(i+1)*p.esz<=es.length*p.esz:=Nat.mul_le_mul_right _ (by omega);rw[Nat.add_mul]at this;omega
  refine⟨_,?_,q4⟩;simp only[putCells,Array.getElem?_mapIdx];rw[Array.getElem?_eq_getElem hb,Option.map_some,if_pos ⟨by omega,by omega⟩,show p.base+i*p.esz+j - p.base=i*p.esz+j by omega])
 rw[<-iI]at JU;have Mf:∀k,k<(putRow enc w p.dI p.base d).heap.size->(grow (putRow enc (Sort.ahead w n) p.dI p.base d) os).heap[k]? =(putRow enc w p.dI p.base d).heap[k]? :=fun k hk=>by
  rw[putRow_ahead];exact heap_grow_old _ _ hk
 exact JU.grow ⟨rfl,rfl,rfl,by rw[size_grow,putRow_ahead];exact Nat.le_add_right _ _,Mf⟩ (dY.refl _) (fun b o hb=>by
  have:=JU.lH b o hb;rw[Mf b (Array.getElem?_eq_some_iff.1 this).1];exact this) (fun b h1 h2=>absurd h1 h2)
theorem CJ {B:List Pl} {I:IM} {w:World} {p:Pl} {l:List ByteArray} (hn:l≠ []) (h:o0 B I w p (.row (l.map .str))):p.esz=1:=by
 obtain⟨carr,t,h1,h2,h3,h4⟩:=h;cases l with
 | nil=>exact absurd rfl hn
 | cons x l=>
  rw[map_cons,fe]at h4;simpa[aw]using h4.1.symm
theorem wo {B:List Pl} {I:IM} {w:World} {p:Pl} {l:List ByteArray} (h:o0 B I w p (.row (l.map .str))) (hz:p.esz=1):(∀s∈l,s.size<=maxLen)/\Holds encStr w p.dI p.base (l.map bl).toArray:=by
 obtain⟨carr,t,h1,h2,h3,h4⟩:=h;rw[ch]at h4;have hc:∀(i:Nat) s,l[i]? =some s->carr[p.base+i]? =some (.string s)/\s.size<=maxLen:=by
  intro i s hi;obtain⟨q1,q2⟩:=h4 i (.str s) (by rw[getElem?_map,hi];rfl);obtain⟨v,q3,q4⟩:=q2 0 (.str s) rfl;simp only[aU]at q4;obtain⟨rfl,q5⟩:=q4;rw[hz,Nat.mul_one,Nat.add_zero]at q3;exact⟨q3,q5⟩
 refine⟨fun s hs=> ?_,fun j hj=> ?_⟩
 ·obtain⟨i,hi,rfl⟩:=getElem_of_mem hs;exact(hc i _ (getElem?_eq_getElem hi)).2
 ·have Nd:j<l.length:=by simpa using hj
  have:=(hc j _ (getElem?_eq_getElem Nd)).1;refine⟨?_,?_⟩
  ·simp only[World.cell?,h1,this];simp[Nd,bl,encStr]
  ·simp only[World.frozen?,h1];simp
theorem CK {B:List Pl} {I:IM} {l m:List ByteArray} (hl:∀s∈m,s.size<=maxLen) {z:Nat} (hz:z=1):∀(i:Nat) e,(m.map V.str)[i]? =some e->(aw e).length=z/\∀(j:Nat) c,(aw e)[j]? =some c->i*z+j<(m.map bl).toArray.size/\aU B I c (encStr (m.map bl).toArray[i*z+j]!):=by
 subst hz;intro i e hi;rw[getElem?_map]at hi;cases hm:m[i]? with
 | none=>rw[hm]at hi;cases hi
 | some s=>
  rw[hm]at hi;cases hi;obtain⟨hi,hs⟩:=List.getElem?_eq_some_iff.1 hm;refine⟨rfl,fun j c hj=> ?_⟩;simp only[aw]at hj;have Rt:j=0:=by have:=(List.getElem?_eq_some_iff.1 hj).1;simp at this;exact this
  subst Rt;simp at hj;subst hj;refine⟨by simpa using hi,?_⟩;have:encStr (m.map bl).toArray[i*1+0]! =.string s:=by simp[hi,hs,bl,encStr]
  rw[this];simp only[aU,true_and];exact hl s (by rw[<-hs];exact getElem_mem hi)
theorem wq (l:List (List UInt8)):(l.map lb).map bl=l:=by rw[map_map,show bl∘lb=id from funext Hp,map_id]
theorem KJ (l:List ByteArray) (s:ByteArray):s∈zV l↔s∈l:=by
 constructor
 ·intro h;obtain⟨x,hx,rfl⟩:=List.mem_map.1 h;obtain⟨t,ht,rfl⟩:=List.mem_map.1 ((rb _).mem_iff.1 hx);rw[wj];exact ht
 ·intro h;exact List.mem_map.2 ⟨bl s,(rb _).mem_iff.2 (mem_map_of_mem h),wj s⟩
theorem VR {H:List ak} {id:Nat} {l:List ByteArray} (hH:H[id]? =some (.row (l.map .str))) (hl:l.length<=1000000000) (hn:l≠ []):
 av Tryz.prog 101 [.ms id 0 l.length] H (bX (.dJ []) (H.set id (.row ((zV l).map .str)))):=by
 refine⟨by kernel_rfl,fun f B I w args hs hr=> ?_⟩;simp only[aV,aU]at hr;obtain⟨v0,l0,eD,⟨p,a,cap,hp,rfl,ha,Ib,lA,VS⟩,rfl⟩:=hr;have gp:=List.length_pos_iff.2 hn;have NW:=ha (by omega);subst NW;have dx:=hs.ok id p _ hp hH;have hz:=CJ hn dx;obtain⟨eW,hHo⟩:=wo dx hz;obtain⟨UE,_,O4⟩:=hs.own id p _ hp hH rfl;have gU:args= #[.slice (some ⟨p.dI,p.base,none⟩) l.length cap]:=by
  cases args;simp at eD;simp[eD]
 subst gU;have hc:=AnyM.slices_Sort_string Tryz.Md p.dI p.base cap (l.map bl) w hHo O4 (by simp;omega);rw[length_map]at hc;refine hc.mono ?_;rintro e w' ⟨rfl,n,os,rfl⟩;have hd:(l.map bl).mergeSort (fun x y=>decide (x<=y))=(zV l).map bl:=by rw[zV,wq];rfl
 rw[hd];refine⟨.dJ [],_,_,B,I,rfl,⟨rfl,rfl⟩,wm hs encStr hp hH (by simp[m6]) _ (CK (l:=l) (fun s hs=>eW s ((KJ l s).1 hs)) hz) n os,eA.refl _,dY.refl _,?_⟩;simp[aU,aV]
theorem Mg {H:List ak}:av Tryz.prog 101 [.ag] H (bX (.dJ []) H):=by
 refine⟨by kernel_rfl,fun f B I w args hs hr=> ?_⟩;simp only[aV,aU]at hr;obtain⟨v0,l0,eD,rfl,rfl⟩:=hr;have gU:args= #[.slice none 0 0]:=by
  cases args;simp at eD;simp[eD]
 subst gU;refine(AnyM.slices_Sort_string_none Tryz.Md none 0 w).mono ?_;rintro e w' ⟨rfl,rfl⟩;exact⟨.dJ [],_,H,B,I,rfl,⟨rfl,rfl⟩,hs,eA.refl _,dY.refl _,by simp[aU,aV]⟩
theorem Hq (l:List ByteArray):(sc l).length<=l.length:=by
 have:(Lib.compact (l.map bl)).length<=(l.map bl).length:=by
  rw[Lib.compact,Lib.compactUpTo,length_map];exact Nat.le_trans (length_filter_le _ _) (by simp)
 simpa[sc]using this
theorem Hr (l:List ByteArray):∀s∈sc l,s∈l:=by
 intro s h;obtain⟨x,hx,rfl⟩:=List.mem_map.1 h;rw[Lib.compact,Lib.compactUpTo]at hx;obtain⟨i,hi,rfl⟩:=List.mem_map.1 hx;have dF:=List.mem_range.1 (List.mem_filter.1 hi).1;have hil':i<l.length:=by simpa using dF
 simp[hil',wj]
def zp (l:List ByteArray):List ByteArray:=sc l++List.replicate (l.length - (sc l).length) ⟨#[]⟩
theorem VT {H:List ak} {id:Nat} {l:List ByteArray} (hH:H[id]? =some (.row (l.map .str))) (hl:l.length<=1000000000) (hn:l≠ []):
 av Tryz.prog 102 [.ms id 0 l.length] H (bX (.ms id 0 (sc l).length) (H.set id (.row ((zp l).map .str)))):=by
 refine⟨by kernel_rfl,fun f B I w args hs hr=> ?_⟩;simp only[aV,aU]at hr;obtain⟨v0,l0,eD,⟨p,a,cap,hp,rfl,ha,Ib,lA,VS⟩,rfl⟩:=hr;have gp:=List.length_pos_iff.2 hn;have NW:=ha (by omega);subst NW;have dx:=hs.ok id p _ hp hH;have hz:=CJ hn dx;obtain⟨eW,hHo⟩:=wo dx hz;have gU:args= #[.slice (some ⟨p.dI,p.base,none⟩) l.length cap]:=by
  cases args;simp at eD;simp[eD]
 subst gU;have hc:=AnyG.slices_Compact_string Tryz.Me p.dI p.base cap (l.map bl) w hHo (by simp;omega) (by simp;omega);rw[length_map]at hc;refine hc.mono ?_;rintro e w' ⟨rfl,q,rfl⟩;have hd:Lib.compact (l.map bl)++List.replicate (l.length - (Lib.compact (l.map bl)).length) []=(zp l).map bl:=by
  rw[zp,map_append,map_replicate,sc,wq,length_map];rfl
 rw[hd];have eT:=Hq l;have hr:=wm hs encStr (wz:=(zp l).map V.str) hp hH (by simp[zp];omega) _ (CK (l:=l) (fun s hs=>by
  rw[zp,mem_append]at hs;rcases hs with hs | hs
  ·exact eW s (Hr l s hs)
  ·obtain⟨_,rfl⟩:=List.mem_replicate.1 hs;exact Nat.zero_le _) hz) q #[]
 rw[grow_empty]at hr;refine⟨.ms id 0 (sc l).length,_,_,B,I,rfl,⟨rfl,rfl⟩,hr,eA.refl _,dY.refl _,?_⟩;simp only[aU];refine⟨p,_,cap,hp,by rw[sc,length_map],fun _=>by simp,by omega,lA,VS⟩
theorem Mh {H:List ak}:av Tryz.prog 102 [.ag] H (bX .ag H):=by
 refine⟨by kernel_rfl,fun f B I w args hs hr=> ?_⟩;simp only[aV,aU]at hr;obtain⟨v0,l0,eD,rfl,rfl⟩:=hr;have gU:args= #[.slice none 0 0]:=by
  cases args;simp at eD;simp[eD]
 subst gU;refine(AnyG.slices_Compact_string_empty Tryz.Me none 0 w).mono ?_;rintro e w' ⟨rfl,rfl⟩;exact⟨.ag,_,H,B,I,rfl,⟨rfl,rfl⟩,hs,eA.refl _,dY.refl _,by simp[aU]⟩
mutual
def Mi (h:St->List ByteArray):St->List ByteArray
 | .mk k r t v l e a b p ps=>h (.mk k r t v l e a b p ps)++(lN h a++lN h b)
def lN (h:St->List ByteArray):List St->List ByteArray
 | []=> []
 | x::l=>Mi h x++lN h l
end
theorem oI (h:St->List ByteArray):∀(a b:List St),lN h (a++b)=lN h a++lN h b
 | [],b=>by simp[lN]
 | x::a,b=>by rw[cons_append,lN,lN,oI h a b,append_assoc]
def GI (o:Nat) (kv:V) (acc:List ByteArray) (H:List ak):Prop:=H[o]? =some (.row [kv])/\OV H kv (acc.map .str)/\a7 kv o
def GF (o:Nat) (H:List ak) (kv:V) (H':List ak) (bN:V):Prop:=H.length<=H'.length/\∀j,j<H.length->j≠o->a7 kv j->H'[j]? =H[j]? /\a7 bN j
theorem GF.refl {o:Nat} {H:List ak} {kv:V}:GF o H kv H kv:=⟨Nat.le_refl _,fun j _ _ h=>⟨rfl,h⟩⟩
theorem GF.trans {o:Nat} {H H' VU:List ak} {kv bN VW:V} (h:GF o H kv H' bN) (k:GF o H' bN VU VW):GF o H kv VU VW:=
 ⟨Nat.le_trans h.1 k.1,fun j hj sy hk=>by
  obtain⟨h1,h2⟩:=h.2 j hj sy hk;obtain⟨h3,h4⟩:=k.2 j (Nat.lt_of_lt_of_le hj h.1) sy h2;exact⟨h3.trans h1,h4⟩⟩
theorem GF.app {o:Nat} {H:List ak} {kv:V} (L:List ak):GF o H kv (H++L) kv:=⟨by simp,fun j hj _ h=>⟨getElem?_append_left hj,h⟩⟩
theorem GI.app {o:Nat} {H:List ak} {kv:V} {acc:List ByteArray} (h:GI o kv acc H) (L:List ak):GI o kv acc (H++L):=
 ⟨by rw[getElem?_append_left (List.getElem?_eq_some_iff.1 h.1).1];exact h.1,h.2.1.app L,h.2.2⟩
theorem GI.lt {o:Nat} {H:List ak} {kv:V} {acc:List ByteArray} (h:GI o kv acc H):o<H.length:=(List.getElem?_eq_some_iff.1 h.1).1
def GK (o:Nat) (H:List ak) (kv:V) (acc:List ByteArray) (r0:V):V->List ak->Prop:=fun r H'=>r=r0/\∃bN,GI o bN acc H'/\GF o H kv H' bN
def CBG (g:FuncId) (first bB:List V) (o:Nat) (h:St->List ByteArray):Prop:=
 ∀acc n x H kv,GI o kv acc H->(acc++h x).length<=1000000000->av Tryz.prog g (first++(.int .i64 n::encS x::bB)) H (GK o H kv (acc++h x) (.dJ []))
theorem VX (h:St->List ByteArray) (g:FuncId) (first bB:List V) (o:Nat) (j1:CBG g first bB o h) (xs:List St)
 (ih:∀k r t v l e a b p ps,St.mk k r t v l e a b p ps∈xs->∀(acc:List ByteArray) (H:List ak) (kv:V) (n:Int),0<=n->GI o kv acc H->
   ((acc++lN h a).length<=1000000000->n+ai a<=1000000->av Tryz.prog 149 [.fs (a.map encS),.int .i64 n,.a6 g first bB] H (GK o H kv (acc++lN h a) (.int .i64 (n+ai a))))/\
   ((acc++lN h b).length<=1000000000->n+ai b<=1000000->av Tryz.prog 149 [.fs (b.map encS),.int .i64 n,.a6 g first bB] H (GK o H kv (acc++lN h b) (.int .i64 (n+ai b)))))
 (acc:List ByteArray) (H:List ak) (kv:V) (n:Int) (lV:0<=n) (tQ:GI o kv acc H) (hl:(acc++lN h xs).length<=1000000000) (hn:n+ai xs<=1000000):
 av Tryz.prog 149 [.fs (xs.map encS),.int .i64 n,.a6 g first bB] H (GK o H kv (acc++lN h xs) (.int .i64 (n+ai xs))):=by
 refine av.intro c51 400 (by simp) ?_;simp -implicitDefEqProofs only[YK,go_sem];intro hlen;refine aL (fun m e H1=>∃pre post kv1,xs=pre++post/\m=post.length/\e 1=.int .i64 (n+ai pre)/\e 2=.a6 g first bB/\e 9=.fs (xs.map encS)/\e 10=.int .i64 xs.length/\e 11=.int .i64 pre.length/\GI o kv1 (acc++lN h pre) H1/\GF o H kv H1 kv1) xs.length
  ⟨[],xs,kv,by simp[az,aC,ai,lN,GF.refl,tQ]⟩ ?_
 rintro m e H1 ⟨pre,post,kv1,ao,rfl,h1,h2,h9,eb,ez,Ht,VY⟩;cases post with
 | nil=>
  have ev:pre=xs:=by rw[ao];simp
  simp -implicitDefEqProofs only[h1,h2,h9,eb,ez,aI ao,go_sem];simp -implicitDefEqProofs only[YL,push_cast,go_sem_proc];rw[ev]at Ht⊢;exact⟨rfl,kv1,Ht,VY⟩
 | cons y post=>
  have hg:=aO encS ao;have zP:ai xs=ai pre+(dA y+ai post):=by rw[ao,aX,ai]
  have hey:lN h xs=lN h pre++(Mi h y++lN h post):=by rw[ao,oI,lN]
  have Dv:ai (pre++ [y])=ai pre+dA y:=by rw[aX];simp[ai]
  have Gz:lN h (pre++ [y])=lN h pre++Mi h y:=by rw[oI];simp[lN]
  have da:y∈xs:=by rw[ao];simp
  have Du:=j1 (acc++lN h pre) (n+ai pre) y;rcases y with⟨k,r,t,v,l,⟨ek,en,es,aR⟩,a,b,p,ps⟩
  have QM:=ih k r t v l (.mk ek en es aR) a b p ps da;simp only[dA]at zP Dv;simp only[Mi]at hey Gz;rw[hey]at hl;simp only[length_append]at hl QM Du;rw[ay]at hg Du;have w1:=bP (x:=n+ai pre+1) (by omega) (by omega);have L5:a7 kv1 H1.length:=Ht.2.1.mB (Nat.le_refl _);have hoL:o<H1.length:=Ht.lt;simp -implicitDefEqProofs only[h1,h2,h9,eb,ez,an ao,aa ao hlen,hg,go_sem];refine av.mono (Du _ kv1 (Ht.app _) (by omega)) ?_;rintro _ H2 ⟨rfl,fH,hgi2,PM⟩;obtain⟨jI,ir⟩:=PM.2 H1.length (by simp) (by omega) L5;rw[getElem?_append_right (Nat.le_refl _),Nat.sub_self,getElem?_cons_zero]at jI;simp -implicitDefEqProofs only[h1,h2,h9,eb,ez,an ao,aa ao hlen,hg,jI,w1,go_sem];refine av.mono ((QM _ H2 fH (n+ai pre+1) (by omega) hgi2).1 (by simp only[length_append];omega) (by omega)) ?_;rintro _ H3 ⟨rfl,Az,hgi3,VZ⟩;obtain⟨QG,vn⟩:=VZ.2 H1.length (by have:=PM.1;simp at this;omega) (by omega) ir;rw[jI]at QG;simp -implicitDefEqProofs only[h1,h2,h9,eb,ez,an ao,aa ao hlen,hg,QG,w1,go_sem];refine av.mono ((QM _ H3 Az (n+ai pre+1+ai a) (by omega) hgi3).2 (by simp only[length_append];omega) (by omega)) ?_;rintro _ H4 ⟨rfl,LL,hgi4,hgf4⟩;simp -implicitDefEqProofs only[h1,h2,h9,eb,ez,an ao,aa ao hlen,hg,go_sem];refine⟨_,Nat.lt_succ_self _,pre++ [.mk k r t v l (.mk ek en es aR) a b p ps],post,LL,by simp[ao],rfl,?_,by simp,?_,((VY.trans (GF.app _)).trans PM).trans (VZ.trans hgf4)⟩
  ·rw[Dv];simp only[Int.natCast_add,Int.natCast_one];congr 1;omega
  ·rw[Gz];simpa only[append_assoc]using hgi4
theorem PN (h:St->List ByteArray) (g:FuncId) (first bB:List V) (o:Nat) (j1:CBG g first bB o h):∀(m:Nat) (xs:List St),SizeOf.sizeOf xs<m->∀(acc:List ByteArray) (H:List ak) (kv:V) (n:Int),0<=n->GI o kv acc H->(acc++lN h xs).length<=1000000000->n+ai xs<=1000000->
 av Tryz.prog 149 [.fs (xs.map encS),.int .i64 n,.a6 g first bB] H (GK o H kv (acc++lN h xs) (.int .i64 (n+ai xs)))
 | 0,xs,h=>absurd h (Nat.not_lt_zero _)
 | m+1,xs,hm=>fun acc H kv n h0 tQ hl hn=>VX h g first bB o j1 xs (fun k r t v l e a b p ps da acc H kv n h0 tQ=>by
  have hs:=sizeOf_lt_of_mem da;simp only[St.mk.sizeOf_spec]at hs;exact⟨fun hl hc=>PN h g first bB o j1 m a (by omega) acc H kv n h0 tQ hl hc,fun hl hc=>PN h g first bB o j1 m b (by omega) acc H kv n h0 tQ hl hc⟩) acc H kv n h0 tQ hl hn
theorem jV {s:ByteArray} (h:dt s=true):s≠⟨#[]⟩:=by
 rintro rfl;simp[dt,ByteArray.size]at h
theorem Ek {s:ByteArray} (h:¬nE s=true):s=⟨#[]⟩:=by simpa[nE]using h
mutual
theorem PO:∀(s:St) (d:Int) (pr:Int) (la:Bool),sF s d=0->∀y∈nu s pr la,∃d',kq y.1 d'=0
 | .mk k r t v l e a b p ps,d,pr,la,h=>by
  intro y hy;simp only[sF]at h;split at h
  ·rename_i h1;exact absurd h h1
  rename_i h1;split at h
  ·rename_i h2;exact absurd h h2
  rename_i h2;simp only[nu,mem_cons,mem_append]at hy;rcases hy with rfl | hy | hy
  ·exact⟨d,by simpa using h1⟩
  ·exact oJ a (d+1) pr la (by simpa using h2) y hy
  ·exact oJ b (d+1) pr la h y hy
theorem oJ:∀(l:List St) (d:Int) (pr:Int) (la:Bool),gA l d=0->∀y∈gC l pr la,∃d',kq y.1 d'=0
 | [],d,pr,la,h=>by intro y hy;simp[gC]at hy
 | s::l,d,pr,la,h=>by
  intro y hy;simp only[gA]at h;split at h
  ·rename_i h1;exact absurd h h1
  rename_i h1;simp only[gC,mem_append]at hy;rcases hy with hy | hy
  ·exact PO s d pr _ (by simpa using h1) y hy
  ·exact oJ l d pr la h y hy
end
def KOk (k:Int) (r t v l:ByteArray) (nn:Bool) (na nb:Nat) (p:ByteArray) (ps:List ByteArray):Prop:=
 ((k=1\/k=2)/\dt r=true/\dt t=true/\ps=[]/\p=⟨#[]⟩/\na=0/\nb=0)\/(k=3/\dt r=true/\t=⟨#[]⟩/\ps=[]/\p=⟨#[]⟩/\na=0/\nb=0)\/(k=4/\dt r=true/\t=⟨#[]⟩/\ps=[]/\p=⟨#[]⟩)\/
 (k=5/\r=⟨#[]⟩/\t=⟨#[]⟩/\v=⟨#[]⟩/\nn=true/\na=0/\nb=0/\dt p=true/\ps≠ []/\∀s∈ps,dt s=true)
theorem A6 {k:Int} {r t v l:ByteArray} {e:Ex} {nn:Bool} {na nb:Nat} {p:ByteArray} {ps:List ByteArray} {d:Int} (h:rA k r t v l e nn na nb p ps d=0):KOk k r t v l nn na nb p ps:=by
 rw[rA]at h;split at h;·cases h
 split at h;·cases h
 rename_i hk;split at h;·cases h
 rename_i hf;split at h;·cases h
 rename_i hn;split at h
 ·rename_i h5;exact absurd h h5.2
 have hf:=fun hc=>hf (by rw[yK,if_pos hc];decide)
 have hn:=fun hc=>hn (by rw[zO,if_pos hc];decide)
 change¬_ at hf;change¬_ at hn;simp only[not_or]at hf hn;obtain⟨f1,f2,f3,f4,f5,f6,f7⟩:=hf;obtain⟨n1,n2,n3,n4,n5⟩:=hn;have e7:1<=k/\k<=4->p=⟨#[]⟩/\ps=[]:=fun Iu=>by
  have h7:¬(nE p=true\/ps.length>0):=fun hc=>f7 ⟨Iu,hc⟩
  exact⟨Ek (fun hc=>h7 (.inl hc)),eq_nil_of_length_eq_zero (by
   have h8:¬ps.length>0:=fun hc=>h7 (.inr hc)
   omega)⟩
 have e6:k≠4->na=0/\nb=0:=fun Iu=>by
  have h6:¬(na+nb>0):=fun hc=>f6 ⟨Iu,hc⟩
  omega
 have hk:k=1\/k=2\/k=3\/k=4\/k=5:=by omega
 rcases hk with rfl | rfl | rfl | rfl | rfl
 ·obtain⟨h1,h2⟩:=e7 (by decide);obtain⟨h3,h4⟩:=e6 (by decide);exact .inl ⟨.inl rfl,by simpa using n1,by simpa using n2,h2,h1,h3,h4⟩
 ·obtain⟨h1,h2⟩:=e7 (by decide);obtain⟨h3,h4⟩:=e6 (by decide);exact .inl ⟨.inr rfl,by simpa using n1,by simpa using n2,h2,h1,h3,h4⟩
 ·obtain⟨h1,h2⟩:=e7 (by decide);obtain⟨h3,h4⟩:=e6 (by decide);exact .inr (.inl ⟨rfl,by simpa using n1,Ek (fun hc=>f2 ⟨by decide,hc⟩),h2,h1,h3,h4⟩)
 ·obtain⟨h1,h2⟩:=e7 (by decide);exact .inr (.inr (.inl ⟨rfl,by simpa using n1,Ek (fun hc=>f2 ⟨by decide,hc⟩),h2,h1⟩))
 ·obtain⟨h3,h4⟩:=e6 (by decide);simp only[ne_eq,not_true_eq_false,if_false]at h;split at h;·cases h
  rename_i u7;split at h;·cases h
  split at h;·cases h
  rename_i LQ;refine .inr (.inr (.inr ⟨rfl,Ek (fun hc=>f1 ⟨by decide,hc⟩),Ek (fun hc=>f2 ⟨by decide,hc⟩),Ek (fun hc=>f3 ⟨by decide,hc⟩),?_,h3,h4,by simpa using n5,fun hc=>u7 (by rw[hc];rfl),fun s hs=> ?_⟩))
  ·have:=fun hc=>f5 ⟨by decide,hc⟩
   simpa using this
  ·simp only[any_eq_true,not_exists,not_and,Bool.not_eq_true,Bool.not_eq_false']at LQ;exact LQ s hs
theorem qe {P:bH} (h:lK P=0):gA P.main 1=0/\∀q∈P.procs,gA q.steps 1=0:=⟨(mD (y8 h)).2.1,fun q hq=>(sJ h q hq).2.1⟩
theorem PQ {P:bH} (h:lK P=0):∀y∈cw P,∃d,kq y.1 d=0:=by
 intro y hy;simp only[cw,mem_append]at hy;rcases hy with hy | hy
 ·exact oJ _ 1 _ _ (qe h).1 y hy
 ·obtain⟨j,q,h1,h2⟩:=xm hy;exact oJ _ 1 _ _ ((qe h).2 q (mem_of_getElem? h1)) y h2
def hR:St->List ByteArray
 | .mk _ r t _ _ _ _ _ _ ps=>r::t::ps
mutual
theorem KK (h:St->List ByteArray) (s:ByteArray):∀(x:St) (pr:Int) (la:Bool),s∈Mi h x↔∃y∈nu x pr la,s∈h y.1
 | .mk k r t v l e a b p ps,pr,la=>by
  have h1:=sM h s a pr la;have h2:=sM h s b pr la;simp only[Mi,nu,mem_append,mem_cons,h1,h2];constructor
  ·rintro(h | ⟨y,hy,hs⟩ | ⟨y,hy,hs⟩)
   ·exact⟨_,.inl rfl,h⟩
   ·exact⟨y,.inr (.inl hy),hs⟩
   ·exact⟨y,.inr (.inr hy),hs⟩
  ·rintro⟨y,rfl | hy | hy,hs⟩
   ·exact .inl hs
   ·exact .inr (.inl ⟨y,hy,hs⟩)
   ·exact .inr (.inr ⟨y,hy,hs⟩)
theorem sM (h:St->List ByteArray) (s:ByteArray):∀(l:List St) (pr:Int) (la:Bool),s∈lN h l↔∃y∈gC l pr la,s∈h y.1
 | [],pr,la=>by simp[lN,gC]
 | x::l,pr,la=>by
  have h1:=KK h s x pr (la && l.isEmpty);have h2:=sM h s l pr la;simp only[lN,gC,mem_append,h1,h2];constructor
  ·rintro(⟨y,hy,hs⟩ | ⟨y,hy,hs⟩)
   ·exact⟨y,.inl hy,hs⟩
   ·exact⟨y,.inr hy,hs⟩
  ·rintro⟨y,hy | hy,hs⟩
   ·exact .inl ⟨y,hy,hs⟩
   ·exact .inr ⟨y,hy,hs⟩
end
def uA:St->List ByteArray
 | .mk k r t _ _ _ _ _ _ ps=>dS k r t ps
def rR (l:List mV):List ByteArray:=l.flatMap fun y=>if y.2.1<0 then uA y.1 else[]
theorem CL {P:bH} {s:ByteArray}:s∈rR (cw P)↔∃y∈gC P.main (-1) true,s∈uA y.1:=by
 simp only[rR,mem_flatMap,cw,mem_append];constructor
 ·rintro⟨y,hy,hs⟩;split at hs
  ·rename_i ct;rcases hy with hy | hy
   ·exact⟨y,hy,hs⟩
   ·obtain⟨j,q,h1,h2⟩:=xm hy;have:=fp _ _ _ y h2;omega
  ·simp at hs
 ·rintro⟨y,hy,hs⟩;have:=fp _ _ _ y hy;exact⟨y,.inl hy,by rw[if_pos (by omega)];exact hs⟩
def lv (P:bH):List ByteArray:=iB (rR (cw P))
theorem El {P:bH} (h:lK P=0):nz (iB (lN hR P.main))=lv P:=by
 refine PL (fun s=> ?_);rw[CL,sM hR s P.main (-1) true];have key:∀y∈gC P.main (-1) true,(s∈hR y.1/\s≠⟨#[]⟩)↔s∈uA y.1:=by
  intro y hy;obtain⟨d,hd⟩:=oJ _ 1 _ _ (qe h).1 y hy;obtain⟨⟨k,r,t,v,l,⟨ek,en,es,aR⟩,a,b,p,ps⟩,pr,la⟩:=y;simp only[kq]at hd;simp only[hR,uA,dS,mem_cons];rcases A6 hd with⟨hk,hr,ht,jA,_⟩ | ⟨rfl,hr,ht,jA,_⟩ | ⟨rfl,hr,ht,jA,_⟩ | ⟨rfl,hr,ht,_,_,_,_,_,_,jA⟩
  ·have h1:=jV hr;have h2:=jV ht;have h5:k≠5:=by omega
   rw[if_neg h5,if_pos hk];subst jA;simp only[mem_cons,not_mem_nil,or_false];constructor
   ·rintro⟨h,_⟩;exact h
   ·rintro(rfl | rfl)
    ·exact⟨.inl rfl,h1⟩
    ·exact⟨.inr rfl,h2⟩
  ·have h1:=jV hr;subst ht jA;simp only[show¬((3:Int)=5) by decide,show¬((3:Int)=1\/(3:Int)=2) by decide,if_false,mem_cons,not_mem_nil,or_false];constructor
   ·rintro⟨rfl | rfl,h⟩
    ·rfl
    ·exact absurd rfl h
   ·rintro rfl;exact⟨.inl rfl,h1⟩
  ·have h1:=jV hr;subst ht jA;simp only[show¬((4:Int)=5) by decide,show¬((4:Int)=1\/(4:Int)=2) by decide,if_false,mem_cons,not_mem_nil,or_false];constructor
   ·rintro⟨rfl | rfl,h⟩
    ·rfl
    ·exact absurd rfl h
   ·rintro rfl;exact⟨.inl rfl,h1⟩
  ·subst hr ht;simp only[if_true];constructor
   ·rintro⟨rfl | rfl | h,h0⟩
    ·exact absurd rfl h0
    ·exact absurd rfl h0
    ·exact h
   ·intro h;exact⟨.inr (.inr h),jV (jA s h)⟩
 constructor
 ·rintro⟨⟨y,hy,hs⟩,h0⟩;exact⟨y,hy,(key y hy).1 ⟨hs,h0⟩⟩
 ·rintro⟨y,hy,hs⟩;obtain⟨h1,h2⟩:=(key y hy).2 hs;exact⟨⟨y,hy,h1⟩,h2⟩
theorem Hu {P:bH} (h:lK P=0):∀s∈lv P,dt s=true:=by
 intro s hs;rw[lv,re,CL]at hs;obtain⟨y,hy,hs⟩:=hs;obtain⟨d,hd⟩:=oJ _ 1 _ _ (qe h).1 y hy;obtain⟨⟨k,r,t,v,l,⟨ek,en,es,aR⟩,a,b,p,ps⟩,pr,la⟩:=y;simp only[kq]at hd;simp only[uA,dS]at hs;rcases A6 hd with⟨hk,hr,ht,jA,_⟩ | ⟨rfl,hr,ht,jA,_⟩ | ⟨rfl,hr,ht,jA,_⟩ | ⟨rfl,hr,ht,_,_,_,_,_,_,jA⟩
 ·have h5:k≠5:=by omega
  rw[if_neg h5,if_pos hk]at hs;simp at hs;rcases hs with rfl | rfl
  ·exact hr
  ·exact ht
 ·simp at hs;rw[hs];exact hr
 ·simp at hs;rw[hs];exact hr
 ·simp at hs;exact jA s hs
end Go.Proofs.YtdgoeblpcnjlbaaGreatDoor.Av
namespace Go.Proofs
open Go.RowKit List
theorem Tryz.Mj (a:Option Addr) (len cap:Nat) (w:World) (h1:len<=cap) (h2:cap<=9223372036854775807):Calls Tryz.prog 151 #[.slice a len cap] w fun e w'=>e=.returned (.slice a len len)/\w'=w:=by
 go_enter Tryz.func151,Tryz.ntmps151
 go_wp2
 go_ret
 exact⟨rfl,rfl⟩
end Go.Proofs
namespace Go.Proofs.YtdgoeblpcnjlbaaGreatDoor.Av
open Go.RowKit List
theorem V1 (o:Nat):CBG 150 [] [.ptr o 0 0] o hR:=by
 intro acc n x H kv tQ hl;have holt:=tQ.lt;obtain⟨Lb,bm,fI⟩:=tQ;rcases x with⟨k,r,t,v,l,⟨ek,en,es,aR⟩,a,b,p,ps⟩
 simp only[hR,length_append,length_cons]at hl⊢;rw[ay];generalize hbx:V.agg [.int .i64 k,.str r,.str t,.str v,.str l,.int .i64 ek,.int .i64 en,.str es,.fs (aR.map bu),.fs (a.map encS),.fs (b.map encS),.str p,.fs (ps.map .str)]=bx at*;have hA:∀l:List ak,(H++l)[o]? =some (.row [kv]):=fun l=>by rw[getElem?_append_left holt];exact Lb
 have cP:=bm.one;have hkL:a7 kv H.length:=bm.mB (Nat.le_refl _);refine av.intro c295 300 (by simp) ?_;subst hbx;simp -implicitDefEqProofs only[Ve,Lb,go_sem];refine aD ?_;simp -implicitDefEqProofs only[hA,cP,go_sem];refine cu (bm.app _) (fun i o l h=>by cases h) (bV _) (by simp only[length_map,length_cons,length_nil];omega) ?_;rintro kv1 H1 pK AA Ef;obtain⟨g0,k0⟩:=Ef o (by simp;omega) fI;obtain⟨g1,k1⟩:=Ef H.length (by simp) hkL;rw[hA]at g0;rw[l7,getElem?_cons_zero]at g1;have j8:=pK.one;simp -implicitDefEqProofs only[hA,cP,g0,g1,j8,go_sem];refine⟨by simp[all_eq_true,aw,V.one],?_⟩;refine cu (acc:=(acc.map .str)++ [.str r,.str t]) pK (fun i o l h=>by cases h) (by
  have:=bV (acc++ [r,t]);simpa using this) (by simp only[length_map,length_cons,length_nil,length_append];omega) ?_
 rintro fH H2 bJ rZ iS;have va:o<H1.length:=(List.getElem?_eq_some_iff.1 g0).1;obtain⟨g2,k2⟩:=iS o va k0;rw[g0]at g2;have LD:=bJ.one;have hv3:=bJ.cS;simp only[V.one]at hv3;have fi:GK o H kv (acc++r::t::ps) (.dJ []) (.dJ []) (H2.set o (.row [fH])):=by
  have C9:o<H2.length:=(List.getElem?_eq_some_iff.1 g2).1;refine⟨rfl,fH,⟨by rw[getElem?_set_self C9],?_,k2⟩,by simp at AA;simp;omega,fun j hj sy hk=> ?_⟩
  ·have:=bJ.set (x:=.row [fH]) k2;simpa using this
  ·obtain⟨q1,q2⟩:=Ef j (by simp;omega) hk;obtain⟨q3,q4⟩:=iS j (by simp at AA;omega) q2;rw[getElem?_set_ne (Ne.symm sy),q3,q1,getElem?_append_left hj];exact⟨rfl,q4⟩
 rcases bm with⟨hz,rfl⟩ | ⟨hz,id,rfl,hid⟩
 ·simp -implicitDefEqProofs only[hA,cP,g0,g1,g2,j8,LD,hv3,go_sem];simp -implicitDefEqProofs only[Pp,push_cast,go_sem_proc];exact fi
 ·simp -implicitDefEqProofs only[hA,cP,g0,g1,g2,j8,LD,hv3,go_sem];simp -implicitDefEqProofs only[Pp,push_cast,go_sem_proc];simpa using fi
theorem a296 {H:List ak} {id off len:Nat}:av Tryz.prog 151 [.ms id off len] H (bX (.ms id off len) H):=by
 refine⟨by kernel_rfl,fun f B I w args hs hr=> ?_⟩;simp only[aV,aU]at hr;obtain⟨v0,l0,eD,⟨p,a,cap,hp,rfl,ha,Ib,lA,VS⟩,rfl⟩:=hr;have gU:args= #[.slice a len cap]:=by
  cases args;simp at eD;simp[eD]
 subst gU;refine(Tryz.Mj a len cap w Ib (by unfold maxLen at lA;omega)).mono ?_;rintro e w' ⟨rfl,rfl⟩;refine⟨.ms id off len,_,_,B,I,rfl,⟨rfl,rfl⟩,hs,eA.refl _,dY.refl _,?_⟩;simp only[aU];refine⟨p,a,len,hp,rfl,fun h=>ha (by omega),Nat.le_refl _,by omega,?_⟩;have:(off+len)*p.esz<=(off+cap)*p.esz:=Nat.mul_le_mul_right _ (by omega);omega
theorem V2 {H:List ak}:av Tryz.prog 151 [.ag] H (bX .ag H):=by
 refine⟨by kernel_rfl,fun f B I w args hs hr=> ?_⟩;simp only[aV,aU]at hr;obtain⟨v0,l0,eD,rfl,rfl⟩:=hr;have gU:args= #[.slice none 0 0]:=by
  cases args;simp at eD;simp[eD]
 subst gU;refine(Tryz.Mj none 0 0 w (Nat.le_refl _) (by omega)).mono ?_;rintro e w' ⟨rfl,rfl⟩;exact⟨.ag,_,_,B,I,rfl,⟨rfl,rfl⟩,hs,eA.refl _,dY.refl _,by simp[aU]⟩
mutual
theorem KL:∀x:St,(Mi hR x).length<=2*wS x
 | .mk k r t v l e a b p ps=>by
  have h1:=sN a;have h2:=sN b;simp only[Mi,hR,length_append,length_cons,wS];omega
theorem sN:∀l:List St,(lN hR l).length<=2*dn l
 | []=>by simp[lN]
 | x::l=>by
  have h1:=KL x;have h2:=sN l;simp only[lN,length_append,dn];omega
end
theorem wu:iB []=[]:=by
 cases h:iB []with
 | nil=>rfl
 | cons x l=>exact absurd ((re [] x).1 (by rw[h];simp)) (by simp)
theorem Hv {l:List ByteArray} (h:l≠ []):iB l≠ []:=by
 cases l with
 | nil=>exact absurd rfl h
 | cons x l=>exact fun e=>by have:=(re (x::l) x).2 (by simp);rw[e]at this;cases this
theorem Hw {l:List ByteArray} (h:l≠ []):zV l≠ []:=fun e=>h (eq_nil_of_length_eq_zero (by rw[<-m6,e];rfl))
theorem KM (xs:List Pr) (main:List St):dn main<=iE ⟨xs,main⟩:=by simp only[iE];omega
theorem t245 (P:bH) (hc:total P<=1000000) (hw:iE P<=1000000):af Tryz.prog 73 [aP P] (·=.fs ((nz (iB (lN hR P.main))).map .str)):=by
 rcases P with⟨xs,main⟩
 have lA:ai main<=1000000:=by have:total ⟨xs,main⟩=ai main+bD xs:=rfl;omega
 have QY:=KM xs main;have kD:=sN main;have EO:=PN hR 150 [] [.ptr 1 0 0] 1 (V1 1) _ main (Nat.lt_succ_self _) [] [ak.row [.agg [.fs (xs.map aF),.fs (main.map encS)]],ak.row [.ag]] .ag 0 (by omega) ⟨rfl,.inl ⟨rfl,rfl⟩,fun a b h=>by cases h⟩ (by simp only[nil_append];omega) (by omega);rw[nil_append]at EO;refine af.intro c245 300 (by simp) 20 ?_;simp -implicitDefEqProofs only[UX,aP,go_sem];refine av.mono EO ?_;rintro _ H1 ⟨rfl,kv,⟨tN,bm,iT⟩,_⟩;generalize lN hR main=acc at*;rcases bm with⟨hz,rfl⟩ | ⟨hz,id,rfl,hid⟩
 ·have qJ:acc=[]:=by simpa using hz
  subst qJ;have Hx:=(List.getElem?_eq_some_iff.1 tN).1;simp -implicitDefEqProofs only[tN,Hx,ne_eq,not_false_eq_true,fv,fK,Nat.reduceMul,go_sem];repeat' (first | ((first | (with_reducible first | refine bR Mg ?_ | refine bR Mh ?_ | refine bR V2 ?_) | (with_reducible refine aD ?_));simp -implicitDefEqProofs only[tN,Hx,ne_eq,not_false_eq_true,fv,fK,Nat.reduceMul,go_sem]) | (with_reducible refine aA.mk ?_ ?_) | (with_reducible refine And.intro ?_ ?_) | ((with_reducible refine bz ?_);simp -implicitDefEqProofs only[G1,Hx,wu,nz,ne_eq,not_false_eq_true,fv,fK,Nat.reduceMul,push_cast,go_sem_proc]) | intro _)
  all_goals first | rfl | simp_all
 ·have qJ:acc≠ []:=by simpa using hz
  have Hx:=(List.getElem?_eq_some_iff.1 tN).1;have jl:=(List.getElem?_eq_some_iff.1 hid).1;have KN:id≠1:=fun e=>iT 0 (acc.map V.str).length (by rw[e])
  have vd:1≠id:=fun e=>KN e.symm
  have hns:=Hv qJ;have hns':(sc (zV acc)).length≠0:=fun e=>hns (eq_nil_of_length_eq_zero e)
  simp only[length_map]at tN iT⊢;have ha:=VR hid (by omega) qJ;have hb:=VT (H:=H1.set id (.row ((zV acc).map .str))) (id:=id) (by rw[getElem?_set_self jl]) (by rw[m6];omega) (Hw qJ);rw[m6]at hb;change av Tryz.prog 102 [.ms id 0 acc.length] _ (bX (.ms id 0 (iB acc).length) _)at hb;obtain⟨tl,Rr⟩:∃tl,zp (zV acc)=iB acc++tl:=⟨_,rfl⟩;rw[Rr]at hb;cases W8:iB acc with
  | nil=>exact absurd W8 hns
  | cons x nl=>
   rw[W8]at hb;have hp:(0:Int)<((nl.length+1:Nat):Int):=by omega
   have Q4:df 1 (V.str x::(nl++tl).map V.str):=fun e h=>by simp at h;subst h;rfl
   have lX:∀(H:List ak),H[id]? =some (.row (V.str x::(nl++tl).map V.str))->fz H 20 (.ms id 0 (nl.length+1))=some (.fs ((x::nl).map .str))/\fz H 20 (.ms id 1 nl.length)=some (.fs (nl.map .str)):=fun H h=>by
    have e1:(V.str x::(nl++tl).map V.str)=((x::nl)++tl).map V.str:=by simp
    rw[iu,iu,h,e1,ef,ef];have e2:((((x::nl)++tl).map V.str).drop 0).take (nl.length+1)=(x::nl).map V.str:=by rw[drop_zero,<-map_take];simp
    have e3:((((x::nl)++tl).map V.str).drop 1).take nl.length=nl.map V.str:=by simp
    have e4:∀l:List ByteArray,eI (fz H 19) (l.map V.str)=some (l.map V.str):=fun l=>dg _ _ (fun x=>dN _ _ x) l
    rw[e2,e3,e4,e4,if_pos (by simp<;>omega),if_pos (by simp<;>omega)];exact⟨rfl,rfl⟩
   have pg:nl.length+1 - 1=nl.length:=by omega
   simp -implicitDefEqProofs only[tN,Hx,jl,KN,vd,hp,Q4,pg,ne_eq,not_false_eq_true,fv,fK,Nat.reduceMul,go_sem];repeat' (first | ((first | (with_reducible first | refine bR ha ?_ | refine bR hb ?_) | (with_reducible refine aD ?_));simp -implicitDefEqProofs only[tN,Hx,jl,KN,vd,hp,Q4,pg,ne_eq,not_false_eq_true,fv,fK,Nat.reduceMul,go_sem]) | (with_reducible refine aA.mk ?_ ?_) | (with_reducible refine And.intro ?_ ?_) | ((with_reducible refine bz ?_);simp -implicitDefEqProofs only[G1,Hx,ne_eq,not_false_eq_true,fv,fK,Nat.reduceMul,push_cast,go_sem_proc]) | intro _)
   all_goals first | omega | (simp;done) | skip
   all_goals refine bR a296 ?_
   all_goals simp -implicitDefEqProofs only[tN,Hx,jl,KN,vd,hp,Q4,ne_eq,not_false_eq_true,fv,fK,Nat.reduceMul,go_sem]
   all_goals rename_i hx
   ·have hx:x=⟨#[]⟩:=by simpa using hx
    have hq:=(lX ((H1.set id (ak.row (V.str x::List.map V.str (nl++tl)))).set 1 (ak.row [V.ms id 1 nl.length])) (by rw[getElem?_set_ne vd,getElem?_set_self jl])).2;simp -implicitDefEqProofs only[G1,hq,push_cast,go_sem_proc];rw[nz,if_pos hx]
   ·have hx:x≠⟨#[]⟩:=by simpa using hx
    have hq:=(lX ((H1.set id (ak.row (V.str x::List.map V.str (nl++tl)))).set 1 (ak.row [V.ms id 0 (nl.length+1)])) (by rw[getElem?_set_ne vd,getElem?_set_self jl])).1;simp -implicitDefEqProofs only[G1,hq,push_cast,go_sem_proc];rw[nz,if_neg hx]
theorem gb (a b:List mV):rR (a++b)=rR a++rR b:=by simp[rR]
theorem t253 (P:bH) (hc:total P<=1000000) (hm:(rR (cw P)).length<=1000000000):af Tryz.prog 81 [aP P] (·=.fs ((lv P).map .str)):=by
 have jP:=t25 P hc;rw[lv];simp only[aP]at jP⊢;generalize cw P=L at*;have hnL:ae (L.map dm)=true:=bS (fun x=>by
  rcases x with⟨⟨k,r,t,v,l,⟨ek,en,es,aR⟩,a,b,p,ps⟩,pr,la⟩
  rw[iw];simp[al,ae,bf,ah,aE]) L
 refine af.intro c253 400 (by simp) 20 ?_;simp -implicitDefEqProofs only[U4,go_sem];repeat' (first | ((first | ((with_reducible refine bj jP ?_ ?_);(·simp[ae,al,cm,hnL])) | ((with_reducible apply cj);(·simp -implicitDefEqProofs only[map_cons,map_nil,hnL,push_cast,go_sem_proc]<;>rfl);(with_reducible exact jP);(·rfl)) | (with_reducible refine aD ?_));simp -implicitDefEqProofs only[go_sem]) | (with_reducible refine aA.mk ?_ ?_) | (with_reducible refine And.intro ?_ ?_) | ((with_reducible refine bz ?_);simp -implicitDefEqProofs only[G2,push_cast,go_sem_proc]) | intro _)
 rename_i hlen;refine aL (fun m e H=>∃pre post kv,L=pre++post/\m=post.length/\e 3=kv/\e 7=.fs (L.map dm)/\e 8=.int .i64 L.length/\e 9=.int .i64 pre.length/\OV H kv ((rR pre).map .str)) L.length
  ⟨[],L,.ag,rfl,rfl,by simp[az,aC],by simp[az,aC],by simp[az,aC],by simp[az,aC],.inl ⟨rfl,rfl⟩⟩ ?_
 rintro m e H ⟨pre,post,kv,ao,rfl,h3,h7,h8,h9,bm⟩;have cP:=bm.one;have ba:=bm.cS;simp only[V.one]at ba;cases post with
 | cons q post=>
  have hg:=aO dm ao;have V3:rR L=rR pre++((if q.2.1<0 then uA q.1 else[])++rR post):=by rw[ao,gb];rfl
  have V4:rR (pre++ [q])=rR pre++(if q.2.1<0 then uA q.1 else[]):=by rw[gb];simp[rR]
  have kE:(rR pre).length+(if q.2.1<0 then uA q.1 else[]).length<=1000000000:=by rw[V3]at hm;simp only[length_append]at hm;omega
  obtain⟨⟨k,r,t,v,l,⟨ek,en,es,aR⟩,a,b,p,ps⟩,pr,la⟩:=q;have j0:=t27 k r t v l ek en es aR a b p ps;rw[iw]at hg;rw[ay]at j0;simp only[uA]at V4 kE;by_cases Cu:pr<0
  ·simp only[Cu,if_true]at V4 kE;generalize dS k r t ps=rl at*;simp -implicitDefEqProofs only[h3,h7,h8,h9,an ao,aa ao hlen,hg,Cu,go_sem];repeat' (first | ((first | ((with_reducible refine bj j0 ?_ ?_);(·simp[ae,al,cm,bf,ah,aE])) | ((with_reducible apply cj);(·simp -implicitDefEqProofs only[map_cons,map_nil,bf,ah,aE,push_cast,go_sem_proc]<;>rfl);(with_reducible exact j0);(·rfl)) | (with_reducible refine aD ?_));simp -implicitDefEqProofs only[h3,h7,h8,h9,an ao,aa ao hlen,hg,Cu,go_sem]) | (with_reducible refine aA.mk ?_ ?_) | (with_reducible refine And.intro ?_ ?_) | ((with_reducible refine bz ?_);simp -implicitDefEqProofs only[G2,push_cast,go_sem_proc]) | intro _)
   ·simp[all_eq_true,aw,V.one]
   refine cu (bm.app _) (fun i o l h=>by cases h) (bV _) (by simp only[length_map];omega) ?_;rintro kv1 H1 pK AA Ef;simp -implicitDefEqProofs only[h3,h7,h8,h9,aa ao hlen,go_sem];exact⟨post.length,Nat.lt_succ_self _,pre++ [_],post,kv1,by simp[ao];rfl,rfl,rfl,by simp,by rw[V4,map_append];exact pK⟩
  ·simp only[Cu,if_false,append_nil]at V4 kE;simp -implicitDefEqProofs only[h3,h7,h8,h9,an ao,aa ao hlen,hg,Cu,go_sem];exact⟨post.length,Nat.lt_succ_self _,pre++ [_],post,kv,by simp[ao];rfl,rfl,rfl,by simp,by rw[V4];exact bm.app _⟩
 | nil=>
  have ev:pre=L:=by rw[ao];simp
  rw[ev]at bm;generalize rR L=acc at*;rcases bm with⟨hz,rfl⟩ | ⟨hz,id,rfl,hid⟩
  ·have qJ:acc=[]:=by simpa using hz
   subst qJ;simp -implicitDefEqProofs only[h3,h7,h8,h9,aI ao,go_sem];repeat' (first | ((first | (with_reducible first | refine bR Mg ?_ | refine bR Mh ?_) | (with_reducible refine aD ?_));simp -implicitDefEqProofs only[h3,h7,h8,h9,go_sem]) | (with_reducible refine aA.mk ?_ ?_) | (with_reducible refine And.intro ?_ ?_) | ((with_reducible refine bz ?_);simp -implicitDefEqProofs only[G2,wu,push_cast,go_sem_proc]) | intro _)
   all_goals first | rfl | simp_all
  ·have qJ:acc≠ []:=by simpa using hz
   have jl:=(List.getElem?_eq_some_iff.1 hid).1;simp only[length_map]at h3 cP ba⊢;have ha:=VR hid (by omega) qJ;have hb:=VT (H:=H.set id (.row ((zV acc).map .str))) (id:=id) (by rw[getElem?_set_self jl]) (by rw[m6];omega) (Hw qJ);rw[m6]at hb;change av Tryz.prog 102 [.ms id 0 acc.length] _ (bX (.ms id 0 (iB acc).length) _)at hb;obtain⟨tl,Rr⟩:∃tl,zp (zV acc)=iB acc++tl:=⟨_,rfl⟩;rw[Rr]at hb;generalize iB acc=nl at*;have lX:fz ((H.set id (ak.row ((zV acc).map V.str))).set id (ak.row ((nl++tl).map V.str))) 20 (.ms id 0 nl.length)=some (.fs (nl.map .str)):=by
    have e4:∀(H:List ak) (l:List ByteArray),eI (fz H 19) (l.map V.str)=some (l.map V.str):=fun H l=>dg _ _ (fun x=>dN _ _ x) l
    rw[iu,getElem?_set_self (by simpa using jl),ef];have e2:(((nl++tl).map V.str).drop 0).take nl.length=nl.map V.str:=by simp
    rw[e2,e4,if_pos (by simp)];rfl
   simp -implicitDefEqProofs only[h3,h7,h8,h9,aI ao,go_sem];repeat' (first | ((first | (with_reducible first | refine bR ha ?_ | refine bR hb ?_) | (with_reducible refine aD ?_));simp -implicitDefEqProofs only[h3,h7,h8,h9,go_sem]) | (with_reducible refine aA.mk ?_ ?_) | (with_reducible refine And.intro ?_ ?_) | ((with_reducible refine bz ?_);simp -implicitDefEqProofs only[G2,push_cast,go_sem_proc]) | intro _)
   rw[iu]at lX;exact⟨_,lX,rfl⟩
abbrev Pa:=ByteArray×ByteArray
def oK (R:List ByteArray):List Pa->List Pa->Int
 | _,[]=>0
 | pre,x::post=>if(!(R.any fun y=>decide (x.1=y)) || !dt x.2)=true then 5 else if(pre.any fun y=>decide (y.1=x.1) || decide (y.2=x.2))=true then 6 else oK R (pre++ [x]) post
def CM (R:List ByteArray) (M:List Pa):List Pa->Int
 | []=>0
 | x::post=>if((R.any fun y=>decide (x.2=y)) && !(M.any fun y=>decide (y.1=x.2)))=true then 13 else CM R M post
def sO (R:List ByteArray) (M:List Pa):Int:=if 12<M.length then 2 else if oK R [] M≠0 then oK R [] M else CM R M M
theorem rf (M:List Pa):df 2 (M.map cC):=cA cC 2 (fun x=>rfl) M
theorem t244 (R:List ByteArray) (M:List Pa):af Tryz.prog 72 [.fs (R.map .str),.fs (M.map cC)] (·=.int .i64 (sO R M)):=by
 have Q4:=rf M;refine af.intro c244 600 (by simp) 20 ?_;simp -implicitDefEqProofs only[UW,go_sem];intro hlen;repeat' (first | ((with_reducible refine aD ?_);simp -implicitDefEqProofs only[go_sem]) | (with_reducible refine aA.mk ?_ ?_) | (with_reducible refine And.intro ?_ ?_) | ((with_reducible refine bz ?_);simp -implicitDefEqProofs only[G0,push_cast,go_sem_proc]) | intro _)
 ·rename_i h;have:12<M.length:=by simp at h;omega
  simp[sO,this]
 rename_i h _;have dU:¬12<M.length:=by simp at h;omega
 refine aL (fun m e H=>∃pre post,M=pre++post/\m=post.length/\oK R [] M=oK R pre post/\e 0=.fs (R.map .str)/\e 1=.fs (M.map cC)/\e 12=.fs (M.map cC)/\e 13=.int .i64 M.length/\e 14=.int .i64 pre.length) M.length
  ⟨[],M,rfl,rfl,rfl,by simp[az,aC],by simp[az,aC],by simp[az,aC],by simp[az,aC],by simp[az,aC]⟩ ?_
 rintro m e H ⟨pre,post,ao,rfl,se,h0,h1,zq,eV,dG⟩;cases post with
 | cons q post=>
  have hg:=aO cC ao;simp only[cC]at hg;have yZ:(M.map cC).take pre.length=pre.map cC:=by rw[ao];simp
  have oR:=t29 R q.1;have Mk:=t72 q.2;have Hy:=t292 (fun y=>decide (y.1=q.1) || decide (y.2=q.2)) 147 [.bc [.str q.1,.str q.2]] rfl (fun y=>t293 q y) pre;have cR:pre.length<=M.length:=by rw[ao];simp
  rw[oK]at se;simp -implicitDefEqProofs only[h0,h1,zq,eV,dG,an ao,aa ao hlen,hg,yZ,Q4,go_sem];repeat' (first | ((first | ((with_reducible first | refine bj oR ?_ ?_ | refine bj Mk ?_ ?_ | refine bj Hy ?_ ?_);(·simp[ae,al,cm,aE,cn])) | ((with_reducible apply cj);(·simp -implicitDefEqProofs only[map_cons,map_nil,aE,cn,push_cast,go_sem_proc]<;>rfl);(with_reducible first | exact oR | exact Mk | exact Hy);(·rfl)) | (with_reducible refine aD ?_));simp -implicitDefEqProofs only[h0,h1,zq,eV,dG,an ao,aa ao hlen,hg,yZ,Q4,go_sem]) | (with_reducible refine aA.mk ?_ ?_) | (with_reducible refine And.intro ?_ ?_) | ((with_reducible refine bz ?_);simp -implicitDefEqProofs only[G0,push_cast,go_sem_proc]) | intro _)
  ·have e:oK R [] M=5:=by rw[se];simp_all
   rw[sO,if_neg dU,e];rfl
  ·have e:oK R [] M=5:=by rw[se];simp_all
   rw[sO,if_neg dU,e];rfl
  ·exact Int.le_refl _
  ·omega
  ·omega
  ·have e:oK R [] M=6:=by rw[se];simp_all
   rw[sO,if_neg dU,e];rfl
  ·rename_i f1 f2 f3;have e:oK R [] M=oK R (pre++ [q]) post:=by rw[se];simp only[f1,f2,f3];simp
   exact⟨post.length,Nat.lt_succ_self _,pre++ [q],post,by simp[ao],rfl,e,by simp⟩
 | nil=>
  have hA:oK R [] M=0:=by rw[se,oK]
  have hN:sO R M=CM R M M:=by rw[sO,if_neg dU,hA];rfl
  rw[hN];simp -implicitDefEqProofs only[h0,h1,zq,eV,dG,aI ao,go_sem];intro _;refine aL (fun m e H=>∃pre post,M=pre++post/\m=post.length/\CM R M M=CM R M post/\e 0=.fs (R.map .str)/\e 1=.fs (M.map cC)/\e 36=.fs (M.map cC)/\e 37=.int .i64 M.length/\e 38=.int .i64 pre.length) M.length
   ⟨[],M,rfl,rfl,rfl,by simp[az,h0],by simp[az,h1],by simp[az,h1],by simp[az],by simp[az]⟩ ?_
  clear se h0 h1 zq eV dG ao pre e;rintro m e H ⟨pre,post,ao,rfl,se,h0,h1,zq,eV,dG⟩;cases post with
  | cons q post=>
   have hg:=aO cC ao;simp only[cC]at hg;have oR:=t29 R q.2;have Hy:=t292 (fun y=>decide (y.1=q.2)) 148 [.bc [.str q.1,.str q.2]] rfl (fun y=>t294 q y) M;rw[CM]at se;simp -implicitDefEqProofs only[h0,h1,zq,eV,dG,an ao,aa ao hlen,hg,go_sem];repeat' (first | ((first | ((with_reducible first | refine bj oR ?_ ?_ | refine bj Hy ?_ ?_);(·simp[ae,al,cm,aE,cn])) | ((with_reducible apply cj);(·simp -implicitDefEqProofs only[map_cons,map_nil,aE,cn,push_cast,go_sem_proc]<;>rfl);(with_reducible first | exact oR | exact Hy);(·rfl)) | (with_reducible refine aD ?_));simp -implicitDefEqProofs only[h0,h1,zq,eV,dG,an ao,aa ao hlen,hg,go_sem]) | (with_reducible refine aA.mk ?_ ?_) | (with_reducible refine And.intro ?_ ?_) | ((with_reducible refine bz ?_);simp -implicitDefEqProofs only[G0,push_cast,go_sem_proc]) | intro _)
   ·rename_i f1 f2;rw[se];simp only[f1,f2];simp
   ·rename_i f1 f2;exact⟨post.length,Nat.lt_succ_self _,pre++ [q],post,by simp[ao],rfl,by rw[se];simp only[f1,f2];simp,by simp⟩
   ·rename_i f1;exact⟨post.length,Nat.lt_succ_self _,pre++ [q],post,by simp[ao],rfl,by rw[se];simp only[f1];simp,by simp⟩
  | nil=>
   simp -implicitDefEqProofs only[h0,h1,zq,eV,dG,aI ao,go_sem];simp -implicitDefEqProofs only[G0,push_cast,go_sem_proc];rw[se,CM]
end Go.Proofs.YtdgoeblpcnjlbaaGreatDoor.Av

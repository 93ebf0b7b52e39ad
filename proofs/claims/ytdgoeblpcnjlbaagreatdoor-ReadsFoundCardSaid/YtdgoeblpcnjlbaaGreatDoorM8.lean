/- ReadsFound. Text 8 of 17. -/
import Derived.Test.YtdgoeblpcnjlbaaGreatDoorProg
import Derived.Test.YtdgoeblpcnjlbaaGreatDoorM7
set_option linter.all false
set_option maxRecDepth 100000
set_option maxHeartbeats 64000000
namespace Go.Proofs.YtdgoeblpcnjlbaaGreatDoor.Av
open Go.RowKit List
mutual
def BX (tf:Int->St->List St):St->Int->List St
 | .mk k r t v l e a b p ps,n=>tf n (.mk k r t v l e (eZ tf a (n+1)) (eZ tf b (n+1+ai a)) p ps)
def eZ (tf:Int->St->List St):List St->Int->List St
 | [],_=> []
 | x::l,n=>BX tf x n++eZ tf l (n+dA x)
end
theorem om (tf:Int->St->List St):∀(a b:List St) (n:Int),eZ tf (a++b) n=eZ tf a n++eZ tf b (n+ai a)
 | [],b,n=>by simp[eZ,ai]
 | x::a,b,n=>by
  rw[List.cons_append,eZ,eZ,om tf a b,ai,List.append_assoc];congr 3;omega
theorem oq (tf:Int->St->List St) (h1:∀n x,(tf n x).length<=1):∀(l:List St) (n:Int),(eZ tf l n).length<=l.length
 | [],n=>by simp[eZ]
 | .mk k r t v l e a b p ps::l',n=>by
  have:=oq tf h1 l' (n+dA (.mk k r t v l e a b p ps));have:=h1 n (.mk k r t v l e (eZ tf a (n+1)) (eZ tf b (n+1+ai a)) p ps);simp[eZ,BX];omega
theorem t50s (tf:Int->St->List St) (h1:∀n x,(tf n x).length<=1) (g:FuncId) (oG:∀n x,af Tryz.prog g [.int .i64 n,encS x] (·=.fs ((tf n x).map encS))) (xs:List St) (hw:dn xs<=1000000) (n:Int) (lV:0<=n) (hn:n+ai xs<=1000000)
 (h:∀k r t v l e a b p ps,St.mk k r t v l e a b p ps∈xs->∀n:Int,0<=n->
   (n+ai a<=1000000->af Tryz.prog 138 [.fs (a.map encS),.int .i64 n,.a6 g [] []] (·=.dJ [.fs ((eZ tf a n).map encS),.int .i64 (n+ai a)]))/\
   (n+ai b<=1000000->af Tryz.prog 138 [.fs (b.map encS),.int .i64 n,.a6 g [] []] (·=.dJ [.fs ((eZ tf b n).map encS),.int .i64 (n+ai b)]))):
 af Tryz.prog 138 [.fs (xs.map encS),.int .i64 n,.a6 g [] []] (·=.dJ [.fs ((eZ tf xs n).map encS),.int .i64 (n+ai xs)]):=by
 have Zr:=eh xs;refine af.intro c50 400 (by simp) 20 ?_;simp -implicitDefEqProofs only[YJ,go_sem];intro hlen;refine aL (fun m e H=>∃pre post kv,xs=pre++post/\m=post.length/\e 1=.int .i64 (n+ai pre)/\e 2=.a6 g [] []/\e 8=kv/\e 12=.fs (xs.map encS)/\e 13=.int .i64 xs.length/\e 14=.int .i64 pre.length/\OV H kv ((eZ tf pre n).map encS)) xs.length ⟨[],xs,.ag,by simp[az,aC,ai],rfl,by simp[az,aC,ai],by simp[az,aC],by simp[az,aC],by simp[az,aC],by simp[az,aC],by simp[az,aC],.inl ⟨rfl,rfl⟩⟩ ?_;rintro m e H ⟨pre,post,kv,ao,rfl,s3,h2,h8,dU,eV,dG,bm⟩;cases post with
 | nil=>
  have ev:pre=xs:=by rw[ao];simp
  simp -implicitDefEqProofs only[s3,h2,h8,dU,eV,dG,aI ao,go_sem];have hz:fz H 19 kv=_:=dw (f:=encS) (n:=17) (fun H x=>fz_encS H 16 x) bm;rw[ev]at hz;simp -implicitDefEqProofs only[R7,hz,push_cast,go_sem_proc];rw[ev]
 | cons y post=>
  have hg:=aO encS ao;have zP:ai xs=ai pre+(dA y+ai post):=by rw[ao,aX,ai]
  have SV:dn xs=dn pre+(wS y+dn post):=by rw[ao,cB,dn]
  have cR:pre.length<=xs.length:=by rw[ao];simp
  have EE:=oq tf h1 pre n;rcases y with⟨k,r,t,v,l,⟨ek,en,es,aR⟩,a,b,p,ps⟩
  have BV:eZ tf (pre++ [.mk k r t v l (.mk ek en es aR) a b p ps]) n=eZ tf pre n++tf (n+ai pre) (.mk k r t v l (.mk ek en es aR) (eZ tf a (n+ai pre+1)) (eZ tf b (n+ai pre+1+ai a)) p ps):=by
   rw[om];simp only[eZ,BX,List.append_nil]
  have htl1:=h1 (n+ai pre) (.mk k r t v l (.mk ek en es aR) (eZ tf a (n+ai pre+1)) (eZ tf b (n+ai pre+1+ai a)) p ps);have hto1:=oG (n+ai pre) (.mk k r t v l (.mk ek en es aR) (eZ tf a (n+ai pre+1)) (eZ tf b (n+ai pre+1+ai a)) p ps);simp only[dA]at zP;simp only[wS,wE]at SV;have hh:=h k r t v l (.mk ek en es aR) a b p ps (by rw[ao];simp);have ha:=(hh (n+ai pre+1) (by omega)).1 (by omega);have hb:=(hh (n+ai pre+1+ai a) (by omega)).2 (by omega);have pV:=t46 ps (by omega);have Hf:=t68 _ (.mk ek en es aR) (Nat.lt_succ_self _) (by simp only[wE];omega);have Dv:ai (pre++ [.mk k r t v l (.mk ek en es aR) a b p ps])=ai pre+(1+ai a+ai b):=by rw[aX];simp[ai,dA]
  rw[bp]at Hf;rw[ay]at hg hto1;generalize hta:eZ tf a (n+ai pre+1)=ta at*;generalize htb:eZ tf b (n+ai pre+1+ai a)=tb at*;have w1:=bP (x:=n+ai pre+1) (by omega) (by omega);simp -implicitDefEqProofs only[s3,h2,h8,dU,eV,dG,an ao,aa ao hlen,hg,w1,go_sem];repeat' (first | ((first | ((with_reducible first | refine bj pV ?_ ?_ | refine bj Hf ?_ ?_ | refine bj ha ?_ ?_ | refine bj hb ?_ ?_ | refine bj hto1 ?_ ?_);(·simp[ae,al,cm])) | ((with_reducible apply cj);(·simp -implicitDefEqProofs only[List.map_cons,List.map_nil,push_cast,go_sem_proc]<;>rfl);(with_reducible first | exact pV | exact Hf | exact ha | exact hb | exact hto1);(·rfl)) | (with_reducible refine aD ?_));simp -implicitDefEqProofs only[s3,h2,h8,dU,eV,dG,an ao,aa ao hlen,hg,w1,go_sem]) | (with_reducible refine aA.mk ?_ ?_) | (with_reducible refine And.intro ?_ ?_) | ((with_reducible refine bz ?_);simp -implicitDefEqProofs only[R7,push_cast,go_sem_proc]) | intro _)
  ·exact mf _
  ·refine cu (bm.app _) (fun i o l h=>by cases h) (cx _) (by simp;omega) ?_;rintro bN H' bo hle cp;simp -implicitDefEqProofs only[s3,h2,h8,dU,eV,dG,an ao,aa ao hlen,hg,go_sem];refine⟨_,Nat.lt_succ_self _,pre++ [.mk k r t v l (.mk ek en es aR) a b p ps],post,bN,by simp[ao],rfl,?_,rfl,by simp,?_⟩
   ·rw[Dv];simp only[Int.natCast_add,Int.natCast_one];congr 1;omega
   ·rw[BV];simpa using bo
theorem t50 (tf:Int->St->List St) (h1:∀n x,(tf n x).length<=1) (g:FuncId) (oG:∀n x,af Tryz.prog g [.int .i64 n,encS x] (·=.fs ((tf n x).map encS))):∀(m:Nat) (xs:List St),SizeOf.sizeOf xs<m->dn xs<=1000000->∀n:Int,0<=n->n+ai xs<=1000000->
 af Tryz.prog 138 [.fs (xs.map encS),.int .i64 n,.a6 g [] []] (·=.dJ [.fs ((eZ tf xs n).map encS),.int .i64 (n+ai xs)])
 | 0,xs,h,_=>absurd h (Nat.not_lt_zero _)
 | m+1,xs,hm,hw=>fun n h0 hn=>t50s tf h1 g oG xs hw n h0 hn (fun k r t v l e a b p ps da n h0=>by
  have hs:=List.sizeOf_lt_of_mem da;simp only[St.mk.sizeOf_spec]at hs;have QY:wS (.mk k r t v l e a b p ps)<=dn xs:=by
   obtain⟨p1,p2,rfl⟩:=List.append_of_mem da;rw[cB,dn];omega
  simp only[wS]at QY;exact⟨fun hc=>t50 tf h1 g oG m a (by omega) (by omega) n h0 hc,fun hc=>t50 tf h1 g oG m b (by omega) (by omega) n h0 hc⟩)
theorem jo {H:List ak} {a b c:ak} (h0:H[0]? =some a) (h1:H[1]? =some b) (h2:H[2]? =some c):∃J,H=a::b::c::J:=by
 match H,h0,h1,h2 with
 | x::y::z::J,h0,h1,h2=>simp at h0 h1 h2;subst h0 h1 h2;exact⟨J,rfl⟩
theorem OV.cS {H:List ak} {kv:V} {acc:List V} (h:OV H kv acc):V.one kv=true:=by rcases h with⟨_,rfl⟩ | ⟨_,id,rfl,_⟩<;>rfl
def SB (L:List Int) (a:Nat):ak:=.row [.agg [.fs (L.map (V.int .i64)),.int .i64 a]]
structure MS (L:List Int) (ca N:Nat) (T:Nat->List ak):Prop where
 tok:me N T
 get:∀a l,(T a++l)[ca]? =some (SB L a)
 set:∀a b l,(T a++l).set ca (SB L b)=T b++l
theorem MS.Zs {L:List Int} {ca N:Nat} {T:Nat->List ak} (h:MS L ca N T) (a:Nat):(T a)[ca]? =some (SB L a):=by have:=h.get a [];simpa using this
theorem MS.aZ {L:List Int} {ca N:Nat} {T:Nat->List ak} (h:MS L ca N T) (a b:Nat):(T a).set ca (SB L b)=T b:=by have:=h.set a b [];simpa using this
theorem MS.app {L:List Int} {ca N:Nat} {T:Nat->List ak} (h:MS L ca N T) (J:List ak):MS L ca (N+J.length) (fun a=>T a++J) where
 tok:=h.tok.app J
 get a l:=by rw[List.append_assoc];exact h.get a _
 set a b l:=by rw[List.append_assoc,List.append_assoc];exact h.set a b _
theorem MS.base (L:List Int):MS L 0 1 (fun a=> [SB L a]) where
 tok:=⟨fun _=>rfl,fun st Qy i es hi=>by
  right;rcases i with _ | i
  ·simp[SB]at hi;subst hi;simp[ak.nr,ae,al,aS]
  ·simp at hi⟩
 get a l:=rfl
 set a b l:=rfl
def MC (k:FuncId) (L:List Int) (a:Nat) (args:List V) (r:V) (a':Nat):Prop:=∀ca N T,MS L ca N T->av Tryz.prog k (.ptr ca 0 0::args) (T a) (bX r (T a'))
theorem MC.at {k:FuncId} {L:List Int} {a a' ca N:Nat} {T:Nat->List ak} {args:List V} {r:V} (h:MC k L a args r a') (hT:MS L ca N T) (J:List ak):av Tryz.prog k (.ptr ca 0 0::args) (T a++J) (bX r (T a'++J)):=h ca _ _ (hT.app J)
theorem MS.trim {L:List Int} {ca N:Nat} {T:Nat->List ak} (hT:MS L ca N T) {g:FuncId} {vs:List V} {a a':Nat} {r:V} (hr:al r=true) (h:av Tryz.prog g vs (T a) (fun r' H'=>r'=r/\∃X,H'=T a'++X)):av Tryz.prog g vs (T a) (bX r (T a')):=by
 refine av.trim (h.mono ?_);rintro r' H' ⟨rfl,X,rfl⟩;exact⟨_,X,rfl,by rw[hT.tok.len,hT.tok.len],hT.tok.row _ _,hr,rfl,rfl⟩
theorem JB {x n:Int} (h:1<=n): -n<x.tmod n/\x.tmod n<n:=by
 have h1:=Int.tmod_lt_of_pos x (b:=n) (by omega);have h2:=Int.tmod_lt_of_pos (-x) (b:=n) (by omega);rw[Int.neg_tmod]at h2;omega
def qW (x n:Int):Int:=if n<1 then 0 else if x.tmod n<0 then IntKind.i64.wrap (x.tmod n+n)else x.tmod n
theorem t44 (x n:Int):af Tryz.prog 113 [.int .i64 x,.int .i64 n] (·=.int .i64 (qW x n)):=by
 by_cases hn:n<1
 ·refine af.intro c44 100 (by simp) 20 ?_;simp -implicitDefEqProofs only[YB,hn,go_sem];repeat' (first | ((with_reducible refine aD ?_);simp -implicitDefEqProofs only[hn,go_sem]) | (with_reducible refine aA.mk ?_ ?_) | (with_reducible refine And.intro ?_ ?_) | ((with_reducible refine bz ?_);simp -implicitDefEqProofs only[YC,push_cast,go_sem_proc]) | intro _)
  all_goals simp[qW,hn]
 ·have lV:¬n=0:=by omega
  refine af.intro c44 100 (by simp) 20 ?_;simp -implicitDefEqProofs only[YB,hn,lV,ne_eq,not_false_eq_true,go_sem];repeat' (first | ((with_reducible refine aD ?_);simp -implicitDefEqProofs only[hn,lV,go_sem]) | (with_reducible refine aA.mk ?_ ?_) | (with_reducible refine And.intro ?_ ?_) | ((with_reducible refine bz ?_);simp -implicitDefEqProofs only[YC,push_cast,go_sem_proc]) | intro _)
  ·rename_i h;have h:x.tmod n<0:=by simpa using h
   rw[qW,if_neg hn,if_pos h]
  ·rename_i h;have h:¬x.tmod n<0:=by simpa using h
   rw[qW,if_neg hn,if_neg h]
theorem AB {x n:Int} (h1:1<=n) (h2:n<=4611686018427387904):0<=qW x n/\qW x n<n:=by
 have:=JB (x:=x) h1;rw[qW,if_neg (by omega)];split
 ·have:IntKind.i64.wrap (x.tmod n+n)=x.tmod n+n:=by simp[IntKind.wrap,IntKind.signed,IntKind.bits];omega
  omega
 ·omega
def dz (L:List Int) (a:Nat) (n:Int):Int:=
 if L.length=0 then qW (IntKind.i64.wrap ((a+1:Nat)*7919)) n
 else qW (IntKind.i64.wrap (qW (L.getD (a % L.length) 0) 1073741824+IntKind.i64.wrap ((a / L.length:Nat)*IntKind.i64.wrap (7919+(a % L.length:Nat))))) n
theorem cq {L:List Int} {a:Nat} {n:Int} (h1:1<=n) (h2:n<=4611686018427387904):0<=dz L a n/\dz L a n<n:=by
 unfold dz;split<;>exact AB h1 h2
theorem t16 (L:List Int) (a:Nat) (n:Int) (ha:a<=1000000):MC 38 L a [.int .i64 n] (.int .i64 (dz L a n)) (a+1):=by
 intro ca N T hT;have w1:IntKind.i64.wrap ((a:Int)+1)=((a+1:Nat):Int):=bG (by omega);have w2:IntKind.i64.wrap (((a+1:Nat):Int) - 1)=(a:Int):=by rw[bP (by omega) (by omega)];omega
 have hg:=hT.Zs;have hs:=hT.aZ;simp only[SB]at hg hs;by_cases hL:L.length=0
 ·have SW:((L.length:Int)=0)=True:=by simp[hL]
  have hR:dz L a n=qW (IntKind.i64.wrap ((a+1:Nat)*7919)) n:=by rw[dz,if_pos hL]
  rw[hR];refine av.intro c16 200 (by simp) ?_;simp -implicitDefEqProofs only[Yw,hg,hs,w1,SW,go_sem];repeat' (first | ((first | ((with_reducible refine bj (t44 _ _) ?_ ?_);(·simp[ae,al,cm])) | ((with_reducible apply cj);(·simp -implicitDefEqProofs only[List.map_cons,List.map_nil,push_cast,go_sem_proc]<;>rfl);(with_reducible exact(t44 _ _));(·rfl)) | (with_reducible refine aD ?_));simp -implicitDefEqProofs only[hg,hs,w1,SW,go_sem]) | (with_reducible refine aA.mk ?_ ?_) | (with_reducible refine And.intro ?_ ?_) | ((with_reducible refine bz ?_);simp -implicitDefEqProofs only[Yx,push_cast,go_sem_proc]) | intro _)
 ·have SW:((L.length:Int)=0)=False:=by simp;exact fun h=>hL (by simp[h])
  have hR:dz L a n=qW (IntKind.i64.wrap (qW (L.getD (a % L.length) 0) 1073741824+IntKind.i64.wrap ((a / L.length:Nat)*IntKind.i64.wrap (7919+(a % L.length:Nat))))) n:=by rw[dz,if_neg hL]
  have e1:(a:Int).tmod (L.length:Int)=((a % L.length:Nat):Int):=rfl;have e2:(a:Int).tdiv (L.length:Int)=((a / L.length:Nat):Int):=rfl;have ct:a % L.length<L.length:=Nat.mod_lt _ (by omega);have qI:(L.map (V.int .i64)).getD (a % L.length) .any=.int .i64 (L.getD (a % L.length) 0):=by simp[List.getD,ct]
  have w3:IntKind.i64.wrap ((a / L.length:Nat):Int)=((a / L.length:Nat):Int):=(fun(q:Nat) (h:q<=1000000)=>bP (x:=(q:Int)) (by omega) (by omega)) _ (Nat.le_trans (Nat.div_le_self a L.length) ha);rw[hR];refine av.intro c16 200 (by simp) ?_;simp -implicitDefEqProofs only[Yw,hg,hs,w1,SW,go_sem];repeat' (first | ((first | ((with_reducible refine bj (t44 _ _) ?_ ?_);(·simp[ae,al,cm])) | ((with_reducible apply cj);(·simp -implicitDefEqProofs only[List.map_cons,List.map_nil,push_cast,go_sem_proc]<;>rfl);(with_reducible exact(t44 _ _));(·rfl)) | (with_reducible refine aD ?_));simp -implicitDefEqProofs only[hg,hs,w1,w2,w3,e1,e2,SW,ct,qI,go_sem]) | (with_reducible refine aA.mk ?_ ?_) | (with_reducible refine And.intro ?_ ?_) | ((with_reducible refine bz ?_);simp -implicitDefEqProofs only[Yx,push_cast,go_sem_proc]) | intro _)
  all_goals (rename_i h;exact absurd (by omega) hL)
theorem me.aZ {σ:Type} {N:Nat} {T:σ->List ak} (h:me N T) (st:σ) (l:List ak) (x:ak):(T st++l).set N x=T st++l.set 0 x:=h.aW st l 0 x
theorem kS (H:List ak):∀(n:Nat) {v v':V},fz [] n v=some v'->fz H n v=some v':=by
 intro n;induction n with
 | zero=>intro v v' h;simp[fz]at h
 | succ n ih=>
  have hl:∀{l l':List V},eI (fz [] n) l=some l'->eI (fz H n) l=some l':=by
   intro l;induction l with
   | nil=>intro l' h;exact h
   | cons x l ihl=>
    intro l' h;simp only[eI]at h⊢;split at h
    ·rename_i y ys h1 h2;rw[ih h1,ihl h2];exact h
    ·cases h
  intro v v' h;cases v with
  | ptr id i c=>simp[fz]at h
  | ms id i c=>simp[fz]at h
  | map id=>simp[fz]at h
  | agg cs=>
   simp only[fz]at h⊢;cases hq:eI (fz [] n) cs with
   | none=>rw[hq]at h;cases h
   | some l=>rw[hq]at h;rw[hl hq];exact h
  | dJ cs=>
   simp only[fz]at h⊢;cases hq:eI (fz [] n) cs with
   | none=>rw[hq]at h;cases h
   | some l=>rw[hq]at h;rw[hl hq];exact h
  | a6 g a b=>
   simp only[fz]at h⊢;split at h
   ·rename_i a' b' ha hb;rw[hl ha,hl hb];exact h
   ·cases h
  | _=>simpa only[fz]using h
theorem av.fzN {P:Program} {g:FuncId} {vs:List V} {H:List ak} {K:V->List ak->Prop} (h:av P g vs H (fun r H'=>∃r',Av.fz [] 20 r=some r'/\K r' H')):av P g vs H K:=by
 refine av.fz (h.mono ?_);rintro r H' ⟨r',h1,h2⟩;exact⟨[],r',kS _ _ h1,h2⟩
theorem MS.BY {L:List Int} {ca N:Nat} {T:Nat->List ak} (hT:MS L ca N T) {g:FuncId} {vs:List V} {a a':Nat} {r:V} (hr:al r=true) (h:av Tryz.prog g vs (T a) (fun r' H'=>∃r2,fz [] 20 r'=some r2/\r2=r/\∃X,H'=T a'++X)):av Tryz.prog g vs (T a) (bX r (T a')):=
 hT.trim hr (av.fzN h)
theorem t14 (L:List Int) (a:Nat) (n:Int) (ha:a<=1000000):MC 36 L a [.int .i64 n] (.bool (decide (dz L a n=0))) (a+1):=by
 intro ca N T hT;have cZ:=t16 L a n ha ca N T hT;refine av.intro c14 100 (by simp) ?_;simp -implicitDefEqProofs only[s14,go_sem];repeat' (first | ((first | (with_reducible refine bR cZ ?_) | (with_reducible refine aD ?_));simp -implicitDefEqProofs only[go_sem]) | (with_reducible refine aA.mk ?_ ?_) | (with_reducible refine And.intro ?_ ?_) | ((with_reducible refine bz ?_);simp -implicitDefEqProofs only[r14,push_cast,go_sem_proc]) | intro _)
theorem t5 (L:List Int) (a:Nat) (l:List Int) (ha:a<=1000000) (hl:1<=l.length) (jf:l.length<=1000):MC 110 L a [.fs (l.map (.int .i64))] (.int .i64 (l.getD (dz L a l.length).toNat 0)) (a+1):=by
 intro ca N T hT;have hb:=cq (L:=L) (a:=a) (n:=l.length) (by omega) (by omega);have cZ:=t16 L a l.length ha ca N T hT;generalize dz L a l.length=v at*;have gj:iD v l.length=True:=by simp[iD];omega
 have hg:(l.map (V.int .i64)).getD v.toNat .any=.int .i64 (l.getD v.toNat 0):=by simp[List.getD,show v.toNat<l.length by omega]
 refine av.intro c5 100 (by simp) ?_;simp -implicitDefEqProofs only[s5,gj,hg,go_sem];repeat' (first | ((first | (with_reducible refine bR cZ ?_) | (with_reducible refine aD ?_));simp -implicitDefEqProofs only[gj,hg,go_sem]) | (with_reducible refine aA.mk ?_ ?_) | (with_reducible refine And.intro ?_ ?_) | ((with_reducible refine bz ?_);simp -implicitDefEqProofs only[r5,push_cast,go_sem_proc]) | intro _)
theorem t41 (L:List Int) (a:Nat) (l:List ByteArray) (ha:a<=1000000) (hl:1<=l.length) (jf:l.length<=1000):MC 63 L a [.fs (l.map .str)] (.str (l.getD (dz L a l.length).toNat ⟨#[]⟩)) (a+1):=by
 intro ca N T hT;have hb:=cq (L:=L) (a:=a) (n:=l.length) (by omega) (by omega);have cZ:=t16 L a l.length ha ca N T hT;generalize dz L a l.length=v at*;have gj:iD v l.length=True:=by simp[iD];omega
 have hg:(l.map V.str).getD v.toNat .any=.str (l.getD v.toNat ⟨#[]⟩):=by simp[List.getD,show v.toNat<l.length by omega]
 refine av.intro c41 100 (by simp) ?_;simp -implicitDefEqProofs only[Qt,gj,hg,go_sem];repeat' (first | ((first | (with_reducible refine bR cZ ?_) | (with_reducible refine aD ?_));simp -implicitDefEqProofs only[gj,hg,go_sem]) | (with_reducible refine aA.mk ?_ ?_) | (with_reducible refine And.intro ?_ ?_) | ((with_reducible refine bz ?_);simp -implicitDefEqProofs only[r41,push_cast,go_sem_proc]) | intro _)
theorem t39 (L:List Int) (a:Nat) (lo hi:Int) (ha:a<=1000000) (h:lo<=hi) (h1: -1000000<=lo) (h2:hi<=1000000):MC 108 L a [.int .i64 lo,.int .i64 hi] (.int .i64 (lo+dz L a (hi - lo+1))) (a+1):=by
 intro ca N T hT;have hb:=cq (L:=L) (a:=a) (n:=hi - lo+1) (by omega) (by omega);have cZ:=t16 L a (hi - lo+1) ha ca N T hT;generalize dz L a (hi - lo+1)=v at*;have w1:IntKind.i64.wrap (hi - lo)=hi - lo:=bP (by omega) (by omega);have w2:IntKind.i64.wrap (hi - lo+1)=hi - lo+1:=bP (by omega) (by omega);have w3:IntKind.i64.wrap (lo+v)=lo+v:=bP (by omega) (by omega);have hc:¬hi<lo:=by omega
 refine av.intro c39 100 (by simp) ?_;simp -implicitDefEqProofs only[s39,w1,w2,hc,go_sem];repeat' (first | ((first | (with_reducible refine bR cZ ?_) | (with_reducible refine aD ?_));simp -implicitDefEqProofs only[w1,w2,w3,hc,go_sem]) | (with_reducible refine aA.mk ?_ ?_) | (with_reducible refine And.intro ?_ ?_) | ((with_reducible refine bz ?_);simp -implicitDefEqProofs only[r39,push_cast,go_sem_proc]) | intro _)
theorem t48 (L:List Int) (a:Nat) (lo hi:Int) (ha:a<=900000) (h:lo<=hi) (h1: -1000000<=lo) (h2:hi<=1000000):∃v,MC 116 L a [.int .i64 lo,.int .i64 hi] (.int .i64 v) (a+2):=by
 have w1:IntKind.i64.wrap (lo - 1)=lo - 1:=bP (by omega) (by omega);have w2:IntKind.i64.wrap (hi+1)=hi+1:=bP (by omega) (by omega);by_cases h0:dz L a 12=0
 ·refine⟨[lo - 1,hi+1,lo,hi,-1099511627776,1099511627776].getD (dz L (a+1) 6).toNat 0,fun ca N T hT=> ?_⟩;have dG:=t14 L a 12 (by omega) ca N T hT;rw[h0]at dG;have h5:=t5 L (a+1) [lo - 1,hi+1,lo,hi,-1099511627776,1099511627776] (by omega) (by simp) (by simp) ca N T hT;simp only[List.map_cons,List.map_nil,List.length_cons,List.length_nil,Nat.zero_add,Nat.reduceAdd]at h5;generalize dz L (a+1) _=v at*;refine av.intro c48 100 (by simp) ?_;simp -implicitDefEqProofs only[YG,w1,w2,go_sem];repeat' (first | ((first | (with_reducible first | refine bR dG ?_ | refine bR h5 ?_) | (with_reducible refine aD ?_));simp -implicitDefEqProofs only[w1,w2,go_sem]) | (with_reducible refine aA.mk ?_ ?_) | (with_reducible refine And.intro ?_ ?_) | ((with_reducible refine bz ?_);simp -implicitDefEqProofs only[YH,push_cast,go_sem_proc]) | intro _)
 ·refine⟨lo+dz L (a+1) (hi - lo+1),fun ca N T hT=> ?_⟩;have dG:=t14 L a 12 (by omega) ca N T hT;rw[decide_eq_false h0]at dG;have Qz:=t39 L (a+1) lo hi (by omega) h h1 h2 ca N T hT;refine av.intro c48 100 (by simp) ?_;simp -implicitDefEqProofs only[YG,w1,w2,go_sem];repeat' (first | ((first | (with_reducible first | refine bR dG ?_ | refine bR Qz ?_) | (with_reducible refine aD ?_));simp -implicitDefEqProofs only[w1,w2,go_sem]) | (with_reducible refine aA.mk ?_ ?_) | (with_reducible refine And.intro ?_ ?_) | ((with_reducible refine bz ?_);simp -implicitDefEqProofs only[YH,push_cast,go_sem_proc]) | intro _)
theorem t45 (L:List Int) (a:Nat) (ha:a<=900000):∃x,wE x=1/\MC 114 L a [] (bu x) (a+2):=by
 by_cases h0:dz L a 2=0
 ·refine⟨.mk 1 ([0,1,2,5,999].getD (dz L (a+1) 5).toNat 0) ⟨#[]⟩ [],rfl,fun ca N T hT=>hT.BY (fm _) ?_⟩;have dG:=t14 L a 2 (by omega) ca _ _ (hT.app [.row [.agg [.int .i64 0,.int .i64 0,.str ⟨#[]⟩,.ag]]]);rw[decide_eq_true h0]at dG;have h5:=t5 L (a+1) [0,1,2,5,999] (by omega) (by simp) (by simp) ca _ _ (hT.app [.row [.agg [.int .i64 0,.int .i64 0,.str ⟨#[]⟩,.ag]]]);simp only[List.map_cons,List.map_nil,List.length_cons,List.length_nil,Nat.zero_add,Nat.reduceAdd]at h5;rw[bp];change av _ _ _ _ (bX (.int .i64 ([0,1,2,5,999].getD (dz L (a+1) 5).toNat 0)) _)at h5;generalize [0,1,2,5,999].getD (dz L (a+1) 5).toNat 0=v at*;refine av.intro c45 100 (by simp) ?_;simp -implicitDefEqProofs only[YD,hT.tok.len,hT.tok.bW,hT.tok.bT,hT.tok.aZ,hT.tok.aW,hT.tok.get,go_sem];repeat' (first | ((first | (with_reducible first | refine bR dG ?_ | refine bR h5 ?_) | (with_reducible refine aD ?_));simp -implicitDefEqProofs only[hT.tok.len,hT.tok.bW,hT.tok.bT,hT.tok.aZ,hT.tok.aW,hT.tok.get,go_sem]) | (with_reducible refine aA.mk ?_ ?_) | (with_reducible refine And.intro ?_ ?_) | ((with_reducible refine bz ?_);simp -implicitDefEqProofs only[YE,hT.tok.len,hT.tok.bW,hT.tok.bT,hT.tok.aZ,hT.tok.aW,hT.tok.get,push_cast,go_sem_proc]) | intro _)
  all_goals exact⟨_,rfl⟩
 ·refine⟨.mk 2 0 ([⟨#[120]⟩,⟨#[121]⟩,⟨#[120]⟩,⟨#[122]⟩].getD (dz L (a+1) 4).toNat ⟨#[]⟩) [],rfl,fun ca N T hT=>hT.BY (fm _) ?_⟩;have dG:=t14 L a 2 (by omega) ca _ _ (hT.app [.row [.agg [.int .i64 0,.int .i64 0,.str ⟨#[]⟩,.ag]]]);rw[decide_eq_false h0]at dG;have h5:=t41 L (a+1) [⟨#[120]⟩,⟨#[121]⟩,⟨#[120]⟩,⟨#[122]⟩] (by omega) (by simp) (by simp) ca _ _ (hT.app [.row [.agg [.int .i64 0,.int .i64 0,.str ⟨#[]⟩,.ag]]]);simp only[List.map_cons,List.map_nil,List.length_cons,List.length_nil,Nat.zero_add,Nat.reduceAdd]at h5;rw[bp];change av _ _ _ _ (bX (.str ([⟨#[120]⟩,⟨#[121]⟩,⟨#[120]⟩,⟨#[122]⟩].getD (dz L (a+1) 4).toNat ⟨#[]⟩)) _)at h5;generalize [(⟨#[120]⟩:ByteArray),⟨#[121]⟩,⟨#[120]⟩,⟨#[122]⟩].getD (dz L (a+1) 4).toNat ⟨#[]⟩=v at*;refine av.intro c45 100 (by simp) ?_;simp -implicitDefEqProofs only[YD,hT.tok.len,hT.tok.bW,hT.tok.bT,hT.tok.aZ,hT.tok.aW,hT.tok.get,go_sem];repeat' (first | ((first | (with_reducible first | refine bR dG ?_ | refine bR h5 ?_) | (with_reducible refine aD ?_));simp -implicitDefEqProofs only[hT.tok.len,hT.tok.bW,hT.tok.bT,hT.tok.aZ,hT.tok.aW,hT.tok.get,go_sem]) | (with_reducible refine aA.mk ?_ ?_) | (with_reducible refine And.intro ?_ ?_) | ((with_reducible refine bz ?_);simp -implicitDefEqProofs only[YE,hT.tok.len,hT.tok.bW,hT.tok.bT,hT.tok.aZ,hT.tok.aW,hT.tok.get,push_cast,go_sem_proc]) | intro _)
  all_goals exact⟨_,rfl⟩
theorem t40 (L:List Int) (a:Nat) (rs:List ByteArray) (ha:a<=900000) (hl:2<=rs.length) (jf:rs.length<=1000):∃r1 r2,MC 109 L a [.fs (rs.map .str)] (.dJ [.str r1,.str r2]) (a+2):=by
 have lC:=cq (L:=L) (a:=a) (n:=rs.length) (by omega) (by omega);have Dx:=cq (L:=L) (a:=a+1) (n:=(rs.length:Int) - 1) (by omega) (by omega);have h1:=t16 L a rs.length (by omega);have h2:=t16 L (a+1) ((rs.length:Int) - 1) (by omega);generalize dz L a rs.length=v1 at*;generalize dz L (a+1) ((rs.length:Int) - 1)=v2 at*;obtain⟨i,rfl⟩:∃i:Nat,v1=i:=⟨v1.toNat,by omega⟩;obtain⟨j,rfl⟩:∃j:Nat,v2=j:=⟨v2.toNat,by omega⟩;have w1:IntKind.i64.wrap ((i:Int)+1)=((i+1:Nat):Int):=bG (by omega);have w2:IntKind.i64.wrap ((rs.length:Int) - 1)=(rs.length:Int) - 1:=bP (by omega) (by omega);have w3:IntKind.i64.wrap (((i+1:Nat):Int)+(j:Int))=((i+(1+j):Nat):Int):=by rw[bP (by omega) (by omega)];omega
 have e1:((i+(1+j):Nat):Int).tmod (rs.length:Int)=(((i+(1+j)) % rs.length:Nat):Int):=rfl;have ct:(i+(1+j)) % rs.length<rs.length:=Nat.mod_lt _ (by omega);have SY:i<rs.length:=by omega
 have tN:(rs.map V.str).getD i .any=.str (rs.getD i ⟨#[]⟩):=by simp[List.getD,SY]
 have gB:(rs.map V.str).getD ((i+(1+j)) % rs.length) .any=.str (rs.getD ((i+(1+j)) % rs.length) ⟨#[]⟩):=by simp[List.getD,ct]
 have lV:¬((rs.length:Int)=0):=by omega
 refine⟨rs.getD i ⟨#[]⟩,rs.getD ((i+(1+j)) % rs.length) ⟨#[]⟩,fun ca N T hT=> ?_⟩;have h1:=h1 ca N T hT;have h2:=h2 ca N T hT;generalize rs.getD i ⟨#[]⟩=r1 at*;generalize rs.getD ((i+(1+j)) % rs.length) ⟨#[]⟩=r2 at*;refine av.intro c40 100 (by simp) ?_;simp -implicitDefEqProofs only[s40,w1,w2,w3,go_sem];repeat' (first | ((first | (with_reducible first | refine bR h1 ?_ | refine bR h2 ?_) | (with_reducible refine aD ?_));simp -implicitDefEqProofs only[w1,w2,w3,e1,ct,SY,tN,gB,lV,ne_eq,not_false_eq_true,go_sem]) | (with_reducible refine aA.mk ?_ ?_) | (with_reducible refine And.intro ?_ ?_) | ((with_reducible refine bz ?_);simp -implicitDefEqProofs only[r40,push_cast,go_sem_proc]) | intro _)
theorem gP {H A:List ak} (hl:A.length<=H.length) (h:∀j,j<A.length->H[j]? =A[j]?):∃J,H=A++J:=by
 refine⟨H.drop A.length,?_⟩;apply List.ext_getElem?
 intro i;by_cases hi:i<A.length
 ·rw[List.getElem?_append_left hi];exact h i hi
 ·rw[List.getElem?_append_right (by omega),List.getElem?_drop];congr 1;omega
theorem pP {σ:Type} {N:Nat} {T:σ->List ak} (hT:me N T) {a:σ} {L0 J:List ak} {esz bytes:Nat} {src:List V} {yv kv:V} {K:V->List ak->Prop} {acc:List V} (bm:OV (T a++(L0++J)) kv acc)
 (dW:∀j,j<N+L0.length->a7 kv j) (hy:∀i o l,yv≠ .ms i o l) (hh:df esz acc) (hb:(acc.length+src.length)*bytes<=140737488355328)
 (hk:∀bN J',OV (T a++(L0++J')) bN (acc++src)->(∀j,j<N+L0.length->a7 bN j)->K bN (T a++(L0++J'))):nh esz bytes src yv kv (T a++(L0++J)) K:=by
 refine cu bm (fun i o l h=>absurd h (hy i o l)) hh hb ?_;intro bN H' bo hle cp;have hlen:(T a++L0).length=N+L0.length:=by rw[List.length_append,hT.len]
 rw[<-List.append_assoc]at hle cp;obtain⟨J',rfl⟩:=gP (H:=H') (A:=T a++L0) (by rw[List.length_append]at hle;omega) (fun j hj=>by
  rw[(cp j (by rw[List.length_append];omega) (dW j (by omega))).1,List.getElem?_append_left hj])
 rw[List.append_assoc]at bo⊢;exact hk bN J' bo (fun j hj=>(cp j (by rw[List.length_append];omega) (dW j hj)).2)
theorem OV.BZ {A L0 L1 J:List ak} {kv:V} {acc:List V} {n:Nat} (h:OV (A++(L0++J)) kv acc) (hA:A.length=n) (hk:∀j,j<n+L0.length->a7 kv j) {B:List ak} (hB:B.length=n) (hl:L1.length=L0.length) (J2:List ak):OV (B++(L1++(J++J2))) kv acc:=by
 rcases h with h | ⟨h1,id,h2,h3⟩
 ·exact .inl h
 ·have hid:¬id<n+L0.length:=fun hx=>hk id hx 0 _ h2
  refine .inr ⟨h1,id,h2,?_⟩;rw[List.getElem?_append_right (by omega),List.getElem?_append_right (by omega)]at h3;rw[List.getElem?_append_right (by omega),List.getElem?_append_right (by omega),List.getElem?_append_left (by have:=(List.getElem?_eq_some_iff.1 h3).1;omega),<-h3];congr 1;omega
theorem ou {A X:List ak} {N:Nat} (hA:A.length=N):cQ (List.range' N X.length) (A++X)=List.replicate N .dead++X:=by
 apply List.ext_getElem?
 intro i;rw[cg];by_cases hi:i<N
 ·rw[List.getElem?_append_left (by omega),List.getElem?_append_left (by simpa using hi),List.getElem?_eq_getElem (by omega:i<A.length)];have:(List.range' N X.length).contains i=false:=by simp;omega
  simp[hi];omega
 ·rw[List.getElem?_append_right (by omega),List.getElem?_append_right (by simp;omega),hA,List.length_replicate];cases hx:X[i - N]? with
  | none=>rfl
  | some b=>
   have:=(List.getElem?_eq_some_iff.1 hx).1;have:(List.range' N X.length).contains i=true:=by simp;omega
   simp only[Option.map_some,this,if_true]
theorem ow {A X:List ak} {N:Nat} (hA:A.length=N):∃X',bO (List.range' N X.length) (A++X)=A++X':=by
 refine gP (by rw[gq];simp) (fun j hj=> ?_);rw[de,if_neg,List.getElem?_append_left hj];rintro⟨h,_⟩;simp at h;omega
theorem MS.rF {L:List Int} {ca N:Nat} {T:Nat->List ak} (hT:MS L ca N T) {g:FuncId} {vs:List V} {a a':Nat} {r:V} (hr:al r=true)
 (h:av Tryz.prog g vs (T a) (fun r' H'=>∃X,H'=T a'++X/\∃r2,fz (List.replicate N .dead++X) 20 r'=some r2/\r2=r)):av Tryz.prog g vs (T a) (bX r (T a')):=by
 refine hT.trim hr (av.fz (h.mono ?_));rintro r' H' ⟨X,rfl,r2,h1,rfl⟩;obtain⟨X',hX⟩:=ow (A:=T a') (X:=X) (hT.tok.len a');refine⟨List.range' N X.length,r2,?_,rfl,X',hX⟩;rw[ou (hT.tok.len a')];exact h1
def Dy:Nat->Nat
 | 0=>5
 | d+1=>10+3*Dy d
theorem Xa:∀d,5<=Dy d
 | 0=>Nat.le_refl _
 | d+1=>by simp[Dy];omega
theorem B3 (L:List Int) (a:Nat) (d:Int) (ha:a<=800000) (h:d<2):∃x,wE x=1/\MC 111 L a [.int .i64 d] (bu x) (a+2):=by
 obtain⟨x,hx,tJ⟩:=t45 L a (by omega);refine⟨x,hx,fun ca N T hT=>hT.BY (fm _) ?_⟩;have tJ:=tJ.at hT [.row [.agg [.int .i64 0,.int .i64 0,.str ⟨#[]⟩,.ag]]];rcases x with⟨k,n,s,xs⟩
 rw[bp]at tJ⊢;refine av.intro R5 100 (by simp) ?_;simp -implicitDefEqProofs only[Qu,hT.tok.len,hT.tok.bW,hT.tok.bT,hT.tok.aZ,hT.tok.aW,hT.tok.get,h,go_sem];repeat' (first | ((first | (with_reducible refine bR tJ ?_) | (with_reducible refine aD ?_));simp -implicitDefEqProofs only[hT.tok.len,hT.tok.bW,hT.tok.bT,hT.tok.aZ,hT.tok.aW,hT.tok.get,h,go_sem]) | (with_reducible refine aA.mk ?_ ?_) | (with_reducible refine And.intro ?_ ?_) | ((with_reducible refine bz ?_);simp -implicitDefEqProofs only[EH,hT.tok.len,hT.tok.bW,hT.tok.bT,hT.tok.aZ,hT.tok.aW,hT.tok.get,push_cast,go_sem_proc]) | intro _)
 all_goals exact⟨_,rfl⟩
theorem JC (L:List Int) (a:Nat) (d:Int) (ha:a<=800000) (h:¬d<2) (h0:dz L a 3=0):∃x,wE x=1/\MC 111 L a [.int .i64 d] (bu x) (a+3):=by
 obtain⟨x,hx,tJ⟩:=t45 L (a+1) (by omega);refine⟨x,hx,fun ca N T hT=>hT.BY (fm _) ?_⟩;have tJ:=tJ.at hT [.row [.agg [.int .i64 0,.int .i64 0,.str ⟨#[]⟩,.ag]]];have dG:=(t14 L a 3 (by omega)).at hT [.row [.agg [.int .i64 0,.int .i64 0,.str ⟨#[]⟩,.ag]]];rw[decide_eq_true h0]at dG;rcases x with⟨k,n,s,xs⟩
 rw[bp]at tJ⊢;refine av.intro R5 100 (by simp) ?_;simp -implicitDefEqProofs only[Qu,hT.tok.len,hT.tok.bW,hT.tok.bT,hT.tok.aZ,hT.tok.aW,hT.tok.get,h,go_sem];repeat' (first | ((first | (with_reducible first | refine bR tJ ?_ | refine bR dG ?_) | (with_reducible refine aD ?_));simp -implicitDefEqProofs only[hT.tok.len,hT.tok.bW,hT.tok.bT,hT.tok.aZ,hT.tok.aW,hT.tok.get,h,go_sem]) | (with_reducible refine aA.mk ?_ ?_) | (with_reducible refine And.intro ?_ ?_) | ((with_reducible refine bz ?_);simp -implicitDefEqProofs only[EH,hT.tok.len,hT.tok.bW,hT.tok.bT,hT.tok.aZ,hT.tok.aW,hT.tok.get,push_cast,go_sem_proc]) | intro _)
 all_goals exact⟨_,rfl⟩
def gD {α:Type} (f:Nat->α×Nat) (a:Nat):Nat->List α×Nat
 | 0=>([],a)
 | j+1=>((gD f a j).1++ [(f (gD f a j).2).1],(f (gD f a j).2).2)
theorem kT {α:Type} (f:Nat->α×Nat) (a:Nat):∀j,(gD f a j).1.length=j
 | 0=>rfl
 | j+1=>by simp[gD,kT f a j]
theorem qX {α:Type} (f:Nat->α×Nat) (w:List α->Nat) (C M:Nat) (QA:w []=0) (SZ:∀l x,w (l++ [x])<=w l+w [x]) (h:∀a,a<=M->a<=(f a).2/\(f a).2<=a+C/\w [(f a).1]<=C) (a:Nat):∀j,a+j*C<=M+C->a<=(gD f a j).2/\(gD f a j).2<=a+j*C/\w (gD f a j).1<=j*C
 | 0,_=>by simp[gD,QA]
 | j+1,hj=>by
  have h1:(j+1)*C=j*C+C:=Nat.succ_mul j C;obtain⟨h2,h3,h4⟩:=qX f w C M QA SZ h a j (by omega);obtain⟨h5,h6,h7⟩:=h (gD f a j).2 (by omega);have h8:=SZ (gD f a j).1 (f (gD f a j).2).1;simp only[gD];omega
theorem Zt (L:List Int) (a:Nat) (d:Int) (C:Nat) (ha:a+10+3*C<=700000) (hd:2<=d) (l3:d<=1000) (h0:¬dz L a 3=0)
 (h:∀a,a<=700000 - C->∃x a',a<=a'/\a'<=a+C/\wE x<=C/\MC 111 L a [.int .i64 (d - 1)] (bu x) a'):
 ∃x a',a<=a'/\a'<=a+10+3*C/\wE x<=10+3*C/\MC 111 L a [.int .i64 d] (bu x) a':=by
 have hf:∀a,∃p:Ex×Nat,a<=700000 - C->a<=p.2/\p.2<=a+C/\wE p.1<=C/\MC 111 L a [.int .i64 (d - 1)] (bu p.1) p.2:=fun a=>by
  by_cases ha:a<=700000 - C
  ·obtain⟨x,a',h1⟩:=h a ha;exact⟨(x,a'),fun _=>h1⟩
  ·exact⟨(.mk 0 0 ⟨#[]⟩ [],0),fun h=>absurd h ha⟩
 let f:Nat->Ex×Nat:=fun a=>Classical.choose (hf a)
 have hf:∀a,a<=700000 - C->a<=(f a).2/\(f a).2<=a+C/\wE (f a).1<=C/\MC 111 L a [.int .i64 (d - 1)] (bu (f a).1) (f a).2:=fun a=>Classical.choose_spec (hf a)
 generalize f=f at hf;generalize hk:([3,4,5,6,7,8,9]:List Int).getD (dz L (a+1) 7).toNat 0=k;obtain⟨m,hm⟩:∃m:Nat,m=if k=8 then 1 else if k=9 then 3 else 2:=⟨_,rfl⟩
 have hm3:m<=3:=by rw[hm];split;omega;split<;>omega
 have hI:=qX f sA C (700000 - C) rfl (fun l x=>by rw[oj];exact Nat.le_refl _) (fun a ha=>by obtain⟨h1,h2,h3,_⟩:=hf a ha;exact⟨h1,h2,by simpa[sA]using h3⟩) (a+2);have hmC:m*C<=3*C:=Nat.mul_le_mul_right C hm3;have hIm:=hI m (by omega);refine⟨.mk k 0 ⟨#[]⟩ (gD f (a+2) m).1,(gD f (a+2) m).2,by omega,by omega,by simp only[wE];omega,fun ca N T hT=>hT.rF (fm _) ?_⟩;have dG:=(t14 L a 3 (by omega)).at hT [.row [.agg [.int .i64 0,.int .i64 0,.str ⟨#[]⟩,.ag]]];rw[decide_eq_false h0]at dG;have h5:=(t5 L (a+1) [3,4,5,6,7,8,9] (by omega) (by simp) (by simp)).at hT [.row [.agg [.int .i64 0,.int .i64 0,.str ⟨#[]⟩,.ag]]];simp only[List.map_cons,List.map_nil,List.length_cons,List.length_nil,Nat.zero_add,Nat.reduceAdd]at h5;change av _ _ _ _ (bX (.int .i64 (([3,4,5,6,7,8,9]:List Int).getD (dz L (a+1) 7).toNat 0)) _)at h5;rw[hk]at h5;rw[bp];have sl:¬d<2:=by omega
 have w1:IntKind.i64.wrap (d - 1)=d - 1:=bP (by omega) (by omega);by_cases h8:k=8
 ·subst h8;obtain rfl:m=1:=by rw[hm];simp
  refine av.intro R5 200 (by simp) ?_;simp -implicitDefEqProofs only[Qu,hT.tok.len,hT.tok.bW,hT.tok.bT,hT.tok.aZ,hT.tok.aW,hT.tok.get,sl,show((8:Int)=9)=False by decide,go_sem];repeat' (first | ((first | (with_reducible first | refine bR dG ?_ | refine bR h5 ?_) | (with_reducible refine aD ?_));simp -implicitDefEqProofs only[hT.tok.len,hT.tok.bW,hT.tok.bT,hT.tok.aZ,hT.tok.aW,hT.tok.get,sl,show((8:Int)=9)=False by decide,go_sem]) | (with_reducible refine aA.mk ?_ ?_) | (with_reducible refine And.intro ?_ ?_) | ((with_reducible refine bz ?_);simp -implicitDefEqProofs only[EH,hT.tok.len,hT.tok.bW,hT.tok.bT,hT.tok.aZ,hT.tok.aW,hT.tok.get,push_cast,go_sem_proc]) | intro _)
  refine aL (fun q e H=>∃j kv J,q=1 - j/\j<=1/\e 0=.ptr ca 0 0/\e 1=.int .i64 d/\e 4=.ptr N 0 0/\e 5=.ptr (N+1) 0 0/\e 25=.int .i64 1/\e 26=.int .i64 j/\
   H=T (gD f (a+2) j).2++([ak.row [.agg [.int .i64 0,.int .i64 0,.str ⟨#[]⟩,.ag]],ak.row [.agg [.int .i64 8,.int .i64 0,.str ⟨#[]⟩,kv]]]++J)/\OV H kv ((gD f (a+2) j).1.map bu)/\∀i,i<N+2->a7 kv i) 1
   ⟨0,.ag,[],by simp,by simp,by simp[az,aC],by simp[az,aC],by simp[az,aC],by simp[az,aC],by simp[az,aC],by simp[az,aC],by simp[gD],.inl ⟨rfl,rfl⟩,(fun i _ a b h=>by cases h)⟩ ?_
  rintro q e H ⟨j,kv,J,rfl,hj,e0,e1,e4,e5,B5,B6,rfl,bm,fI⟩;have ba:=bm.cS;simp only[V.one]at ba;have cP:=bm.one;by_cases Ll:j=1
  ·subst Ll;have gg:¬(((1:Nat):Int)<1):=by omega
   simp -implicitDefEqProofs only[e0,e1,e4,e5,B5,B6,hT.tok.len,hT.tok.bW,hT.tok.bT,hT.tok.aZ,hT.tok.aW,hT.tok.get,gg,ba,cP,go_sem];have bJ:OV (List.replicate N .dead++([ak.row [.agg [.int .i64 8,.int .i64 0,.str ⟨#[]⟩,kv]],ak.row [.agg [.int .i64 8,.int .i64 0,.str ⟨#[]⟩,kv]]]++(J++ []))) kv ((gD f (a+2) 1).1.map bu):=
    bm.BZ (hT.tok.len _) fI (B:=List.replicate N .dead) (L1:=[ak.row [.agg [.int .i64 8,.int .i64 0,.str ⟨#[]⟩,kv]],ak.row [.agg [.int .i64 8,.int .i64 0,.str ⟨#[]⟩,kv]]]) List.length_replicate rfl []
   simp only[List.cons_append,List.nil_append,List.append_nil]at bJ;have hz:fz _ 19 kv=_:=dw (f:=bu) (n:=17) (fun H x=>pE H 16 x) bJ;simp -implicitDefEqProofs only[EH,hT.tok.len,hT.tok.bW,hT.tok.bT,hT.tok.aZ,hT.tok.aW,hT.tok.get,e4,ba,cP,push_cast,go_sem_proc];refine⟨_,rfl,?_⟩;simp -implicitDefEqProofs only[hz,push_cast,go_sem_proc]
  ·have hjC:j*C<=2*C:=Nat.mul_le_mul_right C (by omega);have Zu:=hI j (by omega);obtain⟨ky,jO,F4,Dz⟩:=hf (gD f (a+2) j).2 (by omega);have gg:((j:Int)<1):=by omega
   have fS:IntKind.i64.wrap ((j:Int)+1)=((j+1:Nat):Int):=bG (by omega);have hit:gD f (a+2) (j+1)=((gD f (a+2) j).1++ [(f (gD f (a+2) j).2).1],(f (gD f (a+2) j).2).2):=rfl;have dF:=kT f (a+2) j;generalize gD f (a+2) j=ij at*;generalize f ij.2=fj at*;rcases fj with⟨⟨k',n',s',zs⟩,b'⟩
   simp only[bp]at Dz;have tO:=Dz.at hT ([ak.row [.agg [.int .i64 0,.int .i64 0,.str ⟨#[]⟩,.ag]],ak.row [.agg [.int .i64 8,.int .i64 0,.str ⟨#[]⟩,kv]]]++J);simp only[List.cons_append,List.nil_append]at tO;simp -implicitDefEqProofs only[e0,e1,e4,e5,B5,B6,hT.tok.len,hT.tok.bW,hT.tok.bT,hT.tok.aZ,hT.tok.aW,hT.tok.get,gg,ba,cP,go_sem];repeat' (first | ((first | (with_reducible refine bR tO ?_) | (with_reducible refine aD ?_));simp -implicitDefEqProofs only[e0,e1,e4,e5,B5,B6,hT.tok.len,hT.tok.bW,hT.tok.bT,hT.tok.aZ,hT.tok.aW,hT.tok.get,gg,ba,cP,w1,go_sem]) | (with_reducible refine aA.mk ?_ ?_) | (with_reducible refine And.intro ?_ ?_) | ((with_reducible refine bz ?_);simp -implicitDefEqProofs only[EH,hT.tok.len,hT.tok.bW,hT.tok.bT,hT.tok.aZ,hT.tok.aW,hT.tok.get,push_cast,go_sem_proc]) | intro _)
   refine pP hT.tok (L0:=[ak.row [.agg [.int .i64 0,.int .i64 0,.str ⟨#[]⟩,.ag]],ak.row [.agg [.int .i64 8,.int .i64 0,.str ⟨#[]⟩,kv]]]) (J:=J) (acc:=ij.1.map bu) ?_ fI (fun i o l h=>by cases h) (pN _) (by simp;omega) ?_
   ·have:=bm.BZ (hT.tok.len _) fI (B:=T b') (L1:=[ak.row [.agg [.int .i64 0,.int .i64 0,.str ⟨#[]⟩,.ag]],ak.row [.agg [.int .i64 8,.int .i64 0,.str ⟨#[]⟩,kv]]]) (hT.tok.len _) rfl [];simpa only[List.append_nil]using this
   ·intro bN J' bo fG;have hone':=bo.cS;simp only[V.one]at hone';have gQ:=bo.one;try simp only[List.cons_append,List.nil_append]
    simp -implicitDefEqProofs only[e0,e1,e4,e5,B5,B6,hT.tok.len,hT.tok.bW,hT.tok.bT,hT.tok.aZ,hT.tok.aW,hT.tok.get,gg,ba,cP,hone',gQ,fS,go_sem];refine⟨1 - (j+1),by omega,j+1,bN,J',rfl,by omega,rfl,?_,?_,fG⟩
    ·rw[hit]
    ·rw[hit];have:=bo.BZ (hT.tok.len _) fG (B:=T b') (L1:=[ak.row [.agg [.int .i64 0,.int .i64 0,.str ⟨#[]⟩,.ag]],ak.row [.agg [.int .i64 8,.int .i64 0,.str ⟨#[]⟩,bN]]]) (hT.tok.len _) rfl [];simpa[bp]using this
 ·by_cases h9:k=9
  ·subst h9;obtain rfl:m=3:=by rw[hm];simp
   refine av.intro R5 200 (by simp) ?_;simp -implicitDefEqProofs only[Qu,hT.tok.len,hT.tok.bW,hT.tok.bT,hT.tok.aZ,hT.tok.aW,hT.tok.get,sl,h8,go_sem];repeat' (first | ((first | (with_reducible first | refine bR dG ?_ | refine bR h5 ?_) | (with_reducible refine aD ?_));simp -implicitDefEqProofs only[hT.tok.len,hT.tok.bW,hT.tok.bT,hT.tok.aZ,hT.tok.aW,hT.tok.get,sl,h8,go_sem]) | (with_reducible refine aA.mk ?_ ?_) | (with_reducible refine And.intro ?_ ?_) | ((with_reducible refine bz ?_);simp -implicitDefEqProofs only[EH,hT.tok.len,hT.tok.bW,hT.tok.bT,hT.tok.aZ,hT.tok.aW,hT.tok.get,push_cast,go_sem_proc]) | intro _)
   refine aL (fun q e H=>∃j kv J,q=3 - j/\j<=3/\e 0=.ptr ca 0 0/\e 1=.int .i64 d/\e 4=.ptr N 0 0/\e 5=.ptr (N+1) 0 0/\e 25=.int .i64 3/\e 26=.int .i64 j/\
    H=T (gD f (a+2) j).2++([ak.row [.agg [.int .i64 0,.int .i64 0,.str ⟨#[]⟩,.ag]],ak.row [.agg [.int .i64 9,.int .i64 0,.str ⟨#[]⟩,kv]]]++J)/\OV H kv ((gD f (a+2) j).1.map bu)/\∀i,i<N+2->a7 kv i) 3
    ⟨0,.ag,[],by simp,by simp,by simp[az,aC],by simp[az,aC],by simp[az,aC],by simp[az,aC],by simp[az,aC],by simp[az,aC],by simp[gD],.inl ⟨rfl,rfl⟩,(fun i _ a b h=>by cases h)⟩ ?_
   rintro q e H ⟨j,kv,J,rfl,hj,e0,e1,e4,e5,B5,B6,rfl,bm,fI⟩;have ba:=bm.cS;simp only[V.one]at ba;have cP:=bm.one;by_cases Ll:j=3
   ·subst Ll;have gg:¬(((3:Nat):Int)<3):=by omega
    simp -implicitDefEqProofs only[e0,e1,e4,e5,B5,B6,hT.tok.len,hT.tok.bW,hT.tok.bT,hT.tok.aZ,hT.tok.aW,hT.tok.get,gg,ba,cP,go_sem];have bJ:OV (List.replicate N .dead++([ak.row [.agg [.int .i64 9,.int .i64 0,.str ⟨#[]⟩,kv]],ak.row [.agg [.int .i64 9,.int .i64 0,.str ⟨#[]⟩,kv]]]++(J++ []))) kv ((gD f (a+2) 3).1.map bu):=
     bm.BZ (hT.tok.len _) fI (B:=List.replicate N .dead) (L1:=[ak.row [.agg [.int .i64 9,.int .i64 0,.str ⟨#[]⟩,kv]],ak.row [.agg [.int .i64 9,.int .i64 0,.str ⟨#[]⟩,kv]]]) List.length_replicate rfl []
    simp only[List.cons_append,List.nil_append,List.append_nil]at bJ;have hz:fz _ 19 kv=_:=dw (f:=bu) (n:=17) (fun H x=>pE H 16 x) bJ;simp -implicitDefEqProofs only[EH,hT.tok.len,hT.tok.bW,hT.tok.bT,hT.tok.aZ,hT.tok.aW,hT.tok.get,e4,ba,cP,push_cast,go_sem_proc];refine⟨_,rfl,?_⟩;simp -implicitDefEqProofs only[hz,push_cast,go_sem_proc]
   ·have hjC:j*C<=2*C:=Nat.mul_le_mul_right C (by omega);have Zu:=hI j (by omega);obtain⟨ky,jO,F4,Dz⟩:=hf (gD f (a+2) j).2 (by omega);have gg:((j:Int)<3):=by omega
    have fS:IntKind.i64.wrap ((j:Int)+1)=((j+1:Nat):Int):=bG (by omega);have hit:gD f (a+2) (j+1)=((gD f (a+2) j).1++ [(f (gD f (a+2) j).2).1],(f (gD f (a+2) j).2).2):=rfl;have dF:=kT f (a+2) j;generalize gD f (a+2) j=ij at*;generalize f ij.2=fj at*;rcases fj with⟨⟨k',n',s',zs⟩,b'⟩
    simp only[bp]at Dz;have tO:=Dz.at hT ([ak.row [.agg [.int .i64 0,.int .i64 0,.str ⟨#[]⟩,.ag]],ak.row [.agg [.int .i64 9,.int .i64 0,.str ⟨#[]⟩,kv]]]++J);simp only[List.cons_append,List.nil_append]at tO;simp -implicitDefEqProofs only[e0,e1,e4,e5,B5,B6,hT.tok.len,hT.tok.bW,hT.tok.bT,hT.tok.aZ,hT.tok.aW,hT.tok.get,gg,ba,cP,go_sem];repeat' (first | ((first | (with_reducible refine bR tO ?_) | (with_reducible refine aD ?_));simp -implicitDefEqProofs only[e0,e1,e4,e5,B5,B6,hT.tok.len,hT.tok.bW,hT.tok.bT,hT.tok.aZ,hT.tok.aW,hT.tok.get,gg,ba,cP,w1,go_sem]) | (with_reducible refine aA.mk ?_ ?_) | (with_reducible refine And.intro ?_ ?_) | ((with_reducible refine bz ?_);simp -implicitDefEqProofs only[EH,hT.tok.len,hT.tok.bW,hT.tok.bT,hT.tok.aZ,hT.tok.aW,hT.tok.get,push_cast,go_sem_proc]) | intro _)
    refine pP hT.tok (L0:=[ak.row [.agg [.int .i64 0,.int .i64 0,.str ⟨#[]⟩,.ag]],ak.row [.agg [.int .i64 9,.int .i64 0,.str ⟨#[]⟩,kv]]]) (J:=J) (acc:=ij.1.map bu) ?_ fI (fun i o l h=>by cases h) (pN _) (by simp;omega) ?_
    ·have:=bm.BZ (hT.tok.len _) fI (B:=T b') (L1:=[ak.row [.agg [.int .i64 0,.int .i64 0,.str ⟨#[]⟩,.ag]],ak.row [.agg [.int .i64 9,.int .i64 0,.str ⟨#[]⟩,kv]]]) (hT.tok.len _) rfl [];simpa only[List.append_nil]using this
    ·intro bN J' bo fG;have hone':=bo.cS;simp only[V.one]at hone';have gQ:=bo.one;try simp only[List.cons_append,List.nil_append]
     simp -implicitDefEqProofs only[e0,e1,e4,e5,B5,B6,hT.tok.len,hT.tok.bW,hT.tok.bT,hT.tok.aZ,hT.tok.aW,hT.tok.get,gg,ba,cP,hone',gQ,fS,go_sem];refine⟨3 - (j+1),by omega,j+1,bN,J',rfl,by omega,rfl,?_,?_,fG⟩
     ·rw[hit]
     ·rw[hit];have:=bo.BZ (hT.tok.len _) fG (B:=T b') (L1:=[ak.row [.agg [.int .i64 0,.int .i64 0,.str ⟨#[]⟩,.ag]],ak.row [.agg [.int .i64 9,.int .i64 0,.str ⟨#[]⟩,bN]]]) (hT.tok.len _) rfl [];simpa[bp]using this
  ·obtain rfl:m=2:=by rw[hm];simp[h8,h9]
   refine av.intro R5 200 (by simp) ?_;simp -implicitDefEqProofs only[Qu,hT.tok.len,hT.tok.bW,hT.tok.bT,hT.tok.aZ,hT.tok.aW,hT.tok.get,sl,h8,h9,go_sem];repeat' (first | ((first | (with_reducible first | refine bR dG ?_ | refine bR h5 ?_) | (with_reducible refine aD ?_));simp -implicitDefEqProofs only[hT.tok.len,hT.tok.bW,hT.tok.bT,hT.tok.aZ,hT.tok.aW,hT.tok.get,sl,h8,h9,go_sem]) | (with_reducible refine aA.mk ?_ ?_) | (with_reducible refine And.intro ?_ ?_) | ((with_reducible refine bz ?_);simp -implicitDefEqProofs only[EH,hT.tok.len,hT.tok.bW,hT.tok.bT,hT.tok.aZ,hT.tok.aW,hT.tok.get,push_cast,go_sem_proc]) | intro _)
   refine aL (fun q e H=>∃j kv J,q=2 - j/\j<=2/\e 0=.ptr ca 0 0/\e 1=.int .i64 d/\e 4=.ptr N 0 0/\e 5=.ptr (N+1) 0 0/\e 25=.int .i64 2/\e 26=.int .i64 j/\
    H=T (gD f (a+2) j).2++([ak.row [.agg [.int .i64 0,.int .i64 0,.str ⟨#[]⟩,.ag]],ak.row [.agg [.int .i64 k,.int .i64 0,.str ⟨#[]⟩,kv]]]++J)/\OV H kv ((gD f (a+2) j).1.map bu)/\∀i,i<N+2->a7 kv i) 2
    ⟨0,.ag,[],by simp,by simp,by simp[az,aC],by simp[az,aC],by simp[az,aC],by simp[az,aC],by simp[az,aC],by simp[az,aC],by simp[gD],.inl ⟨rfl,rfl⟩,(fun i _ a b h=>by cases h)⟩ ?_
   rintro q e H ⟨j,kv,J,rfl,hj,e0,e1,e4,e5,B5,B6,rfl,bm,fI⟩;have ba:=bm.cS;simp only[V.one]at ba;have cP:=bm.one;by_cases Ll:j=2
   ·subst Ll;have gg:¬(((2:Nat):Int)<2):=by omega
    simp -implicitDefEqProofs only[e0,e1,e4,e5,B5,B6,hT.tok.len,hT.tok.bW,hT.tok.bT,hT.tok.aZ,hT.tok.aW,hT.tok.get,gg,ba,cP,go_sem];have bJ:OV (List.replicate N .dead++([ak.row [.agg [.int .i64 k,.int .i64 0,.str ⟨#[]⟩,kv]],ak.row [.agg [.int .i64 k,.int .i64 0,.str ⟨#[]⟩,kv]]]++(J++ []))) kv ((gD f (a+2) 2).1.map bu):=
     bm.BZ (hT.tok.len _) fI (B:=List.replicate N .dead) (L1:=[ak.row [.agg [.int .i64 k,.int .i64 0,.str ⟨#[]⟩,kv]],ak.row [.agg [.int .i64 k,.int .i64 0,.str ⟨#[]⟩,kv]]]) List.length_replicate rfl []
    simp only[List.cons_append,List.nil_append,List.append_nil]at bJ;have hz:fz _ 19 kv=_:=dw (f:=bu) (n:=17) (fun H x=>pE H 16 x) bJ;simp -implicitDefEqProofs only[EH,hT.tok.len,hT.tok.bW,hT.tok.bT,hT.tok.aZ,hT.tok.aW,hT.tok.get,e4,ba,cP,push_cast,go_sem_proc];refine⟨_,rfl,?_⟩;simp -implicitDefEqProofs only[hz,push_cast,go_sem_proc]
   ·have hjC:j*C<=2*C:=Nat.mul_le_mul_right C (by omega);have Zu:=hI j (by omega);obtain⟨ky,jO,F4,Dz⟩:=hf (gD f (a+2) j).2 (by omega);have gg:((j:Int)<2):=by omega
    have fS:IntKind.i64.wrap ((j:Int)+1)=((j+1:Nat):Int):=bG (by omega);have hit:gD f (a+2) (j+1)=((gD f (a+2) j).1++ [(f (gD f (a+2) j).2).1],(f (gD f (a+2) j).2).2):=rfl;have dF:=kT f (a+2) j;generalize gD f (a+2) j=ij at*;generalize f ij.2=fj at*;rcases fj with⟨⟨k',n',s',zs⟩,b'⟩
    simp only[bp]at Dz;have tO:=Dz.at hT ([ak.row [.agg [.int .i64 0,.int .i64 0,.str ⟨#[]⟩,.ag]],ak.row [.agg [.int .i64 k,.int .i64 0,.str ⟨#[]⟩,kv]]]++J);simp only[List.cons_append,List.nil_append]at tO;simp -implicitDefEqProofs only[e0,e1,e4,e5,B5,B6,hT.tok.len,hT.tok.bW,hT.tok.bT,hT.tok.aZ,hT.tok.aW,hT.tok.get,gg,ba,cP,go_sem];repeat' (first | ((first | (with_reducible refine bR tO ?_) | (with_reducible refine aD ?_));simp -implicitDefEqProofs only[e0,e1,e4,e5,B5,B6,hT.tok.len,hT.tok.bW,hT.tok.bT,hT.tok.aZ,hT.tok.aW,hT.tok.get,gg,ba,cP,w1,go_sem]) | (with_reducible refine aA.mk ?_ ?_) | (with_reducible refine And.intro ?_ ?_) | ((with_reducible refine bz ?_);simp -implicitDefEqProofs only[EH,hT.tok.len,hT.tok.bW,hT.tok.bT,hT.tok.aZ,hT.tok.aW,hT.tok.get,push_cast,go_sem_proc]) | intro _)
    refine pP hT.tok (L0:=[ak.row [.agg [.int .i64 0,.int .i64 0,.str ⟨#[]⟩,.ag]],ak.row [.agg [.int .i64 k,.int .i64 0,.str ⟨#[]⟩,kv]]]) (J:=J) (acc:=ij.1.map bu) ?_ fI (fun i o l h=>by cases h) (pN _) (by simp;omega) ?_
    ·have:=bm.BZ (hT.tok.len _) fI (B:=T b') (L1:=[ak.row [.agg [.int .i64 0,.int .i64 0,.str ⟨#[]⟩,.ag]],ak.row [.agg [.int .i64 k,.int .i64 0,.str ⟨#[]⟩,kv]]]) (hT.tok.len _) rfl [];simpa only[List.append_nil]using this
    ·intro bN J' bo fG;have hone':=bo.cS;simp only[V.one]at hone';have gQ:=bo.one;try simp only[List.cons_append,List.nil_append]
     simp -implicitDefEqProofs only[e0,e1,e4,e5,B5,B6,hT.tok.len,hT.tok.bW,hT.tok.bT,hT.tok.aZ,hT.tok.aW,hT.tok.get,gg,ba,cP,hone',gQ,fS,go_sem];refine⟨2 - (j+1),by omega,j+1,bN,J',rfl,by omega,rfl,?_,?_,fG⟩
     ·rw[hit]
     ·rw[hit];have:=bo.BZ (hT.tok.len _) fG (B:=T b') (L1:=[ak.row [.agg [.int .i64 0,.int .i64 0,.str ⟨#[]⟩,.ag]],ak.row [.agg [.int .i64 k,.int .i64 0,.str ⟨#[]⟩,bN]]]) (hT.tok.len _) rfl [];simpa[bp]using this
theorem t42 (L:List Int):∀(d a:Nat),d<=5->a+Dy d<=700000->∃x a',a<=a'/\a'<=a+Dy d/\wE x<=Dy d/\MC 111 L a [.int .i64 d] (bu x) a'
 | 0,a,_,ha=>by
  obtain⟨x,hx,h⟩:=B3 L a (0:Nat) (by simp only[Dy]at ha;omega) (by omega);exact⟨x,a+2,by omega,by simp only[Dy];omega,by simp only[Dy];omega,h⟩
 | d+1,a,hd,ha=>by
  simp only[Dy]at ha⊢;by_cases h2:((d+1:Nat):Int)<2
  ·obtain⟨x,hx,h⟩:=B3 L a (d+1:Nat) (by omega) h2;exact⟨x,a+2,by omega,by omega,by omega,h⟩
  ·by_cases h0:dz L a 3=0
   ·obtain⟨x,hx,h⟩:=JC L a (d+1:Nat) (by omega) h2 h0;exact⟨x,a+3,by omega,by omega,by omega,h⟩
   ·obtain⟨x,a',h3,h4,h5,h6⟩:=Zt L a (d+1:Nat) (Dy d) (by omega) (by omega) (by omega) h0 (fun a' NW=>by
     have:=t42 L d a' (by omega) (by omega);rwa[show((d+1:Nat):Int) - 1=(d:Nat) by omega])
    exact⟨x,a',h3,by omega,by omega,h6⟩
theorem NX {l:List Int} {i:Nat} (h:i<l.length):(l.map (V.int .i64)).getD i .any=.int .i64 (l.getD i 0):=by simp[List.getD,h]
theorem F5 (l:List Int) (i:Nat) (v:Int):(l.map (V.int .i64)).set i (.int .i64 v)=(l.set i v).map (.int .i64):=by rw[List.map_set]
theorem pQ (l:List Int):df 1 (l.map (V.int .i64)):=cA (V.int .i64) 1 (fun _=>rfl) l
def pR (n:Nat):List Int:=(List.range n).map (fun(i:Nat)=>(i:Int))
theorem DA (n:Nat):pR (n+1)=pR n++ [(n:Int)]:=by simp[pR,List.range_succ]
theorem iy (n:Nat):(pR n).length=n:=by simp[pR]
def tP (L:List Int):Nat->List Int->Nat->List Int×Nat
 | 0,l,a=>(l,a)
 | i+1,l,a=>
  let k:=(dz L a ((i+2:Nat):Int)).toNat
  tP L i ((l.set (i+1) (l.getD k 0)).set k (l.getD (i+1) 0)) (a+1)
theorem vW (L:List Int) (n:Nat):∀(i:Nat) (l:List Int) (a:Nat),i<n->l.length=n->(∀x∈l,0<=x/\x<n)->(tP L i l a).1.length=n/\(∀x∈(tP L i l a).1,0<=x/\x<n)/\(tP L i l a).2=a+i
 | 0,l,a,_,hl,h=>⟨hl,h,rfl⟩
 | i+1,l,a,hi,hl,h=>by
  have hd:∀j,0<=l.getD j 0/\l.getD j 0<n:=by
   intro j;by_cases hj:j<l.length
   ·have:l.getD j 0=l[j]:=by simp[List.getD,hj]
    rw[this];exact h _ (List.getElem_mem hj)
   ·have:l.getD j 0=0:=by simp[List.getD,hj]
    rw[this];omega
  have:=vW L n i ((l.set (i+1) (l.getD (dz L a ((i+2:Nat):Int)).toNat 0)).set (dz L a ((i+2:Nat):Int)).toNat (l.getD (i+1) 0)) (a+1) (by omega) (by simp[hl]) (fun x hx=>by
   rcases List.mem_or_eq_of_mem_set hx with hx | rfl
   ·rcases List.mem_or_eq_of_mem_set hx with hx | rfl
    ·exact h x hx
    ·exact hd _
   ·exact hd _)
  simp only[tP];refine⟨this.1,this.2.1,by rw[this.2.2];omega⟩
theorem t43 (L:List Int) (a n:Nat) (hn:1<=n) (nY:n<=12) (ha:a<=700000):∃(l:List Int) (a':Nat),l.length=n/\(∀x∈l,0<=x/\x<n)/\a<=a'/\a'<=a+n/\MC 112 L a [.int .i64 n] (.fs (l.map (.int .i64))) a':=by
 obtain⟨h1,h2,h3⟩:=vW L n (n - 1) (pR n) a (by omega) (iy n) (fun x hx=>by simp[pR]at hx;omega);refine⟨(tP L (n - 1) (pR n) a).1,(tP L (n - 1) (pR n) a).2,h1,h2,by rw[h3];omega,by rw[h3];omega,fun ca N T hT=>hT.rF (by simp only[al];exact aS _) ?_⟩;refine av.intro c43 200 (by simp) ?_;simp -implicitDefEqProofs only[s43,go_sem];refine aL (fun q e H=>∃j kv J,q=n - j/\j<=n/\e 0=.ptr ca 0 0/\e 1=.int .i64 n/\e 5=kv/\e 9=.int .i64 n/\e 10=.int .i64 j/\H=T a++([]++J)/\OV H kv ((pR j).map (.int .i64))/\∀i,i<N+0->a7 kv i) n
  ⟨0,.ag,[],by simp,by simp,by simp[az,aC],by simp[az,aC],by simp[az,aC],by simp[az,aC],by simp[az,aC],by simp,.inl ⟨rfl,rfl⟩,(fun i _ a b h=>by cases h)⟩ ?_
 rintro q e H ⟨j,kv,J,rfl,hj,e0,e1,e5,e9,Xb,rfl,bm,fI⟩;by_cases nZ:j=n
 ·subst nZ;have gg:¬((j:Int)<j):=by omega
  have w1:IntKind.i64.wrap ((j:Int) - 1)=((j - 1:Nat):Int):=by rw[bP (by omega) (by omega)];omega
  simp -implicitDefEqProofs only[e0,e1,e5,e9,Xb,hT.tok.len,hT.tok.bW,hT.tok.bT,hT.tok.aZ,hT.tok.aW,hT.tok.get,gg,w1,go_sem];obtain⟨id,eJ,hid⟩:∃id,kv=.ms (N+id) 0 j/\J[id]? =some (.row ((pR j).map (.int .i64))):=by
   rcases bm with⟨h,_⟩ | ⟨_,id,h4,h5⟩
   ·have:=congrArg List.length h;simp[iy]at this;omega
   ·have nJ:¬id<N:=fun h=>fI id (by omega) 0 _ h4
    refine⟨id - N,by rw[h4];simp[iy];omega,?_⟩;rw[List.nil_append,List.getElem?_append_right (by rw[hT.tok.len];omega),hT.tok.len]at h5;exact h5
  subst eJ;have jl:=(List.getElem?_eq_some_iff.1 hid).1;refine aL (fun q e H=>∃i l a' J,q=i/\i<j/\l.length=j/\e 0=.ptr ca 0 0/\e 5=.ms (N+id) 0 j/\e 7=.int .i64 (i:Nat)/\H=T a'++J/\J[id]? =some (.row ((l:List Int).map (.int .i64)))/\a'<=700000+12 - i/\(tP L i l a')=tP L (j - 1) (pR j) a) (j - 1)
   ⟨j - 1,pR j,a,J,rfl,by omega,iy j,by simp[az,e0],by simp[az,e5],by simp[az],rfl,hid,by omega,rfl⟩ ?_
  clear hid jl bm e0 e1 e5 e9 Xb;rintro q e H ⟨i,l,a',J,rfl,hi,hl,e0,e5,e7,rfl,hid,NW,hsh⟩;have jl:=(List.getElem?_eq_some_iff.1 hid).1;cases q with
  | zero=>
   have QB:¬((0:Int)<((0:Nat):Int)):=by omega
   simp only[tP]at hsh;simp -implicitDefEqProofs only[e0,e5,e7,hT.tok.len,hT.tok.bW,hT.tok.bT,hT.tok.aZ,hT.tok.aW,hT.tok.get,QB,go_sem];rw[<-hsh];have hz:fz (List.replicate N .dead++J) 20 (.ms (N+id) 0 j)=some (.fs (l.map (.int .i64))):=by
    have:(List.replicate N ak.dead++J)[N+id]? =some (.row (l.map (.int .i64))):=by
     rw[List.getElem?_append_right (by simp),List.length_replicate,Nat.add_sub_cancel_left];exact hid
    rw[iu,this,ef,if_pos (by simp[hl]),List.drop_zero,List.take_of_length_le (by simp[hl]),dg _ _ (fun x=>jZ _ _ _ _)];rfl
   simp -implicitDefEqProofs only[YA,push_cast,go_sem_proc];exact⟨_,rfl,_,hz,rfl⟩
  | succ i=>
   have hb:=cq (L:=L) (a:=a') (n:=((i+2:Nat):Int)) (by omega) (by omega);have cZ:=(t16 L a' ((i+2:Nat):Int) (by omega)).at hT J;simp only[tP]at hsh;generalize dz L a' ((i+2:Nat):Int)=v at*;obtain⟨k,rfl⟩:∃k:Nat,v=k:=⟨v.toNat,by omega⟩;have FA:((0:Int)<((i+1:Nat):Int)):=by omega
   have w2:IntKind.i64.wrap (((i+1:Nat):Int)+1)=((i+2:Nat):Int):=by rw[bP (by omega) (by omega)];omega
   have w3:IntKind.i64.wrap (((i+1:Nat):Int) - 1)=(i:Int):=by rw[bP (by omega) (by omega)];omega
   have hk:k<j:=by omega
   have pJ:∀x,(J.set id x)[id]? =some x:=fun x=>List.getElem?_set_self jl
   have zR:(l.map (V.int .i64)).getD k .any=.int .i64 (l.getD k 0):=NX (by omega);have tQ:(l.map (V.int .i64)).getD (i+1) .any=.int .i64 (l.getD (i+1) 0):=NX (by omega);have Zv:((l.set (i+1) (l.getD k 0)).map (V.int .i64)).getD k .any=.int .i64 ((l.set (i+1) (l.getD k 0)).getD k 0):=NX (by simp;omega);simp -implicitDefEqProofs only[e0,e5,e7,hT.tok.len,hT.tok.bW,hT.tok.bT,hT.tok.aZ,hT.tok.aW,hT.tok.get,FA,w2,go_sem];repeat' (first | ((first | (with_reducible refine bR cZ ?_) | (with_reducible refine aD ?_));simp -implicitDefEqProofs only[e0,e5,e7,hT.tok.len,hT.tok.bW,hT.tok.bT,hT.tok.aZ,hT.tok.aW,hT.tok.get,FA,w2,w3,hid,pJ,zR,tQ,Zv,F5,hk,hi,hl,List.length_set,List.set_set,Nat.le_refl,go_sem]) | (with_reducible refine aA.mk ?_ ?_) | (with_reducible refine And.intro ?_ ?_) | ((with_reducible refine bz ?_);simp -implicitDefEqProofs only[YA,push_cast,go_sem_proc]) | intro _)
   simp only[Int.toNat_natCast]at hsh;exact⟨i,by omega,i,_,a'+1,_,rfl,by omega,by simp[hl],rfl,rfl,pJ _,by omega,hsh⟩
 ·have gg:((j:Int)<n):=by omega
  have fS:IntKind.i64.wrap ((j:Int)+1)=((j+1:Nat):Int):=bG (by omega);simp -implicitDefEqProofs only[e0,e1,e5,e9,Xb,hT.tok.len,hT.tok.bW,hT.tok.bT,hT.tok.aZ,hT.tok.aW,hT.tok.get,gg,fS,go_sem];refine pP hT.tok (L0:=[]) (J:=J) (acc:=(pR j).map (.int .i64)) ?_ fI (fun i o l h=>by cases h) (pQ _) (by simp[iy];omega) ?_
  ·simpa using bm
  ·intro bN J' bo fG;simp -implicitDefEqProofs only[e0,e1,e5,e9,Xb,hT.tok.len,hT.tok.bW,hT.tok.bT,hT.tok.aZ,hT.tok.aW,hT.tok.get,gg,fS,go_sem];refine⟨n - (j+1),by omega,j+1,bN,J',rfl,by omega,rfl,rfl,rfl,?_,fG⟩;rw[DA];simpa using bo
def AD:Int->List Int->Int
 | st,[]=>st
 | st,c::l=>AD (if st=0 then c else st) l
theorem jr:∀(a b:List Int) (st:Int),AD st (a++b)=AD (AD st a) b
 | [],b,st=>rfl
 | c::a,b,st=>by rw[List.cons_append,AD,jr a b,AD]
theorem F6:∀(l:List Int) (st:Int),st≠0->AD st l=st
 | [],st,_=>rfl
 | c::l,st,h=>by rw[AD,if_neg h];exact F6 l st h
def QC (P:bH) (y:mV):Int:=Zp P y.2.1 y.1
mutual
theorem JD (P:bH):∀(x:St) (pr:Int) (la:Bool) (st n:Int),SR (fun st n x=>Im P st n pr x) st x n=AD st ((nu x pr la).map (QC P))
 | .mk k r t v l e a b p ps,pr,la,st,n=>by
  rw[SR,tR P a pr la,tR P b pr la,nu,List.map_cons,List.map_append,AD,jr];rfl
theorem tR (P:bH):∀(l:List St) (pr:Int) (la:Bool) (st n:Int),fE (fun st n x=>Im P st n pr x) st l n=AD st ((gC l pr la).map (QC P))
 | [],_,_,_,_=>rfl
 | x::l,pr,la,st,n=>by
  rw[fE,JD P x pr (la && l.isEmpty),tR P l pr la,gC,List.map_append,jr]
end
theorem F7 (P:bH):∀(l:List Pr) (i:Nat) (st n:Int),fP (Im P) st l i n=AD st ((spP l i).map (QC P))
 | [],_,_,_=>rfl
 | q::l,i,st,n=>by
  rw[fP,tR P q.steps i true,F7 P l (i+1),spP,List.map_append,jr]
theorem JE (P:bH):NQ (Im P) 0 P=AD 0 ((cw P).map (QC P)):=by
 rw[NQ,tR P P.main (-1) true,F7,cw,List.map_append,jr]
theorem B7 (P:bH):∀l:List mV,EK P l=AD 0 (l.map (vf P))
 | []=>rfl
 | x::l=>by
  rw[EK,List.map_cons,AD];by_cases h:vf P x=0
  ·simp only[h,if_true,ne_eq,not_true_eq_false,if_false];exact B7 P l
  ·simp only[if_true,ne_eq,h,not_false_eq_true,F6 _ _ h]
mutual
theorem JF:∀(x:St) (pr:Int) (la:Bool) (d:Int),sF x d=0->∀y∈nu x pr la,∃d',kq y.1 d'=0
 | .mk k r t v l e a b p ps,pr,la,d,h=>by
  intro y hy;simp only[sF]at h;by_cases h1:kq (.mk k r t v l e a b p ps) d≠0
  ·rw[if_pos h1]at h;exact absurd h h1
  ·rw[if_neg h1]at h;by_cases h2:gA a (d+1)≠0
   ·rw[if_pos h2]at h;exact absurd h h2
   ·rw[if_neg h2]at h;simp only[nu,List.mem_cons,List.mem_append]at hy;rcases hy with rfl | hy | hy
    ·exact⟨d,by simpa using h1⟩
    ·exact pT a pr la (d+1) (by simpa using h2) y hy
    ·exact pT b pr la (d+1) h y hy
theorem pT:∀(l:List St) (pr:Int) (la:Bool) (d:Int),gA l d=0->∀y∈gC l pr la,∃d',kq y.1 d'=0
 | [],_,_,_,_=>by intro y hy;simp[gC]at hy
 | x::l,pr,la,d,h=>by
  intro y hy;rw[gA]at h;by_cases h1:sF x d≠0
  ·rw[if_pos h1]at h;exact absurd h h1
  ·rw[if_neg h1]at h;simp only[gC,List.mem_append]at hy;rcases hy with hy | hy
   ·exact JF x pr _ d (by simpa using h1) y hy
   ·exact pT l pr la d h y hy
end
theorem B9:∀(l pre:List Pr) (i:Nat),rC pre l=0->∀y∈spP l i,∃d',kq y.1 d'=0
 | [],_,_,_=>by intro y hy;simp[spP]at hy
 | q::l,pre,i,h=>by
  intro y hy;rw[rC]at h;by_cases h1:pF pre q≠0
  ·rw[if_pos h1]at h;exact absurd h h1
  ·rw[if_neg h1]at h;have h1:pF pre q=0:=by simpa using h1
   simp only[spP,List.mem_append]at hy;rcases hy with hy | hy
   ·refine pT q.steps _ _ 1 ?_ y hy;rw[pF]at h1;repeat' split at h1
    all_goals first | (exact absurd h1 (by decide)) | (exact absurd h1 (by assumption)) | exact h1
   ·exact B9 l (pre++ [q]) (i+1) h y hy
theorem DB (P:bH) (h:np P=0):∀y∈cw P,∃d',kq y.1 d'=0:=by
 intro y hy;rw[np]at h;by_cases h1:P.procs.length>50
 ·rw[if_pos h1]at h;exact absurd h (by decide)
 ·rw[if_neg h1]at h;by_cases h2:rC [] P.procs≠0
  ·rw[if_pos h2]at h;exact absurd h h2
  ·rw[if_neg h2]at h;by_cases h3:gA P.main 1≠0
   ·rw[if_pos h3]at h;exact absurd h h3
   ·simp only[cw,List.mem_append]at hy;rcases hy with hy | hy
    ·exact pT _ _ _ 1 (by simpa using h3) y hy
    ·exact B9 _ [] 0 (by simpa using h2) y hy
theorem JG (P:bH) (y:mV) (d:Int) (h:kq y.1 d=0):QC P y=vf P y:=by
 rcases y with⟨⟨k,r,t,v,l,⟨ek,en,es,aR⟩,a,b,p,ps⟩,pr,la⟩
 simp only[QC,Zp,vf,cF,oF,kq,rA]at*;have hd:¬d>20:=by intro hd;rw[if_pos hd]at h;exact absurd h (by decide)
 rw[if_neg hd]at h;have hk:¬(k<1\/5<k):=by intro hd;rw[if_pos hd]at h;exact absurd h (by decide)
 rw[if_neg hk]at h;have hf:yK k r t v l (isNone ek en es aR) a.length b.length p ps.length=0:=by
  refine Classical.byContradiction fun hf=> ?_
  rw[if_pos hf]at h;exact absurd h (by decide)
 rw[if_neg (by simpa using hf)]at h;have hn:zO k r t v l p=0:=by
  refine Classical.byContradiction fun hf=> ?_
  rw[if_pos hf]at h;exact absurd h (by decide)
 have key:∀X:Int,(if nE t=true/\r=t then 6 else if k≠5 then 0 else X)=if k≠5 then(if t=r then 6 else 0)else X:=by
  intro X;by_cases h5:k=5
  ·subst h5;have ht:nE t=false:=by
    refine Classical.byContradiction fun ht=> ?_
    have:nE t=true:=by simpa using ht
    unfold yK at hf
    rw[if_pos (.inr (.inl ⟨by omega,this⟩))]at hf;exact absurd hf (by decide)
   simp[ht]
  ·have hr:dt r=true:=by
    refine Classical.byContradiction fun ht=> ?_
    have:dt r=false:=by simpa using ht
    unfold zO at hn
    rw[if_pos (.inl ⟨by omega,this⟩)]at hn;exact absurd hn (by decide)
   have lJ:nE r=true:=by
    unfold nE
    refine Classical.byContradiction fun hx=> ?_
    have hx:r=⟨#[]⟩:=by simpa using hx
    subst hx;exact absurd hr (by decide)
   by_cases Zw:t=r
   ·subst Zw;simp[h5,lJ]
   ·have:¬r=t:=fun h=>Zw h.symm
    simp[h5,Zw,this]
 rw[key];cases gN P pr<;>cases P.procs.find? (fun z=>decide (z.name=p))<;>rfl
theorem yR (P:bH):rE P=lK P:=by
 rw[rE,lK];by_cases h:np P=0
 ·simp only[h,ne_eq,not_true_eq_false,if_false];rw[JE,B7];congr 1
  apply List.map_congr_left
  intro y hy;obtain⟨d,hd⟩:=DB P h y hy;exact JG P y d hd
 ·simp only[ne_eq,h,not_false_eq_true,if_true]
abbrev Hd:=ByteArray×List ByteArray
def dH (h:Hd):V:=.agg [.str h.1,.fs (h.2.map .str)]
def uR:Ex:=.mk 0 0 ⟨#[]⟩ []
def em:ByteArray:=⟨#[]⟩
def vh (L:List Int) (a:Nat):Int:=([1,1,1,2,3,3,4,4,5]:List Int).getD (dz L a 9).toNat 0
theorem Ca (L:List Int) (a:Nat):vh L a=1\/vh L a=2\/vh L a=3\/vh L a=4\/vh L a=5:=by
 have hb:=cq (L:=L) (a:=a) (n:=9) (by omega) (by omega);unfold vh
 generalize dz L a 9=v at*;obtain⟨k,rfl⟩:∃k:Nat,v=k:=⟨v.toNat,by omega⟩;have:k=0\/k=1\/k=2\/k=3\/k=4\/k=5\/k=6\/k=7\/k=8:=by omega
 rcases this with rfl | rfl | rfl | rfl | rfl | rfl | rfl | rfl | rfl<;>simp
def uS (L:List Int) (a:Nat) (l:List ByteArray):ByteArray:=l.getD (dz L a l.length).toNat ⟨#[]⟩
def lD:List ByteArray:=[⟨#[120]⟩,⟨#[121]⟩,⟨#[122]⟩]
def F8:List ByteArray:=[⟨#[121,101,115]⟩,⟨#[110,111]⟩,⟨#[103,111]⟩]
def one (L:List Int) (au:List ByteArray) (d:Int) (ax:List Hd) (tw:Nat->ByteArray×ByteArray) (eC eP:Nat->Ex×Nat) (od:Nat->List Int×Nat) (sb:Nat->List St×Nat) (a:Nat):List St×Nat:=
 let k0:=vh L (a+2)
 let k:=if(k0=4/\d<2)\/(k0=5/\ax=[])then 3 else k0
 if k=1 then([.mk 1 (tw a).1 (tw a).2 (uS L (a+3) lD) em (eC (a+4)).1 [] [] em []],(eC (a+4)).2)
 else if k=2 then([.mk 2 (tw a).1 (tw a).2 em (uS L (a+3) F8) uR [] [] em []],a+4)
 else if k=3 then([.mk 3 (tw a).1 em (uS L (a+3) lD) em (eP (a+4)).1 [] [] em []],(eP (a+4)).2)
 else if k=4 then([.mk 4 (tw a).1 em em em (eC (a+3)).1 (sb (eC (a+3)).2).1 (sb (sb (eC (a+3)).2).2).1 em []],(sb (sb (eC (a+3)).2).2).2)
 else
  let h:=ax.getD (dz L (a+3) ax.length).toNat (em,[])
  if h.2.length>au.length then([],a+4)
  else([.mk 5 em em em em uR [] [] h.1 (((od (a+4)).1.take h.2.length).map fun i=>au.getD i.toNat em)],(od (a+4)).2)
def ox (N:Nat) (xs:List St):V:=if xs=[]then .ag else .ms N 0 xs.length
def nw (xs:List St):List ak:=if xs=[]then[]else[.row (xs.map encS)]
def Zx (k:FuncId) (L:List Int) (a:Nat) (args:List V) (xs:List St) (a':Nat):Prop:=∀ca N T,MS L ca N T->av Tryz.prog k (.ptr ca 0 0::args) (T a) (bX (ox N xs) (T a'++nw xs))
def QD (k:FuncId) (L:List Int) (a:Nat) (args:List V) (xs:List St) (a':Nat):Prop:=∀ca N T,MS L ca N T->av Tryz.prog k (.ptr ca 0 0::args) (T a) (fun r H'=>∃X,H'=T a'++X/\OV (T a'++X) r (xs.map encS)/\∀i,i<N->a7 r i)
theorem OV.tail {A X:List ak} {kv:V} {acc:List V} {n:Nat} (h:OV (A++X) kv acc) (hA:A.length=n) (hk:∀j,j<n->a7 kv j) {B:List ak} (hB:B.length=n):OV (B++X) kv acc:=by
 have:=OV.BZ (L0:=[]) (L1:=[]) (J:=X) (by simpa using h) hA (by simpa using hk) hB rfl [];simpa using this
theorem QD.fz {k:FuncId} {L:List Int} {a a':Nat} {args:List V} {xs:List St} (h:QD k L a args xs a'):MC k L a args (.fs (xs.map encS)) a':=by
 intro ca N T hT;refine hT.rF (by simp only[al];exact ah _) ((h ca N T hT).mono ?_);rintro r H' ⟨X,rfl,bm,hk⟩;exact⟨X,rfl,_,dw (f:=encS) (n:=18) (fun H x=>fz_encS H 17 x) (bm.tail (hT.tok.len _) hk List.length_replicate),rfl⟩
theorem QD.S3 {k:FuncId} {L:List Int} {a a':Nat} {args:List V} {xs:List St} (h:QD k L a args xs a'):Zx k L a args xs a':=by
 intro ca N T hT;by_cases hx:xs=[]
 ·subst hx;simp only[ox,nw,if_true,List.append_nil];refine hT.trim rfl ((h ca N T hT).mono ?_);rintro r H' ⟨X,rfl,bm,hk⟩;rcases bm with⟨_,rfl⟩ | ⟨h1,_⟩
  ·exact⟨rfl,X,rfl⟩
  ·exact absurd rfl h1
 ·simp only[ox,nw,if_neg hx];refine av.R3 ((h ca N T hT).mono ?_);rintro r H' ⟨X,rfl,bm,hk⟩;rcases bm with⟨h1,_⟩ | ⟨h1,id,rfl,hid⟩
  ·exact absurd (by simpa using h1) hx
  ·have nJ:¬id<N:=fun hl=>hk id hl 0 _ rfl
   rw[List.getElem?_append_right (by rw[hT.tok.len];omega),hT.tok.len]at hid;refine⟨T a',X,id - N,0,xs.length,xs.map encS,rfl,by rw[hT.tok.len,hT.tok.len],hT.tok.row _ _,?_,hid,ah _,?_⟩
   ·rw[hT.tok.len,List.length_map];congr 1;omega
   ·rw[hT.tok.len];exact⟨rfl,rfl⟩
end Go.Proofs.YtdgoeblpcnjlbaaGreatDoor.Av
namespace Go.Proofs.YtdgoeblpcnjlbaaGreatDoor.Av
open Go.RowKit List
def yS:aB:=(.seq (.region [cL 19 .lss 18 17]) (.seq (.cond (sT 19) .skip (.exit 0)) (.seq (.block 1 (.seq (.region [cM 20 2 16 18,bU 21 2 20,⟨some 6,.alloc (.agg [.str ⟨#[]⟩,.ag]),none⟩,⟨none,.store 2 (sT 6) (sT 21),none⟩]) (.seq (.region [ab 22 0,bw 23 36 [.tmp 22,.val (.int .i64 2)]]) (.cond (sT 23) (.region [ab 24 4,bU 25 2 6,⟨some 26,.aJ 2 [.tmp 25],none⟩,⟨some 27,.append 2 40 (sT 24) (sT 26),none⟩,ab 4 27]) .skip)))) (.region [bC 28 .add 18 (.int .i64 1),ab 18 28]))))
def sB:aB:=(.region [aN 61 0 3,aH 62 61,aN 63 0 8,aH 64 63,aN 65 1 8,aH 66 65,ab 67 9,⟨some 68,.build [.str ⟨#[]⟩,.ag,.ag] [(0,1,.tmp 64),(1,1,.tmp 66),(2,1,.tmp 67)],none⟩,⟨some 69,.aJ 3 [.tmp 68],none⟩,⟨some 70,.append 3 64 (sT 62) (sT 69),none⟩,aN 71 0 3,⟨none,.store 1 (sT 71) (sT 70),none⟩])
def pU:aB:=(.seq (.seq (.region [ab 44 0,bw 45 38 [.tmp 44,.val (.int .i64 6)]]) (.block 4 (.seq (.seq (.region [bC 47 .eql 45 (.int .i64 0),ab 46 47]) (.cond (sT 46) .skip (.region [bC 48 .eql 45 (.int .i64 1),ab 46 48]))) (.cond (sT 46) (.region [ab 49 9,ab 50 0,bU 51 2 8,bw 52 39 [.tmp 50,.tmp 51],⟨some 53,.append 13 216 (sT 49) (sT 52),none⟩,ab 9 53]) (.seq (.region [bC 55 .eql 45 (.int .i64 2),ab 54 55]) (.cond (sT 54) (.region [ab 56 0,aN 57 1 8,aH 58 57,ab 59 4,bw 60 37 [.tmp 56,.tmp 58,.val (.int .i64 2),.val (.int .i64 3),.tmp 59],ab 9 60]) .skip))))))
 sB)
def yT:aB:=(.seq (.region [cL 32 .lss 31 30]) (.seq (.cond (sT 32) .skip (.exit 2)) (.seq (.block 3 (.seq (.region [ab 33 31,cM 34 2 29 31,bU 35 2 34,⟨some 8,.alloc (.agg [.str ⟨#[]⟩,.ag]),none⟩,ab 7 33,⟨none,.store 2 (sT 8) (sT 35),none⟩]) (.seq (.qregion [⟨ab 36 0,false,0,0,0⟩,⟨aN 37 1 8,false,0,0,0⟩,⟨aH 38 37,false,0,0,2⟩,⟨ab 39 4,false,0,0,0⟩,⟨ab 40 7,false,0,0,0⟩,⟨bC 41 .add 40 (.int .i64 1),false,0,0,16⟩,⟨⟨some 42,.slice 2 (sT 39) (some (sT 41)) none,none⟩,false,0,0,56⟩,⟨bw 43 37 [.tmp 36,.tmp 38,.val (.int .i64 2),.val (.int .i64 3),.tmp 42],true,0,0,127⟩,⟨ab 9 43,false,1,1,255⟩])
 pU))) (.region [bC 72 .add 31 (.int .i64 1),ab 31 72]))))
def sC:aB:=(.seq (.seq (.region [ab 78 0,bw 79 36 [.tmp 78,.val (.int .i64 12)]]) (.cond (sT 79) (.region [ab 80 0,bw 81 40 [.tmp 80,.tmp 3]]) .skip)) (.seq (.region [bU 82 2 3,⟨none,.store 2 (sT 2) (sT 82),none⟩])
 .ret))
def sm4:aB:=(.seq (.region [⟨some 2,.alloc (.agg [.ag,.ag]),none⟩]) (.seq (.region [⟨some 3,.alloc (.agg [.ag,.ag]),none⟩]) (.seq (.region [aQ 4 (.ag)]) (.seq (.seq (.region [⟨some 10,.aJ 1 [.val (.str ⟨#[113]⟩),.val (.str ⟨#[114]⟩)],none⟩,⟨some 11,.build [.str ⟨#[]⟩,.ag] [(0,1,.val (.str ⟨#[102]⟩)),(1,1,.tmp 10)],none⟩,⟨some 12,.aJ 1 [.val (.str ⟨#[113]⟩),.val (.str ⟨#[114]⟩),.val (.str ⟨#[116]⟩)],none⟩,⟨some 13,.build [.str ⟨#[]⟩,.ag] [(0,1,.val (.str ⟨#[103]⟩)),(1,1,.tmp 12)],none⟩,⟨some 14,.aJ 1 [.val (.str ⟨#[113]⟩),.val (.str ⟨#[114]⟩)],none⟩,⟨some 15,.build [.str ⟨#[]⟩,.ag] [(0,1,.val (.str ⟨#[104]⟩)),(1,1,.tmp 14)],none⟩,⟨some 16,.aJ 2 [.tmp 11,.tmp 13,.tmp 15],none⟩,cJ 17 16,aQ 18 (.int .i64 0)]) (.block 0 (.loop yS))) (.seq (.seq (.region [⟨some 4,.nS 4,none⟩,ab 29 4,cJ 30 29,aQ 31 (.int .i64 0)]) (.block 2 (.loop yT))) (.seq (.region [ab 73 0,⟨some 74,.aJ 1 [.val (.str ⟨#[97]⟩),.val (.str ⟨#[98]⟩),.val (.str ⟨#[99]⟩)],none⟩,ab 75 4,bw 76 37 [.tmp 73,.tmp 74,.val (.int .i64 3),.val (.int .i64 5),.tmp 75],aN 77 1 3,⟨none,.store 1 (sT 77) (sT 76),none⟩])
 sC))))))
def EL:List a8:=[.cell true 2 2]
theorem cm4:aG Tryz.prog 6 sm4 EL 83:=codeOk Tryz.func6 rfl rfl
def wX:aB:=(.seq (.region [cL 79 .lss 78 77]) (.seq (.cond (sT 79) .skip (.exit 3)) (.seq (.block 4 (.seq (.region [cM 80 1 76 78,aH 81 80,ab 17 81]) (.qregion [⟨aN 82 12 14,false,0,0,0⟩,⟨aH 83 82,false,0,0,1⟩,⟨ab 84 1,false,0,0,0⟩,⟨ab 85 17,false,0,0,0⟩,⟨cM 86 1 84 85,false,0,0,12⟩,⟨aH 87 86,false,0,0,28⟩,⟨⟨some 88,.aJ 1 [.tmp 87],none⟩,false,0,0,60⟩,⟨⟨some 89,.append 1 16 (sT 83) (sT 88),none⟩,true,0,0,127⟩,⟨aN 90 12 14,false,1,1,255⟩,⟨⟨none,.store 1 (sT 90) (sT 89),none⟩,true,0,0,511⟩]))) (.region [bC 91 .add 78 (.int .i64 1),ab 78 91]))))
def jt:aB:=(.seq (.region [cL 22 .lss 21 20]) (.seq (.cond (sT 22) .skip (.exit 0)) (.seq (.block 1 (.seq (.region [ab 24 0,ab 25 1,bw 26 109 [.tmp 24,.tmp 25],ab 23 26,⟨some 27,.extract (sT 23) 0,none⟩,⟨some 28,.extract (sT 23) 1,none⟩,ab 12 27,ab 13 28]) (.seq (.region [ab 29 0,⟨some 30,.aJ 1 [.val (.int .i64 1),.val (.int .i64 1),.val (.int .i64 1),.val (.int .i64 2),.val (.int .i64 3),.val (.int .i64 3),.val (.int .i64 4),.val (.int .i64 4),.val (.int .i64 5)],none⟩,bw 31 110 [.tmp 29,.tmp 30],⟨some 32,.build [.int .i64 0,.str ⟨#[]⟩,.str ⟨#[]⟩,.str ⟨#[]⟩,.str ⟨#[]⟩,.int .i64 0,.int .i64 0,.str ⟨#[]⟩,.ag,.ag,.ag,.str ⟨#[]⟩,.ag] [(0,1,.tmp 31)],none⟩,⟨some 14,.alloc (.agg [.int .i64 0,.str ⟨#[]⟩,.str ⟨#[]⟩,.str ⟨#[]⟩,.str ⟨#[]⟩,.int .i64 0,.int .i64 0,.str ⟨#[]⟩,.ag,.ag,.ag,.str ⟨#[]⟩,.ag]),none⟩,⟨none,.store 13 (sT 14) (sT 32),none⟩]) (.seq (.seq (.region [aN 33 0 14,aH 34 33,bC 35 .eql 34 (.int .i64 4),ab 36 35,fD 37 2 36 true,⟨some 38,.bin .lss (sT 37) (.val (.int .i64 2)),(some (36,true))⟩,⟨some 39,.pick (sT 36) (sT 38) (.val (.bool false)),none⟩,ab 40 39,dP 41 0 14 40 false,dy 42 41 40 false,⟨some 43,.bin .eql (sT 42) (.val (.int .i64 5)),(some (40,false))⟩,fD 44 43 40 false,fD 45 4 44 true,⟨some 46,.len false (sT 45),(some (44,true))⟩,⟨some 47,.bin .eql (sT 46) (.val (.int .i64 0)),(some (44,true))⟩,⟨some 48,.pick (sT 44) (sT 47) (.val (.bool false)),(some (40,false))⟩,⟨some 49,.pick (sT 40) (.val (.bool true)) (sT 48),none⟩]) (.cond (sT 49) (.region [aN 50 0 14,⟨none,.store 1 (sT 50) (.val (.int .i64 3)),none⟩]) .skip)) (.seq (.seq (.region [aN 51 0 14,aH 52 51]) (.block 2 (.seq (.region [bC 93 .eql 52 (.int .i64 1),ab 92 93]) (.cond (sT 92) (.region [ab 94 12,ab 95 13,ab 96 0,⟨some 97,.aJ 1 [.val (.str ⟨#[120]⟩),.val (.str ⟨#[121]⟩),.val (.str ⟨#[122]⟩)],none⟩,bw 98 63 [.tmp 96,.tmp 97],ab 99 0,bw 100 111 [.tmp 99,.val (.int .i64 2)],aN 101 1 14,⟨none,.store 1 (sT 101) (sT 94),none⟩,aN 102 2 14,⟨none,.store 1 (sT 102) (sT 95),none⟩,aN 103 3 14,⟨none,.store 1 (sT 103) (sT 98),none⟩,aN 104 5 14,⟨none,.store 4 (sT 104) (sT 100),none⟩]) (.seq (.region [bC 106 .eql 52 (.int .i64 2),ab 105 106]) (.cond (sT 105) (.region [ab 107 12,ab 108 13,ab 109 0,⟨some 110,.aJ 1 [.val (.str ⟨#[121,101,115]⟩),.val (.str ⟨#[110,111]⟩),.val (.str ⟨#[103,111]⟩)],none⟩,bw 111 63 [.tmp 109,.tmp 110],aN 112 1 14,⟨none,.store 1 (sT 112) (sT 107),none⟩,aN 113 2 14,⟨none,.store 1 (sT 113) (sT 108),none⟩,aN 114 4 14,⟨none,.store 1 (sT 114) (sT 111),none⟩]) (.seq (.region [bC 116 .eql 52 (.int .i64 3),ab 115 116]) (.cond (sT 115) (.region [ab 117 12,ab 118 0,⟨some 119,.aJ 1 [.val (.str ⟨#[120]⟩),.val (.str ⟨#[121]⟩),.val (.str ⟨#[122]⟩)],none⟩,bw 120 63 [.tmp 118,.tmp 119],ab 121 0,bw 122 111 [.tmp 121,.val (.int .i64 3)],aN 123 1 14,⟨none,.store 1 (sT 123) (sT 117),none⟩,aN 124 3 14,⟨none,.store 1 (sT 124) (sT 120),none⟩,aN 125 5 14,⟨none,.store 4 (sT 125) (sT 122),none⟩]) (.seq (.region [bC 127 .eql 52 (.int .i64 4),ab 126 127]) (.cond (sT 126) (.seq (.region [ab 128 12,ab 129 0,bw 130 111 [.tmp 129,.val (.int .i64 2)],aN 131 1 14,⟨none,.store 1 (sT 131) (sT 128),none⟩,aN 132 5 14,⟨none,.store 4 (sT 132) (sT 130),none⟩]) (.region [ab 133 0,ab 134 1,ab 135 2,bC 136 .sub 135 (.int .i64 1),ab 137 4,bw 138 37 [.tmp 133,.tmp 134,.tmp 136,.val (.int .i64 2),.tmp 137],ab 139 0,ab 140 1,ab 141 2,bC 142 .sub 141 (.int .i64 1),ab 143 4,bw 144 37 [.tmp 139,.tmp 140,.tmp 142,.val (.int .i64 2),.tmp 143],aN 145 9 14,⟨none,.store 1 (sT 145) (sT 138),none⟩,aN 146 10 14,⟨none,.store 1 (sT 146) (sT 144),none⟩])) (.seq (.region [ab 53 4,ab 54 0,ab 55 4,cJ 56 55,bw 57 38 [.tmp 54,.tmp 56],cM 58 2 53 57,bU 59 2 58,⟨some 15,.alloc (.agg [.str ⟨#[]⟩,.ag]),none⟩,⟨none,.store 2 (sT 15) (sT 59),none⟩]) (.seq (.seq (.region [aN 60 1 15,aH 61 60,cJ 62 61,ab 63 1,cJ 64 63,cL 65 .gtr 62 64]) (.cond (sT 65) (.exit 1) .skip)) (.seq (.region [aN 66 0 15,aH 67 66,aN 68 11 14,⟨none,.store 1 (sT 68) (sT 67),none⟩]) (.seq (.qregion [⟨ab 69 0,false,0,0,0⟩,⟨ab 70 1,false,0,0,0⟩,⟨cJ 71 70,false,0,0,2⟩,⟨bw 72 112 [.tmp 69,.tmp 71],true,0,0,7⟩,⟨aN 73 1 15,false,0,1,0⟩,⟨aH 74 73,false,0,1,16⟩,⟨cJ 75 74,false,0,1,48⟩,⟨⟨some 76,.slice 1 (sT 72) none (some (sT 75)),none⟩,false,1,1,127⟩,⟨cJ 77 76,false,1,1,255⟩,⟨aQ 78 (.int .i64 0),false,0,1,0⟩]) (.block 3 (.loop wX)))))))))))))))) (.region [ab 147 11,bU 148 13 14,⟨some 148,.nS 148,none⟩,⟨some 149,.aJ 13 [.tmp 148],none⟩,⟨some 150,.append 13 216 (sT 147) (sT 149),none⟩,ab 11 150])))))) (.region [bC 151 .add 21 (.int .i64 1),ab 21 151]))))
def S4:aB:=(.seq (.region [aQ 10 (.ag)]) (.seq (.region [aQ 11 (.ag)]) (.seq (.seq (.region [ab 18 0,ab 19 3,bw 20 108 [.tmp 18,.val (.int .i64 0),.tmp 19],aQ 21 (.int .i64 0)]) (.block 0 (.loop jt))) (.seq (.region [ab 152 11,ab 10 152])
 .ret))))
def tS:List a8:=[.tmp 10]
theorem Zy:aG Tryz.prog 37 S4 tS 153:=codeOk Tryz.func37 rfl rfl
def NY:aB:=(.seq (.region [⟨some 3,.box (sT 1),none⟩,aQ 4 (.fs [])]) (.seq (.region [aN 11 1 3,aH 12 11,⟨some 13,.gk 1 (sT 12) (.val (.int .i64 0)),none⟩,aH 14 13,ab 5 14]) (.seq (.region [⟨some 15,.build [.int .i64 0,.int .i64 0,.str ⟨#[]⟩,.fs []] [(0,1,.val (.int .i64 1)),(1,1,.val (.int .i64 1))],none⟩,⟨some 16,.build [.int .i64 0,.int .i64 0,.str ⟨#[]⟩,.fs []] [(0,1,.val (.int .i64 2)),(2,1,.val (.str ⟨#[120]⟩))],none⟩,⟨some 6,.alloc (.agg [.int .i64 0,.int .i64 0,.str ⟨#[]⟩,.ag]),none⟩,⟨some 7,.alloc (.agg [.int .i64 0,.int .i64 0,.str ⟨#[]⟩,.ag]),none⟩,⟨none,.store 4 (sT 6) (sT 15),none⟩,⟨none,.store 4 (sT 7) (sT 16),none⟩]) (.seq (.region [ab 17 5,bU 18 4 7,bU 19 4 6,⟨some 20,.aJ 4 [.tmp 18,.tmp 19],none⟩,⟨some 21,.build [.int .i64 0,.int .i64 0,.str ⟨#[]⟩,.fs []] [(0,1,.val (.int .i64 4)),(3,1,.tmp 20)],none⟩,⟨some 22,.build [.int .i64 0,.str ⟨#[]⟩,.str ⟨#[]⟩,.str ⟨#[]⟩,.str ⟨#[]⟩,.int .i64 0,.int .i64 0,.str ⟨#[]⟩,.fs [],.fs [],.fs [],.str ⟨#[]⟩,.fs []] [(0,1,.val (.int .i64 3)),(1,1,.tmp 17),(3,1,.val (.str ⟨#[120]⟩)),(5,4,.tmp 21)],none⟩,⟨some 23,.jW 13 [.tmp 22],none⟩,ab 8 23]) (.seq (.seq (.region [aN 24 1 3,aH 25 24,cJ 26 25,bC 27 .gtr 26 (.int .i64 1)]) (.cond (sT 27) (.qregion [⟨ab 28 8,false,0,2,0⟩,⟨ab 29 5,false,0,2,0⟩,⟨aN 30 1 3,false,0,2,0⟩,⟨aH 31 30,false,0,2,4⟩,⟨⟨some 32,.gk 1 (sT 31) (.val (.int .i64 1)),none⟩,false,0,2,12⟩,⟨aH 33 32,false,0,2,28⟩,⟨ab 34 0,false,0,0,0⟩,⟨⟨some 35,.aJ 1 [.val (.str ⟨#[120]⟩),.val (.str ⟨#[121]⟩)],none⟩,false,0,0,0⟩,⟨bw 36 63 [.tmp 34,.tmp 35],true,0,0,192⟩,⟨ab 37 0,false,0,1,0⟩,⟨bw 38 114 [.tmp 37],true,0,0,960⟩,⟨⟨some 39,.build [.int .i64 0,.str ⟨#[]⟩,.str ⟨#[]⟩,.str ⟨#[]⟩,.str ⟨#[]⟩,.int .i64 0,.int .i64 0,.str ⟨#[]⟩,.fs [],.fs [],.fs [],.str ⟨#[]⟩,.fs []] [(0,1,.val (.int .i64 1)),(1,1,.tmp 29),(2,1,.tmp 33),(3,1,.tmp 36),(5,4,.tmp 38)],none⟩,false,2,2,2046⟩,⟨⟨some 40,.aJ 13 [.tmp 39],none⟩,false,2,2,4094⟩,⟨⟨some 41,.append 13 216 (sT 28) (sT 40),none⟩,true,0,0,8191⟩,⟨ab 8 41,false,3,3,16383⟩]) .skip)) (.seq (.pregion [⟨aN 42 0 3,false,0,1,0⟩,⟨aH 43 42,false,0,1,1⟩,⟨aN 44 1 3,false,0,0,0⟩,⟨aH 45 44,false,0,0,4⟩,⟨bw 46 69 [.tmp 45],true,0,0,12⟩,⟨⟨some 47,.build [.int .i64 0,.str ⟨#[]⟩,.str ⟨#[]⟩,.str ⟨#[]⟩,.str ⟨#[]⟩,.int .i64 0,.int .i64 0,.str ⟨#[]⟩,.fs [],.fs [],.fs [],.str ⟨#[]⟩,.fs []] [(0,1,.val (.int .i64 5)),(11,1,.tmp 43),(12,1,.tmp 46)],none⟩,false,1,1,31⟩,⟨⟨some 9,.du,none⟩,false,0,1,0⟩] 9 6 (some (.agg [.int .i64 0,.str ⟨#[]⟩,.str ⟨#[]⟩,.str ⟨#[]⟩,.str ⟨#[]⟩,.int .i64 0,.int .i64 0,.str ⟨#[]⟩,.ag,.ag,.ag,.str ⟨#[]⟩,.ag])) [⟨none,.store 13 (sT 9) (sT 47),none⟩]) (.seq (.seq (.region [ab 48 0,bw 49 36 [.tmp 48,.val (.int .i64 3)],ab 50 49,dP 51 1 3 50 true,dy 52 51 50 true,⟨some 53,.len false (sT 52),(some (50,true))⟩,⟨some 54,.bin .eql (sT 53) (.val (.int .i64 2)),(some (50,true))⟩,⟨some 55,.pick (sT 50) (sT 54) (.val (.bool false)),none⟩]) (.cond (sT 55) (.region [aN 56 12 9,aH 57 56,bw 58 115 [.tmp 57]]) .skip)) (.seq (.region [ab 59 8,bU 60 13 9,⟨some 61,.aJ 13 [.tmp 60],none⟩,⟨some 62,.append 13 216 (sT 59) (sT 61),none⟩,ab 8 62]) (.seq (.seq (.region [ab 63 0,bw 64 36 [.tmp 63,.val (.int .i64 4)]]) (.cond (sT 64) (.region [ab 65 8,ab 66 5,ab 67 0,bw 68 114 [.tmp 67],⟨some 69,.build [.int .i64 0,.str ⟨#[]⟩,.str ⟨#[]⟩,.str ⟨#[]⟩,.str ⟨#[]⟩,.int .i64 0,.int .i64 0,.str ⟨#[]⟩,.fs [],.fs [],.fs [],.str ⟨#[]⟩,.fs []] [(0,1,.val (.int .i64 3)),(1,1,.tmp 66),(3,1,.val (.str ⟨#[122]⟩)),(5,4,.tmp 68)],none⟩,⟨some 70,.aJ 13 [.tmp 69],none⟩,⟨some 71,.append 13 216 (sT 65) (sT 70),none⟩,ab 8 71]) .skip)) (.seq (.region [⟨some 72,.build [.int .i64 0,.int .i64 0,.str ⟨#[]⟩,.fs []] [(0,1,.val (.int .i64 1))],none⟩,bU 73 4 7,⟨some 74,.aJ 4 [.tmp 72,.tmp 73],none⟩,⟨some 75,.build [.int .i64 0,.int .i64 0,.str ⟨#[]⟩,.fs []] [(0,1,.val (.int .i64 6)),(3,1,.tmp 74)],none⟩,⟨some 10,.alloc (.agg [.int .i64 0,.int .i64 0,.str ⟨#[]⟩,.ag]),none⟩,⟨none,.store 4 (sT 10) (sT 75),none⟩]) (.seq (.seq (.region [ab 76 0,bw 77 36 [.tmp 76,.val (.int .i64 2)]]) (.cond (sT 77) (.region [bU 78 4 7,⟨none,.store 4 (sT 10) (sT 78),none⟩]) .skip)) (.seq (.region [ab 79 5,bU 80 4 10,ab 81 8,⟨some 82,.build [.int .i64 0,.str ⟨#[]⟩,.str ⟨#[]⟩,.str ⟨#[]⟩,.str ⟨#[]⟩,.int .i64 0,.int .i64 0,.str ⟨#[]⟩,.fs [],.fs [],.fs [],.str ⟨#[]⟩,.fs []] [(0,1,.val (.int .i64 4)),(1,1,.tmp 79),(5,4,.tmp 80),(9,1,.tmp 81)],none⟩,⟨some 82,.nS 82,none⟩,⟨some 83,.aJ 13 [.tmp 82],none⟩,ab 4 83])
 .ret))))))))))))
def F9:List a8:=[.tmp 4]
theorem S5:aG Tryz.prog 39 NY F9 84:=codeOk Tryz.func39 rfl rfl
def wY:aB:=(.seq (.region [cL 79 .lss 78 77]) (.seq (.cond (sT 79) .skip (.exit 1)) (.seq (.block 2 (.qregion [⟨ab 80 6,false,0,1,0⟩,⟨ab 81 0,false,0,0,0⟩,⟨⟨some 82,.aJ 1 [.val (.str ⟨#[97]⟩),.val (.str ⟨#[113]⟩)],none⟩,false,0,0,0⟩,⟨bw 83 63 [.tmp 81,.tmp 82],true,0,0,6⟩,⟨⟨some 84,.build [.int .i64 0,.int .i64 0,.str ⟨#[]⟩,.fs []] [(0,1,.val (.int .i64 1))],none⟩,false,0,1,0⟩,⟨ab 85 6,false,0,1,0⟩,⟨⟨some 86,.b5 (sT 85),none⟩,false,0,1,32⟩,⟨bU 87 13 86,false,0,1,96⟩,⟨⟨some 88,.aJ 13 [.tmp 87],none⟩,false,0,1,224⟩,⟨⟨some 89,.build [.int .i64 0,.str ⟨#[]⟩,.str ⟨#[]⟩,.str ⟨#[]⟩,.str ⟨#[]⟩,.int .i64 0,.int .i64 0,.str ⟨#[]⟩,.fs [],.fs [],.fs [],.str ⟨#[]⟩,.fs []] [(0,1,.val (.int .i64 4)),(1,1,.tmp 83),(5,4,.tmp 84),(9,1,.tmp 88)],none⟩,false,1,1,510⟩,⟨⟨some 90,.b5 (sT 80),none⟩,false,1,1,1023⟩,⟨⟨none,.store 13 (sT 90) (sT 89),none⟩,true,0,0,2047⟩])) (.region [bC 91 .add 78 (.int .i64 1),ab 78 91]))))
def eQ:aB:=(.seq (.seq (.region [ab 64 4,cJ 65 64,bC 66 .eql 65 (.int .i64 0)]) (.cond (sT 66) .ret .skip)) (.seq (.region [ab 67 4,ab 68 0,ab 69 4,cJ 70 69,bw 71 38 [.tmp 68,.tmp 70],cM 72 13 67 71,ab 6 72]) (.seq (.region [ab 73 0,bw 74 38 [.tmp 73,.val (.int .i64 6)]]) (.block 0 (.seq (.region [bC 93 .eql 74 (.int .i64 0),ab 92 93]) (.cond (sT 92) (.region [ab 94 6,ab 95 0,bw 96 116 [.tmp 95,.val (.int .i64 1),.val (.int .i64 5)],⟨some 97,.b5 (sT 94),none⟩,aN 98 0 97,⟨none,.store 1 (sT 98) (sT 96),none⟩]) (.seq (.region [bC 100 .eql 74 (.int .i64 1),ab 99 100]) (.cond (sT 99) (.qregion [⟨ab 101 6,false,0,2,0⟩,⟨ab 102 6,false,0,3,0⟩,⟨ab 103 0,false,0,0,0⟩,⟨ab 104 6,false,0,0,0⟩,⟨⟨some 105,.b5 (sT 104),none⟩,false,0,0,8⟩,⟨aN 106 1 105,false,0,0,24⟩,⟨aH 107 106,false,0,0,56⟩,⟨⟨some 108,.aJ 1 [.tmp 107,.val (.str ⟨#[]⟩),.val (.str ⟨#[97]⟩),.val (.str ⟨#[113]⟩),.val (.str ⟨#[65]⟩)],none⟩,false,0,0,120⟩,⟨bw 109 63 [.tmp 103,.tmp 108],true,0,0,252⟩,⟨ab 110 0,false,0,1,0⟩,⟨ab 111 6,false,0,1,0⟩,⟨⟨some 112,.b5 (sT 111),none⟩,false,0,1,1024⟩,⟨aN 113 2 112,false,0,1,3072⟩,⟨aH 114 113,false,0,1,7168⟩,⟨⟨some 115,.aJ 1 [.tmp 114,.val (.str ⟨#[97]⟩),.val (.str ⟨#[113]⟩),.val (.str ⟨#[]⟩)],none⟩,false,0,1,15360⟩,⟨bw 116 63 [.tmp 110,.tmp 115],true,0,0,32764⟩,⟨⟨some 117,.b5 (sT 101),none⟩,false,2,2,65533⟩,⟨aN 118 1 117,false,2,2,131069⟩,⟨⟨none,.store 1 (sT 118) (sT 109),none⟩,true,0,0,262141⟩,⟨⟨some 119,.b5 (sT 102),none⟩,false,3,3,524287⟩,⟨aN 120 2 119,false,3,3,1048575⟩,⟨⟨none,.store 1 (sT 120) (sT 116),none⟩,true,0,0,2097151⟩]) (.seq (.region [bC 122 .eql 74 (.int .i64 2),ab 121 122]) (.cond (sT 121) (.qregion [⟨ab 123 6,false,0,2,0⟩,⟨ab 124 6,false,0,3,0⟩,⟨ab 125 0,false,0,0,0⟩,⟨ab 126 6,false,0,0,0⟩,⟨⟨some 127,.b5 (sT 126),none⟩,false,0,0,8⟩,⟨aN 128 3 127,false,0,0,24⟩,⟨aH 129 128,false,0,0,56⟩,⟨⟨some 130,.aJ 1 [.tmp 129,.val (.str ⟨#[]⟩),.val (.str ⟨#[101,108,115,101]⟩)],none⟩,false,0,0,120⟩,⟨bw 131 63 [.tmp 125,.tmp 130],true,0,0,252⟩,⟨ab 132 0,false,0,1,0⟩,⟨ab 133 6,false,0,1,0⟩,⟨⟨some 134,.b5 (sT 133),none⟩,false,0,1,1024⟩,⟨aN 135 4 134,false,0,1,3072⟩,⟨aH 136 135,false,0,1,7168⟩,⟨⟨some 137,.aJ 1 [.tmp 136,.val (.str ⟨#[121,101,115]⟩),.val (.str ⟨#[]⟩)],none⟩,false,0,1,15360⟩,⟨bw 138 63 [.tmp 132,.tmp 137],true,0,0,32764⟩,⟨⟨some 139,.b5 (sT 123),none⟩,false,2,2,65533⟩,⟨aN 140 3 139,false,2,2,131069⟩,⟨⟨none,.store 1 (sT 140) (sT 131),none⟩,true,0,0,262141⟩,⟨⟨some 141,.b5 (sT 124),none⟩,false,3,3,524287⟩,⟨aN 142 4 141,false,3,3,1048575⟩,⟨⟨none,.store 1 (sT 142) (sT 138),none⟩,true,0,0,2097151⟩]) (.seq (.region [bC 144 .eql 74 (.int .i64 3),ab 143 144]) (.cond (sT 143) (.region [ab 145 6,ab 146 0,bw 147 116 [.tmp 146,.val (.int .i64 1),.val (.int .i64 9)],ab 148 0,bw 149 116 [.tmp 148,.val (.int .i64 0),.val (.int .i64 999)],ab 150 0,⟨some 151,.aJ 1 [.val (.str ⟨#[]⟩),.val (.str ⟨#[120]⟩)],none⟩,bw 152 63 [.tmp 150,.tmp 151],⟨some 153,.build [.int .i64 0,.int .i64 0,.str ⟨#[]⟩,.fs []] [(0,1,.tmp 147),(1,1,.tmp 149),(2,1,.tmp 152)],none⟩,⟨some 154,.b5 (sT 145),none⟩,aN 155 5 154,⟨none,.store 4 (sT 155) (sT 153),none⟩]) (.seq (.region [bC 157 .eql 74 (.int .i64 4),ab 156 157]) (.cond (sT 156) (.region [ab 158 6,ab 159 6,ab 160 0,ab 161 6,⟨some 162,.b5 (sT 161),none⟩,aN 163 11 162,aH 164 163,⟨some 165,.aJ 1 [.tmp 164,.val (.str ⟨#[122,122]⟩),.val (.str ⟨#[102]⟩),.val (.str ⟨#[]⟩)],none⟩,bw 166 63 [.tmp 160,.tmp 165],⟨some 167,.aJ 1 [.val (.str ⟨#[97]⟩)],none⟩,⟨some 168,.aJ 1 [.val (.str ⟨#[97]⟩),.val (.str ⟨#[97]⟩)],none⟩,⟨some 169,.aJ 1 [.val (.str ⟨#[113]⟩),.val (.str ⟨#[114]⟩)],none⟩,⟨some 170,.aJ 1 [.val (.str ⟨#[97]⟩),.val (.str ⟨#[98]⟩)],none⟩,⟨some 171,.aJ 1 [.val (.fs []),.tmp 167,.tmp 168,.tmp 169,.tmp 170],none⟩,ab 172 0,bw 173 38 [.tmp 172,.val (.int .i64 5)],cM 174 1 171 173,aH 175 174,⟨some 176,.b5 (sT 158),none⟩,aN 177 11 176,⟨none,.store 1 (sT 177) (sT 166),none⟩,⟨some 178,.b5 (sT 159),none⟩,aN 179 12 178,⟨none,.store 1 (sT 179) (sT 175),none⟩]) (.seq (.region [ab 75 0,bw 76 108 [.tmp 75,.val (.int .i64 (-1)),.val (.int .i64 1)],⟨some 77,.bin .add (.val (.int .i64 20)) (sT 76),none⟩,aQ 78 (.int .i64 0)]) (.block 1 (.loop wY)))))))))))))))))
def Ga:aB:=(.seq (.region [ab 7 1,⟨some 8,.b5 (sT 7),none⟩,aN 9 1 8,aH 10 9,ab 4 10]) (.seq (.seq (.region [ab 11 1,⟨some 12,.b5 (sT 11),none⟩,aN 13 0 12,aH 14 13,cJ 15 14,bC 16 .gtr 15 (.int .i64 0),ab 17 16,fD 18 0 17 true,⟨some 19,.call (.val (.a6 36 [] [])) [.tmp 18,.val (.int .i64 2)],(some (17,true))⟩,⟨some 20,.pick (sT 17) (sT 19) (.val (.bool false)),none⟩]) (.cond (sT 20) (.seq (.region [ab 21 0,ab 22 1,⟨some 23,.b5 (sT 22),none⟩,aN 24 0 23,aH 25 24,cJ 26 25,bw 27 38 [.tmp 21,.tmp 26],ab 5 27]) (.seq (.region [ab 28 1,⟨some 29,.b5 (sT 28),none⟩,aN 30 0 29,aH 31 30,ab 32 5,cM 33 3 31 32,aN 34 2 33,aH 35 34,ab 4 35]) (.seq (.region [ab 36 0,bw 37 36 [.tmp 36,.val (.int .i64 3)]]) (.cond (sT 37) (.seq (.qregion [⟨ab 38 1,false,0,1,0⟩,⟨⟨some 39,.b5 (sT 38),none⟩,false,0,1,1⟩,⟨aN 40 0 39,false,0,1,3⟩,⟨aH 41 40,false,0,1,7⟩,⟨ab 42 5,false,0,1,0⟩,⟨ab 43 0,false,0,0,0⟩,⟨⟨some 44,.aJ 1 [.val (.str ⟨#[]⟩),.val (.str ⟨#[102]⟩),.val (.str ⟨#[109,97,105,110]⟩),.val (.str ⟨#[65]⟩),.val (.str ⟨#[107]⟩)],none⟩,false,0,0,0⟩,⟨bw 45 63 [.tmp 43,.tmp 44],true,0,0,96⟩,⟨cM 46 3 41 42,false,1,1,255⟩,⟨aN 47 0 46,false,1,1,511⟩,⟨⟨none,.store 1 (sT 47) (sT 45),none⟩,true,0,0,1023⟩]) (.seq (.qregion [⟨ab 48 1,false,0,1,0⟩,⟨⟨some 49,.b5 (sT 48),none⟩,false,0,1,1⟩,⟨aN 50 0 49,false,0,1,3⟩,⟨aH 51 50,false,0,1,7⟩,⟨ab 52 5,false,0,1,0⟩,⟨⟨some 53,.aJ 1 [.val (.str ⟨#[113]⟩)],none⟩,false,0,1,0⟩,⟨⟨some 54,.aJ 1 [.val (.str ⟨#[113]⟩),.val (.str ⟨#[113]⟩)],none⟩,false,0,1,0⟩,⟨⟨some 55,.aJ 1 [.val (.str ⟨#[113]⟩),.val (.str ⟨#[114]⟩),.val (.str ⟨#[116]⟩),.val (.str ⟨#[117]⟩)],none⟩,false,0,1,0⟩,⟨⟨some 56,.aJ 1 [.val (.str ⟨#[105,102]⟩)],none⟩,false,0,1,0⟩,⟨⟨some 57,.aJ 1 [.val (.fs []),.tmp 53,.tmp 54,.tmp 55,.tmp 56],none⟩,false,0,1,480⟩,⟨ab 58 0,false,0,0,0⟩,⟨bw 59 38 [.tmp 58,.val (.int .i64 5)],true,0,0,1024⟩,⟨cM 60 1 57 59,false,1,1,4064⟩,⟨aH 61 60,false,1,1,8160⟩,⟨cM 62 3 51 52,false,1,1,16383⟩,⟨aN 63 1 62,false,1,1,32767⟩,⟨⟨none,.store 1 (sT 63) (sT 61),none⟩,true,0,0,65535⟩])
 .ret)) .skip)))) .skip))
 eQ))
def mh:List a8:=[]
theorem NZ:aG Tryz.prog 40 Ga mh 180:=codeOk Tryz.func40 rfl rfl
theorem kU {σ:Type} {N:Nat} {T:σ->List ak} (hT:me N T) {a:σ} {J:List ak} {esz bytes:Nat} {src:List V} {yv kv:V} {K:V->List ak->Prop} {acc:List V} (bm:OV (T a++J) kv acc)
 (dW:∀j,j<N->a7 kv j) (hy:∀i o l,yv≠ .ms i o l) (hh:df esz acc) (hb:(acc.length+src.length)*bytes<=140737488355328)
 (hk:∀bN J',OV (T a++J') bN (acc++src)->(∀j,j<N->a7 bN j)->K bN (T a++J')):nh esz bytes src yv kv (T a++J) K:=by
 have:=pP hT (L0:=[]) (J:=J) (K:=K) (yv:=yv) (a:=a) (by simpa using bm) (by simpa using dW) hy hh hb (fun bN J' h1 h2=>by simpa using hk bN J' (by simpa using h1) (by simpa using h2));simpa using this
structure Zz (ca:Nat) (au:List ByteArray) (d:Int) (ax:List Hd) (n N:Nat) (T:Nat->List ak) (j aj:Nat) (kv:V) (acc:List St) (J:List ak) (e:Env) (H:List ak):Prop where
 e0:e 0=.ptr ca 0 0
 e1:e 1=.fs (au.map .str)
 e2:e 2=.int .i64 d
 e4:e 4=.fs (ax.map dH)
 kV:e 11=kv
 iJ:e 20=.int .i64 n
 lr:e 21=.int .i64 j
 hH:H=T aj++J
 ov:OV H kv (acc.map encS)
 kn:∀i,i<N->a7 kv i
structure Gb (M:Nat) (L:List Int) (au:List ByteArray) (d:Int) (ax:List Hd) (tw:Nat->ByteArray×ByteArray) (eC eP:Nat->Ex×Nat) (od:Nat->List Int×Nat) (sb:Nat->List St×Nat):Prop where
 tw:∀a,a<=M+100000->MC 109 L a [.fs (au.map .str)] (.dJ [.str (tw a).1,.str (tw a).2]) (a+2)
 eC:∀a,a<=M+100000->a<=(eC a).2/\(eC a).2<=a+100/\wE (eC a).1<=100/\MC 111 L a [.int .i64 2] (bu (eC a).1) (eC a).2
 eP:∀a,a<=M+100000->a<=(eP a).2/\(eP a).2<=a+300/\wE (eP a).1<=300/\MC 111 L a [.int .i64 3] (bu (eP a).1) (eP a).2
 od:∀a,a<=M+100000->a<=(od a).2/\(od a).2<=a+12/\(od a).1.length=au.length/\(∀x∈(od a).1,0<=x/\x<au.length)/\MC 112 L a [.int .i64 au.length] (.fs ((od a).1.map (.int .i64))) (od a).2
 sb:2<=d->∀a,a<=M+60000->a<=(sb a).2/\(sb a).2<=a+20000/\MC 37 L a [.fs (au.map .str),.int .i64 (d - 1),.int .i64 2,.fs (ax.map dH)] (.fs ((sb a).1.map encS)) (sb a).2
def Lm (L:List Int) (au:List ByteArray) (d:Int) (ax:List Hd) (tw:Nat->ByteArray×ByteArray) (eC eP:Nat->Ex×Nat) (od:Nat->List Int×Nat) (sb:Nat->List St×Nat) (aj:Nat):Prop:=
 ∀(ca n N:Nat) (T:Nat->List ak) (j:Nat) (kv:V) (acc:List St) (J:List ak) (e:Env) (H:List ak) (m:Nat) (k:fW),MS L ca N T->Zz ca au d ax n N T j aj kv acc J e H->j<n->n<=100->acc.length<=100->
  (∀p e' bN J' H',Zz ca au d ax n N T (j+1) (one L au d ax tw eC eP od sb aj).2 bN (acc++(one L au d ax tw eC eP od sb aj).1) J' e' H'->F Tryz.prog (p+1) (.app k .normal e' H'))->
  F Tryz.prog (m+300) (.code jt e H k)
theorem oy {e:Env} {d x:Nat} {v:V} (h:x≠d):az e d v x=e x:=by unfold az;rw[if_neg h]
def X5 (key:ByteArray) (kv:V):ak:=.row [.agg [.int .i64 5,.str ⟨#[]⟩,.str ⟨#[]⟩,.str ⟨#[]⟩,.str ⟨#[]⟩,.int .i64 0,.int .i64 0,.str ⟨#[]⟩,.ag,.ag,.ag,.str key,kv]]
theorem ZA {N:Nat} {T:Nat->List ak} (hT:me N T) (a:Nat) (J:List ak) (hd:ak) (key:ByteArray) (au:List ByteArray) (is:List Int) (his:is.length<=12) (oO:∀x∈is,0<=x/\x<au.length) (e:Env)
 (e1:e 1=.fs (au.map .str)) (e14:e 14=.ptr (N+J.length) 0 0) (e76:e 76=.fs (is.map (.int .i64))) (N1:e 77=.int .i64 is.length) (N2:e 78=.int .i64 0) (m:Nat) (k:fW)
 (hk:∀p e' kv J2,m<=p->(∀x,x≠17->¬(78<=x/\x<=91)->e' x=e x)->OV (T a++(J++(X5 key kv::hd::J2))) kv ((is.map fun i=>au.getD i.toNat em).map .str)->(∀j,j<N+(J.length+2)->a7 kv j)->
   F Tryz.prog (p+1) (.app k (.exit 3) e' (T a++(J++(X5 key kv::hd::J2))))):
 F Tryz.prog (m+100) (.code (.loop wX) e (T a++(J++(X5 key .ag::hd::[]))) k):=by
 refine aL (fun q e' H=>∃pre post kv J2,is=pre++post/\q=post.length/\(∀x,x≠17->¬(78<=x/\x<=91)->e' x=e x)/\e' 78=.int .i64 pre.length/\H=T a++(J++(X5 key kv::hd::J2))/\
  OV (T a++((J++ [X5 key kv,hd])++J2)) kv ((pre.map fun i=>au.getD i.toNat em).map .str)/\(∀j,j<N+(J++ [X5 key kv,hd]).length->a7 kv j)) is.length
  ⟨[],is,.ag,[],rfl,rfl,fun _ _ _=>rfl,N2,rfl,.inl ⟨rfl,rfl⟩,(fun i _ a b h=>by cases h)⟩ ?_
 rintro q e' H ⟨pre,post,kv,J2,ao,rfl,cp,f78,rfl,bm,fI⟩;have f1:=(cp 1 (by omega) (by omega)).trans e1;have f14:=(cp 14 (by omega) (by omega)).trans e14;have f76:=(cp 76 (by omega) (by omega)).trans e76;have f77:=(cp 77 (by omega) (by omega)).trans N1;have ba:=bm.cS;simp only[V.one]at ba;have cP:=bm.one;cases post with
 | nil=>
  have ev:pre=is:=by rw[ao];simp
  simp -implicitDefEqProofs only[wX,f1,f14,f76,f77,f78,aI ao,go_sem];refine hk _ _ kv J2 (by omega) ?_ ?_ ?_
  ·intro x h1 h2;simp(disch:=omega) only[oy];exact cp x h1 h2
  ·rw[ev]at bm;simpa using bm
  ·simpa[Nat.add_assoc]using fI
 | cons y post=>
  have hg:=aO (V.int .i64) ao;have hyr:=oO y (by rw[ao];simp);obtain⟨yi,rfl⟩:∃yi:Nat,y=yi:=⟨y.toNat,by omega⟩;have ZC:yi<au.length:=by omega
  have hgr:(au.map V.str).getD yi .any=.str (au.getD yi em):=by simp[List.getD,ZC]
  have cR:pre.length<=is.length:=by rw[ao];simp
  have hw:=bG (k:=pre.length) (by omega);simp -implicitDefEqProofs only[wX,X5,f1,f14,f76,f77,f78,an ao,hg,hw,ba,cP,go_sem];refine aD ?_;simp -implicitDefEqProofs only[X5,f1,f14,f76,f77,f78,an ao,hg,hw,ba,cP,ZC,hgr,hT.len,hT.bW,hT.bT,hT.aZ,hT.aW,go_sem];rw[show J++(ak.row [.agg [.int .i64 5,.str ⟨#[]⟩,.str ⟨#[]⟩,.str ⟨#[]⟩,.str ⟨#[]⟩,.int .i64 0,.int .i64 0,.str ⟨#[]⟩,.ag,.ag,.ag,.str key,kv]]::hd::J2)=(J++ [X5 key kv,hd])++J2 by simp[X5]];refine pP hT (L0:=J++ [X5 key kv,hd]) (J:=J2) bm fI ?_ (bV _) ?_ ?_
  ·intro i o l h;cases h
  ·simp;omega
  ·intro bN J' bo fG;have hone':=bo.cS;simp only[V.one]at hone';have gQ:=bo.one;simp only[List.append_assoc,List.cons_append,List.nil_append,X5];simp -implicitDefEqProofs only[X5,f1,f14,f76,f77,f78,an ao,hg,hw,ba,cP,hone',gQ,ZC,hgr,hT.len,hT.bW,hT.bT,hT.aZ,hT.aW,go_sem];refine⟨_,Nat.lt_succ_self _,pre++ [(yi:Int)],post,bN,J',by simp[ao],rfl,?_,by simp,rfl,?_,?_⟩
   ·intro x h1 h2;repeat(rw[if_neg (by omega)])
    exact cp x h1 h2
   ·have:=bo.BZ (hT.len a) fG (B:=T a) (L1:=J++ [X5 key bN,hd]) (hT.len a) (by simp) [];simpa[X5]using this
   ·simpa using fG
theorem S6 (L:List Int) (au:List ByteArray) (ax:List Hd) (d:Int) (hr:2<=au.length) (lJ:au.length<=12) (uO:0<=d) (vi:d<=10) (hh:ax.length<=10) (oS:∀h∈ax,h.2.length<=12)
 (tw:Nat->ByteArray×ByteArray) (eC eP:Nat->Ex×Nat) (od:Nat->List Int×Nat) (sb:Nat->List St×Nat) (M:Nat) (yU:M<=500000) (hM:Gb M L au d ax tw eC eP od sb) (aj:Nat) (Cb:aj<=M)
 (hP:vh L (aj+2)=1):Lm L au d ax tw eC eP od sb aj:=by
 intro ca n N T j kv acc J e H m kk hT hL nZ hn yV hk;obtain⟨e0,e1,e2,e4,kV,iJ,lr,rfl,bm,fI⟩:=hL;have gg:((j:Int)<n):=by omega
 have fS:IntKind.i64.wrap ((j:Int)+1)=((j+1:Nat):Int):=bG (by omega);have h5:=(t5 L (aj+2) [1,1,1,2,3,3,4,4,5] (by omega) (by simp) (by simp)).at hT J;simp only[List.map_cons,List.map_nil,List.length_cons,List.length_nil,Nat.zero_add,Nat.reduceAdd]at h5;change av _ _ _ _ (bX (.int .i64 (vh L (aj+2))) _)at h5;have tT:=(hM.tw aj (by omega)).at hT J;rw[hP]at h5;generalize xU:tw aj=DC at*;obtain⟨r1,r2⟩:=DC;simp only at tT;have oA:=(t41 L (aj+3) lD (by omega) (by decide) (by decide));simp only[lD,List.map_cons,List.map_nil]at oA;change MC _ _ _ _ (.str (uS L (aj+3) lD)) _ at oA;generalize xV:uS L (aj+3) lD=so at*;obtain⟨t1,t2,_,tO⟩:=hM.eC (aj+4) (by omega);generalize Gc:eC (aj+4)=tr at*;obtain⟨⟨ek,en,es,aR⟩,a1⟩:=tr;simp only[bp]at tO t1 t2;have hx:one L au d ax tw eC eP od sb aj=([.mk 1 r1 r2 so em (.mk ek en es aR) [] [] em []],a1):=by simp[one,hP,xU,xV,Gc]
 simp(maxSteps:=1000000) -implicitDefEqProofs only[jt,e0,e1,e2,e4,kV,iJ,lr,hT.tok.len,hT.tok.bW,hT.tok.bT,hT.tok.aZ,hT.tok.aW,hT.tok.get,gg,fS,Int.reduceEq,go_sem];repeat' (first | ((first | (with_reducible first | refine bR tT ?_ | refine bR h5 ?_ | refine bR ((oA.at hT _)) ?_ | refine bR ((tO.at hT _)) ?_) | (with_reducible refine aD ?_));simp(maxSteps:=1000000) -implicitDefEqProofs only[e0,e1,e2,e4,kV,iJ,lr,hT.tok.len,hT.tok.bW,hT.tok.bT,hT.tok.aZ,hT.tok.aW,hT.tok.get,gg,fS,Int.reduceEq,go_sem]) | (with_reducible refine aA.mk ?_ ?_) | (with_reducible refine And.intro ?_ ?_) | ((with_reducible refine bz ?_);simp(maxSteps:=1000000) -implicitDefEqProofs only[tS,hT.tok.len,hT.tok.bW,hT.tok.bT,hT.tok.aZ,hT.tok.aW,hT.tok.get,push_cast,go_sem_proc]) | intro _)
 refine⟨[],.agg [.int .i64 1,.str r1,.str r2,.str so,.str ⟨#[]⟩,.int .i64 ek,.int .i64 en,.str es,.fs (aR.map bu),.fs [],.fs [],.str ⟨#[]⟩,.fs []],kS _ _ (by simp(maxSteps:=1000000) -implicitDefEqProofs only[push_cast,go_sem_proc]),?_⟩;simp only[bO];simp(maxSteps:=1000000) -implicitDefEqProofs only[e0,e1,e2,e4,kV,iJ,lr,hT.tok.len,hT.tok.bW,hT.tok.bT,hT.tok.aZ,hT.tok.aW,hT.tok.get,gg,fS,Int.reduceEq,go_sem];refine kU hT.tok (acc:=acc.map encS) ?_ fI ?_ (cx _) ?_ ?_
 ·have:=bm.tail (hT.tok.len _) fI (hT.tok.len (a1));simpa using this.app _
 ·intro i o l h;cases h
 ·simp;omega
 ·intro bN J' bo fG;simp(maxSteps:=1000000) -implicitDefEqProofs only[e0,e1,e2,e4,kV,iJ,lr,hT.tok.len,hT.tok.bW,hT.tok.bT,hT.tok.aZ,hT.tok.aW,hT.tok.get,gg,fS,Int.reduceEq,go_sem];refine hk _ _ bN J' _ ⟨?_,?_,?_,?_,?_,?_,?_,?_,?_,?_⟩;all_goals first
   | (simp only[az,e0,e1,e2,e4,iJ];simp;done)
   | (simp only[az,e0,e1,e2,e4,iJ];simp[yW];done)
   | (rw[hx];done)
   | (rw[hx];simpa[ay,bp,em,uR]using bo)
   | (simpa using fG)
end Go.Proofs.YtdgoeblpcnjlbaaGreatDoor.Av

/- ReadsFound. Text 4 of 17. -/
import Derived.Test.YtdgoeblpcnjlbaaGreatDoorM3
set_option linter.all false
set_option maxRecDepth 100000
set_option maxHeartbeats 64000000
namespace Go.Proofs.YtdgoeblpcnjlbaaGreatDoor.Av
open Go.RowKit List
def af (P:Program) (g:FuncId) (vs:List V) (K:V->Prop):Prop:=
 lS P g=true/\∀(I:IM) (w:World) (args:Array Value),(∀b o,I b=some o->w.heap[b]? =some o)->aV [] I vs args.toList->
  Calls P g args w (fun e w'=>∃r v I',e=.returned v/\K r/\dY I I'/\(∀b o,I' b=some o->w'.heap[b]? =some o)/\(∀b,I b=none->I' b≠none->w.heap.size<=b)/\aU [] I' r v/\Below w.heap.size w w')
theorem af.mono {P:Program} {g:FuncId} {vs:List V} {K K':V->Prop} (h:af P g vs K) (hk:∀r,K r->K' r):af P g vs K':=
 ⟨h.1,fun I w args h1 h2=>(h.2 I w args h1 h2).mono fun e w' ⟨r,v,I',h3,h4,h5⟩=>⟨r,v,I',h3,hk r h4,h5⟩⟩
theorem av.mono {P:Program} {g:FuncId} {vs:List V} {H:List ak} {K K':V->List ak->Prop} (h:av P g vs H K) (hk:∀r H',K r H'->K' r H'):av P g vs H K':=
 ⟨h.1,fun f B I w args h1 h2=>(h.2 f B I w args h1 h2).mono fun e w' ⟨r,v,H',B',I',h3,h4,h5⟩=>⟨r,v,H',B',I',h3,hk r H' h4,h5⟩⟩
theorem vb {B:List Pl} {I I':IM} {x:V} {v:Value} (h:aU [] I x v) (hI:dY I I'):aU B I' x v:=
 h.mono (fun i p hp=>by simp at hp) hI
theorem Dj {P:Program} {g:FuncId} {vs vL:List V} {H:List ak} {K:V->List ak->Prop} (n:Nat) (lX:eI (fz H n) vs=some vL) {R:V->Prop} (h:af P g vL R)
 (cR:∀r,R r->plain r=true) (hk:∀r,R r->K r H):av P g vs H K:=by
 refine⟨h.1,fun f B I w args hs hr=> ?_⟩;have rV:aV [] (fun b=>w.heap[b]?) vL args.toList:=by
  obtain⟨h1,h2⟩:=kj lX;rw[il]at hr⊢;refine⟨by rw[h1];exact hr.1,fun j c hj=> ?_⟩;obtain⟨y,h3,h4⟩:=h2 j c hj;obtain⟨u,h5,h6⟩:=hr.2 j y h3;exact⟨u,h5,Aj hs (I2:=fun b=>w.heap[b]?) hs.lH (fun _ _ _ _ _ _=>rfl) n h4 h6⟩
 refine(h.2 _ w args (fun b o hb=>hb) rV).mono ?_;rintro e w' ⟨r,v,I',rfl,hR,_,_,_,eN,hb⟩;refine⟨r,v,H,B,I,rfl,hk r hR,hs.grow hb (dY.refl _) (fun b o hI=> ?_) (fun b h1 h2=>absurd h1 h2),eA.refl _,dY.refl _,vD (cR r hR) eN⟩;rw[hb.block b (hs.Mu (by rw[hI];simp))];exact hs.lH b o hI
theorem gJ {P:Program} {g:FuncId} {vs:List V} {H:List ak} {K:V->List ak->Prop} (hn:ae vs=true) {R:V->Prop} (h:af P g vs R) (hk:∀r,R r->K r H):av P g vs H K:=by
 refine⟨h.1,fun f B I w args hs hr=> ?_⟩;refine(h.2 I w args hs.lH (dD hn hr)).mono ?_;rintro e w' ⟨r,v,I',rfl,hR,hI,l4,cp,eN,hb⟩;exact⟨r,v,H,B,I',rfl,hk r hR,hs.grow hb hI l4 cp,eA.refl _,hI,vb eN (dY.refl _)⟩
theorem pz {P:Program} {g:FuncId} {vs vL:List V} {H:List ak} {K:V->List ak->Prop} {r:V} (n:Nat) (lX:eI (fz H n) vs=some vL) (h:af P g vL (·=r)) (cR:plain r=true) (hk:K r H):av P g vs H K:=
 Dj n lX h (by rintro _ rfl;exact cR) (by rintro _ rfl;exact hk)
theorem di {P:Program} {g:FuncId} {vs:List V} {H:List ak} {K:V->List ak->Prop} {r:V} (hn:ae vs=true) (h:af P g vs (·=r)) (hk:K r H):av P g vs H K:=
 gJ hn h (by rintro _ rfl;exact hk)
inductive a8 where
 | tmp (t:Nat)
 | cell (g:Bool) (n:Nat) (t:Nat)
def tA (P:Program) (r:a8) (e:Env) (H:List ak) (k:V->Prop):Prop:=
 match r with
 | .tmp t=>k (e t)
 | .cell g n t=>match e t with
  | .ptr _ _ _=>bd P (.load g n (.tmp t)) e H (fun v _=>k v)
  | .bc _=>bd P (.load g n (.tmp t)) e H (fun v _=>k v)
  | _=>False
def Dk (P:Program):List a8->Env->List ak->(List V->Prop)->Prop
 | [],_,_,k=>k []
 | r::rs,e,H,k=>tA P r e H fun v=>Dk P rs e H fun vs=>k (v::vs)
def Ar (P:Program) (rs:List a8) (e:Env) (H:List ak) (k:V->Prop):Prop:=
 match rs with
 | [r]=>tA P r e H k
 | rs=>Dk P rs e H fun vs=>k (.dJ vs)
def dL (P:Program) (n:Nat):List ResultVar->List a8->Bool
 | [],[]=>true
 | .tmp t::l,.tmp u::m=>t==u && decide (t<n) && dL P n l m
 | .cell a t::l,.cell g k u::m=>a==u && decide (a<n) && pc P t==some g && fU P t==some k && (g || k==1) && dL P n l m
 | _,_=>false
def Jl (tmps:Array Value) (r:ResultVar):Sem Value:=
 match r with
 | .tmp t=>pure (tmps.getD t undef)
 | .cell b t=>do loadVar t (<-asAddr (tmps.getD b undef))
theorem As (fn:Func) (tmps:Array Value):results fn tmps=(do let vs<-fn.results.mapM (Jl tmps);pure (if h:vs.size=1 then vs[0]else .tuple vs):Sem Value):=by
 unfold results
 congr 1
section
variable {P:Program} {f:Fr} {B:List Pl} {I:IM} {w:World} {H:List ak} {a:Act} {e:Env}
theorem Au {g:Bool} {m:Nat} {t:TypeId} {i:Nat} {k:V->Prop} (hi:i<a.tmps.size) (hg:pc P t=some g) (hm:fU P t=some m) (h1:(g || m==1)=true) (he:cy B I e a.tmps) (hs:cD f B I w H)
 (hk:bd P (.load g m (.tmp i)) e H (fun v _=>k v)):∃v x,(do loadVar t (<-asAddr (a.tmps.getD i undef)):Sem Value).run P w=.ok v w/\k x/\aU B I x v:=by
 let o:Oper:={dst:=none,op:=.load t (.tmp i),type:=0,pos:= "",after:= #[],guard:=none}
 have hc:bg P a.tmps.size (.load t (.tmp i)) 0 (.load g m (.tmp i))=true:=by
  simp only[bg,hg,hm,cz,beq_self_eq_true,hi,decide_true,Bool.and_self,Bool.and_true,Bool.true_and];exact h1
 have hr:=he i (a.tmps[i]) (by simp[hi]);have lq:∀{w':World} {v:Value},(execOp a.eval o).run P w=.ok (.value v) w'->(∀b:Unit,True)->w'=w->(do loadVar t (<-asAddr (a.tmps.getD i undef)):Sem Value).run P w=.ok v w:=by
  intro w' v hx _ hw;subst hw;have hev:a.eval (.tmp i)=a.tmps.getD i undef:=rfl;simp only[execOp,o,pd,Instr.loadAt,hev]at hx;generalize a.tmps.getD i undef=y at*;cases y with
  | pointer ad=>
   cases ad with
   | none=>simp[Instr.sureAddr]at hx
   | some ad=>
    simp only[Instr.sureAddr,Sem.run_bind,Sem.run_pure,Result.andThen_ok,asAddr]at hx⊢;cases hq:(loadVar t ad).run P w' with
    | ok u w2=>rw[hq]at hx;simp at hx;obtain⟨rfl,rfl⟩:=hx;rfl
    | halt h2 w2=>rw[hq]at hx;simp at hx
  | _=>simp[Instr.sureAddr]at hx
 have key:∃v x,(execOp a.eval o).run P w=.ok (.value v) w/\k x/\aU B I x v:=by
  exact Bk (K:=fun v _=>k v) (o:=o) (env:=e) rfl hc he hs hk
 obtain⟨v,x,h2,h3,h4⟩:=key;exact⟨v,x,lq h2 (fun _=>trivial) rfl,h3,h4⟩
theorem kN {r:ResultVar} {s:a8} {k:V->Prop} (hc:dL P a.tmps.size [r] [s]=true) (he:cy B I e a.tmps) (hs:cD f B I w H) (hk:tA P s e H k):
 ∃v x,(Jl a.tmps r).run P w=.ok v w/\k x/\aU B I x v:=by
 cases r with
 | tmp t=>
  cases s<;>simp only[dL,Bool.false_eq_true,Bool.and_eq_true,beq_iff_eq,decide_eq_true_eq]at hc;obtain⟨⟨rfl,ht⟩,_⟩:=hc;refine⟨_,_,rfl,hk,?_⟩;have:=he t (a.tmps[t]) (by simp[ht]);simpa[Array.getD,ht]using this
 | cell b t=>
  cases s with
  | tmp u=>simp[dL]at hc
  | cell g m u=>
   simp only[dL,Bool.and_eq_true,beq_iff_eq,decide_eq_true_eq]at hc;obtain⟨⟨⟨⟨⟨rfl,hb⟩,hg⟩,hm⟩,h1⟩,_⟩:=hc;have vM:bd P (.load g m (.tmp b)) e H (fun v _=>k v):=by
    simp only[tA]at hk;split at hk
    ·exact hk
    ·exact hk
    ·exact hk.elim
   exact Au hb hg hm h1 he hs vM
theorem jJ {r:ResultVar} {s:a8} {l:List ResultVar} {m:List a8} {n:Nat}:dL P n (r::l) (s::m)=(dL P n [r] [s] && dL P n l m):=by
 cases r<;>cases s<;>simp[dL,Bool.and_assoc]
theorem kO:∀{rs:List ResultVar} {ss:List a8} {k:List V->Prop},dL P a.tmps.size rs ss=true->cy B I e a.tmps->cD f B I w H->Dk P ss e H k->
 ∃vs xs,(rs.mapM (Jl a.tmps)).run P w=.ok vs w/\k xs/\aV B I xs vs
 | [],[],k,_,_,_,hk=>⟨[],[],by simp,hk,by simp[aV]⟩
 | r::rs,s::ss,k,hc,he,hs,hk=>by
  rw[jJ,Bool.and_eq_true]at hc;obtain⟨v,x,h1,h2,h3⟩:=kN hc.1 he hs hk;obtain⟨vs,xs,h4,h5,h6⟩:=kO hc.2 he hs h2;refine⟨v::vs,x::xs,?_,h5,by simp only[aV];exact⟨v,vs,rfl,h3,h6⟩⟩;rw[List.mapM_cons,Sem.run_bind,h1];simp only[Result.andThen_ok,Sem.run_bind,h4,Sem.run_pure]
 | [],_::_,_,hc,_,_,_=>by simp[dL]at hc
 | r::_,[],_,hc,_,_,_=>by cases r<;>simp[dL]at hc
theorem vc {fn:Func} {ss:List a8} {k:V->Prop} (hc:dL P a.tmps.size fn.results.toList ss=true) (he:cy B I e a.tmps) (hs:cD f B I w H) (hk:Ar P ss e H k):
 ∃v x,(results fn a.tmps).run P w=.ok v w/\k x/\aU B I x v:=by
 rw[As,Array.mapM_eq_mapM_toList];simp only[Sem.run_bind,Sem.run_map];cases hl:ss with
 | nil=>
  rw[hl]at hk hc;obtain⟨vs,xs,h1,h2,h3⟩:=kO (k:=fun vs=>k (.dJ vs)) hc he hs hk;have hlen:=h3.length;have:fn.results.toList=[]:=by
   cases hr:fn.results.toList with
   | nil=>rfl
   | cons r l=>rw[hr]at hc;cases r<;>simp[dL]at hc
  rw[h1];rw[this]at h1;simp at h1;subst h1;refine⟨.tuple #[],.dJ xs,by simp,h2,by simp only[aU];exact⟨#[],rfl,h3⟩⟩
 | cons s l=>
  rw[hl]at hk hc;cases l with
  | nil=>
   obtain⟨r,hr⟩:∃r,fn.results.toList=[r]:=by
    match hq:fn.results.toList with
    | []=>rw[hq]at hc;simp[dL]at hc
    | [r]=>exact⟨r,rfl⟩
    | r::r2::l=>rw[hq,jJ]at hc;cases r2<;>simp[dL]at hc
   rw[hr]at hc⊢;obtain⟨v,x,h1,h2,h3⟩:=kN hc he hs hk;refine⟨v,x,?_,h2,h3⟩;simp only[List.mapM_cons,List.mapM_nil,Sem.run_map,Sem.run_bind,h1,Result.andThen_ok,Sem.run_pure];simp
  | cons s2 l=>
   have vM:Dk P (s::s2::l) e H (fun vs=>k (.dJ vs)):=hk;obtain⟨vs,xs,h1,h2,h3⟩:=kO (k:=fun vs=>k (.dJ vs)) hc he hs vM;have hlen:=h3.length;refine⟨.tuple vs.toArray,.dJ xs,?_,h2,by simp only[aU];exact⟨vs.toArray,rfl,by simpa using h3⟩⟩;have Rh:vs.length≠1:=by
    have:vs.length=fn.results.toList.length:=by
     have key:∀(rs:List ResultVar) (vs:List Value),(rs.mapM (Jl a.tmps)).run P w=.ok vs w->∀ss k,dL P a.tmps.size rs ss=true->Dk P ss e H k->vs.length=rs.length:=by
      intro rs;induction rs with
      | nil=>intro vs h ss k _ _;simp at h;subst h;rfl
      | cons r rs ih=>
       intro vs h ss k hc hk;cases ss with
       | nil=>cases r<;>simp[dL]at hc
       | cons s ss=>
        rw[jJ,Bool.and_eq_true]at hc;obtain⟨v,x,h1,h2,h3⟩:=kN hc.1 he hs hk;obtain⟨vL,xs',h4,_,_⟩:=kO hc.2 he hs h2;rw[List.mapM_cons,Sem.run_bind,h1]at h;simp only[Result.andThen_ok,Sem.run_bind,h4,Sem.run_pure]at h;cases h;simp[ih vL h4 ss _ hc.2 h2]
     exact key _ _ h1 _ _ hc vM
    have Ng:fn.results.toList.length=(s::s2::l).length:=by
     have key:∀(rs:List ResultVar) (ss:List a8),dL P a.tmps.size rs ss=true->rs.length=ss.length:=by
      intro rs;induction rs with
      | nil=>intro ss h;cases ss<;>simp[dL]at h⊢
      | cons r rs ih=>intro ss h;cases ss with
       | nil=>cases r<;>simp[dL]at h
       | cons s ss=>rw[jJ,Bool.and_eq_true]at h;simp[ih ss h.2]
     exact key _ _ hc
    rw[this,Ng];simp
   rw[h1];simp only[Result.andThen_ok,Sem.run_pure];simp[Rh]
end
def aC (vs:List V):Env:=fun i=>vs.getD i .iP
def fin (P:Program) (rs:List a8) (k:V->List ak->Prop):fW:=.post fun x e H=>(x=.normal\/x=.ret)/\Ar P rs e H fun v=>k v H
def RU (n:Nat) (K:V->Prop):V->List ak->Prop:=fun v H=>∃v',fz H n v=some v'/\K v'
structure aG (P:Program) (g:FuncId) (s:aB) (rs:List a8) (nt:Nat):Prop where
 fn:∃fn c,P.funcs[g]? =some fn/\fn.body=some c/\fn.ntmps=nt/\dK P nt c s=true/\dL P nt fn.results.toList rs=true
 call:lS P g=true
 mixed:P.follows .mixedOrders=true
theorem FB {B:List Pl} {I:IM} {vs:List V} {args:Array Value} {k:Nat} (hr:aV B I vs args.toList):cy B I (aC vs) (args++Array.replicate k undef):=by
 intro i v hv;unfold aC
 have hl:=hr.length;rw[Array.getElem?_append]at hv;split at hv
 ·rename_i h;have:vs[i]? =some (vs.getD i .iP):=by
   have:i<vs.length:=by simp at hl;omega
   simp[this]
  obtain⟨u,h1,h2⟩:=hr.get this;have:args.toList[i]? =some v:=by simpa using hv
  rw[this]at h1;cases h1;exact h2
 ·rename_i h;have h1:vs.getD i .iP=.iP:=by
   have:¬i<vs.length:=by simp at hl;omega
   simp[List.getElem?_eq_none (Nat.le_of_not_lt this)]
  rw[h1];simp only[aU];rw[Array.getElem?_replicate]at hv;split at hv
  ·cases hv;rfl
  ·cases hv
theorem tB {P:Program} {g:FuncId} {s:aB} {rs:List a8} {nt:Nat} (hc:aG P g s rs nt) {n:Nat} {vs:List V} {H:List ak} {k:V->List ak->Prop} (EA:vs.length<=nt)
 (hF:F P n (.code s (aC vs) H (fin P rs k))) {f:Fr} {B:List Pl} {I:IM} {w:World} {args:Array Value} (hs:cD f B I w H) (hr:aV B I vs args.toList):
 Calls P g args w (fun e w'=>∃r v H' B' I',e=.returned v/\k r H'/\cD f B' I' w' H'/\eA B B'/\dY I I'/\aU B' I' r v):=by
 obtain⟨fn,c,RD,hb,hnt,hcode,Yo⟩:=hc.fn;have hl:=hr.length;have lP:({tmps:=args++Array.replicate (fn.ntmps - args.size) undef,defers:=[]}:Act).tmps.size=nt:=by
  simp at hl⊢;omega
 refine calls_of_wp RD hb (Aq (f:=f) hc.mixed c s hcode n (aC vs) H (fin P rs k) B I _ w _ hF hs (FB hr) rfl lP ?_);intro m x e H' B' I' a' w' xT eM hB hI kd sl nH;cases m with
 | zero=>exact xT.elim
 | succ m=>
  obtain⟨hx,hk⟩:=xT;obtain⟨v,r,h1,h2,h3⟩:=vc (fn:=fn) (by rw[nH];exact Yo) kd eM hk;rcases hx with rfl | rfl
  ·exact⟨sl,v,h1,r,v,H',B',I',rfl,h2,eM,hB,hI,h3⟩
  ·exact⟨sl,v,h1,r,v,H',B',I',rfl,h2,eM,hB,hI,h3⟩
theorem av.intro {P:Program} {g:FuncId} {s:aB} {rs:List a8} {nt:Nat} (hc:aG P g s rs nt) (n:Nat) {vs:List V} {H:List ak} {k:V->List ak->Prop} (EA:vs.length<=nt)
 (hF:F P n (.code s (aC vs) H (fin P rs k))):av P g vs H k:=
 ⟨hc.call,fun f B I w args hs hr=>tB hc EA hF hs hr⟩
theorem af.intro {P:Program} {g:FuncId} {s:aB} {rs:List a8} {nt:Nat} (hc:aG P g s rs nt) (n:Nat) {vs:List V} {K:V->Prop} (EA:vs.length<=nt) (m:Nat)
 (hF:F P n (.code s (aC vs) [] (fin P rs (RU m K)))):af P g vs K:=by
 refine⟨hc.call,fun I w args l4 hr=> ?_⟩;let f:Fr:=⟨w,fun _=>False,I⟩
 have hs:cD f [] I w []:=by
  constructor
  ·rfl
  ·exact l4
  ·exact dY.refl _
  ·intro b h1 h2;exact absurd h1 h2
  ·rfl
  ·rfl
  ·rfl
  ·exact Nat.le_refl _
  ·intro k _ _;rfl
  ·intro i p b h;simp at h
  ·intro i j p q b c h;simp at h
  ·intro i p b h;simp at h
 refine(tB hc EA hF hs hr).mono ?_;rintro e w' ⟨r,v,H',B',I',rfl,⟨r',lX,hk⟩,eM,hB,hI,eN⟩;have BN:∀b o,(if b<w.heap.size then I b else w'.heap[b]?)=some o->w'.heap[b]? =some o:=by
  intro b o hb;split at hb
  ·exact eM.lH b o (hI b o hb)
  ·exact hb
 refine⟨r',v,fun b=>if b<w.heap.size then I b else w'.heap[b]?,rfl,hk,?_,BN,?_,?_,⟨eM.os,eM.tape,eM.output,eM.size,fun k hk=>eM.keep k hk (fun h=>h)⟩⟩
 ·intro b o hb;have:b<w.heap.size:=(Array.getElem?_eq_some_iff.1 (l4 b o hb)).1;simp only;rw[if_pos this];exact hb
 ·intro b h1 h2;by_cases ct:b<w.heap.size
  ·simp only[if_pos ct]at h2;exact absurd h1 h2
  ·omega
 ·refine Aj eM (I2:=fun b=>if b<w.heap.size then I b else w'.heap[b]?) ?_ ?_ m lX eN
  ·intro b o hb;by_cases ct:b<w.heap.size
   ·simp only[if_pos ct];cases hq:I b with
    | some o'=>rw[<-hI b o' hq,hb]
    | none=>
     rcases eM.dZ b hq (by rw[hb];simp)with h | h
     ·have:w.heap.size<=b:=h;omega
     ·exact h.elim
   ·simp only[if_neg ct];exact eM.lH b o hb
  ·intro id p es hp hH eT;obtain⟨_,h2,_⟩:=eM.own id p _ hp hH eT;rcases h2 with h2 | h2
   ·have:¬p.dI<w.heap.size:=by have:w.heap.size<=p.dI:=h2;omega
    simp only[if_neg this]
   ·exact h2.elim
theorem vN:∀{parts:List (Nat×Nat×V)} {cs:List V} {k:List V->Prop},lQ cs parts k->∃z7,lQ cs parts (fun x=>z7=x)/\k z7
 | [],cs,k,h=>⟨cs,by simp[lQ],by simpa[lQ]using h⟩
 | (off,n,v)::r,cs,k,h=>by
   simp only[lQ]at h⊢;obtain⟨h1,h2⟩:=h;obtain⟨z7,h3,h4⟩:=vN h2;exact⟨z7,⟨h1,h3⟩,h4⟩
def fJ:o5->Bool
 | .call _ _ | .len _ _ | .nS _ | .rU _ _ | .Ev _ | .Ew _ | .Ey _ | .mm _ _ _=>false
 | _=>true
theorem yG {P:Program} {o:o5} {e:Nat->V} {H:List ak} {K:V->List ak->Prop} (hs:fJ o=true) (h:bd P o e H K):∃v H1,bd P o e H (fun r H'=>v=r/\H1=H')/\K v H1:=by
 cases o with
 | call f args=>simp[fJ]at hs
 | len str x=>simp[fJ]at hs
 | nS t=>simp[fJ]at hs
 | rU n x=>simp[fJ]at hs
 | Ev x=>simp[fJ]at hs
 | Ew x=>simp[fJ]at hs
 | Ey x=>simp[fJ]at hs
 | mm a x y=>simp[fJ]at hs
 | o6=>simp only[bd]at h⊢;exact⟨_,_,⟨rfl,rfl⟩,h⟩
 | gm=>simp only[bd]at h⊢;exact⟨_,_,⟨rfl,rfl⟩,h⟩
 | Eu z x=>
  simp only[bd]at h⊢;split at h
  ·exact⟨_,_,⟨h.1,rfl,rfl⟩,h.2⟩
  ·exact h.elim
 | eu sh ok z x k=>
  simp only[bd]at h⊢;split at h
  ·exact⟨_,_,⟨h.1,rfl,rfl⟩,h.2⟩
  ·exact⟨_,_,⟨h.1,rfl,rfl⟩,h.2⟩
  ·split at h
   ·exact⟨_,_,⟨h.1,rfl,rfl⟩,h.2⟩
   ·exact h.elim
  ·exact h.elim
 | kG sh x k v=>
  simp only[bd]at h⊢;split at h
  ·split at h
   ·exact⟨_,_,⟨h.1,rfl,rfl⟩,h.2⟩
   ·exact h.elim
  ·exact h.elim
 | uY sh z x k=>
  simp only[bd]at h⊢;split at h
  ·split at h
   ·exact⟨_,_,⟨h.1,rfl,rfl⟩,h.2⟩
   ·exact h.elim
  ·exact h.elim
 | uZ x s v=>
  simp only[bd]at h⊢;split at h
  ·split at h
   ·exact⟨_,_,⟨h.1,rfl,rfl⟩,h.2⟩
   ·exact h.elim
  ·exact h.elim
 | du=>simp only[bd]at h⊢;exact⟨_,_,⟨rfl,rfl⟩,h⟩
 | aJ esz xs=>simp only[bd]at h⊢;exact⟨_,_,⟨h.1,rfl,rfl⟩,h.2⟩
 | H7 x=>simp only[bd]at h⊢;exact⟨_,_,⟨rfl,rfl⟩,h⟩
 | pick c a b=>
  simp only[bd]at h⊢;split at h
  ·rename_i b' hb;cases b'
   ·exact⟨_,_,⟨fun h=>by simp at h,fun _=>⟨rfl,rfl⟩⟩,h.2 rfl⟩
   ·exact⟨_,_,⟨fun _=>⟨rfl,rfl⟩,fun h=>by simp at h⟩,h.1 rfl⟩
  ·exact h.elim
 | alloc z=>simp only[bd]at h⊢;exact⟨_,_,⟨rfl,rfl⟩,h⟩
 | box x=>simp only[bd]at h⊢;exact⟨_,_,⟨h.1,rfl,rfl⟩,h.2⟩
 | build z parts=>
  simp only[bd]at h⊢;obtain⟨z7,h1,h2⟩:=vN h;refine⟨_,_,?_,h2⟩;have:(fun x=>z7=x)=(fun cs=>V.agg z7=V.agg cs/\H=H):=by funext cs;simp
  rw[this]at h1;exact h1
 | jW esz xs=>simp only[bd]at h⊢;exact⟨_,_,⟨h.1,rfl,rfl⟩,h.2⟩
 | load agg n a=>
  simp only[bd]at h⊢;split at h
  ·split at h
   ·exact⟨_,_,⟨h.1,rfl,rfl⟩,h.2⟩
   ·exact h.elim
  ·exact⟨_,_,⟨h.1,rfl,rfl⟩,h.2⟩
  ·exact h.elim
 | store n a x=>
  simp only[bd]at h⊢;split at h
  ·split at h
   ·exact⟨_,_,⟨h.1,rfl,rfl⟩,h.2⟩
   ·exact h.elim
  ·exact h.elim
 | b5 x=>
  simp only[bd]at h⊢;split at h
  ·exact⟨_,_,⟨rfl,rfl⟩,h⟩
  ·exact⟨_,_,⟨rfl,rfl⟩,h⟩
  ·exact⟨_,_,⟨rfl,rfl⟩,h⟩
  ·exact h.elim
 | bin op x y=>
  simp only[bd]at h⊢;split at h
  ·obtain⟨h1,h2⟩:=h;split at h2;all_goals first
    | exact⟨_,_,⟨h1,rfl,rfl⟩,h2⟩
    | exact⟨_,_,⟨h1,h2.1,rfl,rfl⟩,h2.2⟩
    | exact h2.elim
  ·split at h;all_goals first
    | exact⟨_,_,⟨rfl,rfl⟩,h⟩
    | exact⟨_,_,⟨h.1,rfl,rfl⟩,h.2⟩
    | exact h.elim
  ·exact h.elim
 | beq neg x y=>
  simp only[bd]at h⊢;split at h
  ·exact⟨_,_,⟨rfl,rfl⟩,h⟩
  ·exact h.elim
 | un op x=>
  simp only[bd]at h⊢;split at h
  ·exact⟨_,_,⟨rfl,rfl⟩,h⟩
  ·exact⟨_,_,⟨rfl,rfl⟩,h⟩
  ·exact h.elim
 | conv k x=>
  simp only[bd]at h⊢;split at h
  ·exact⟨_,_,⟨rfl,rfl⟩,h⟩
  ·exact h.elim
 | sS x=>
  simp only[bd]at h⊢;split at h
  ·exact⟨_,_,⟨rfl,rfl⟩,h⟩
  ·exact h.elim
 | fC f a b=>simp only[bd]at h⊢;exact⟨_,_,⟨rfl,rfl⟩,h⟩
 | slice esz x lo hi=>
  simp only[bd]at h⊢;split at h
  ·exact h.elim
  ·split at h
   ·split at h
    ·exact h.elim
    ·exact⟨_,_,⟨h.1,rfl,rfl⟩,h.2⟩
   ·split at h
    ·exact h.elim
    ·split at h
     ·exact⟨_,_,⟨h.1,rfl,rfl⟩,h.2⟩
     ·exact h.elim
   ·split at h
    ·exact h.elim
    ·exact⟨_,_,⟨h.1,rfl,rfl⟩,h.2⟩
   ·exact h.elim
 | x9 x lo hi=>simp only[bd]at h
 | nB off x=>
  simp only[bd]at h⊢;split at h
  ·exact⟨_,_,⟨rfl,rfl⟩,h⟩
  ·exact⟨_,_,⟨rfl,rfl⟩,h⟩
  ·exact h.elim
 | field agg off n x=>
  simp only[bd]at h⊢;split at h
  ·exact⟨_,_,⟨h.1,rfl,rfl⟩,h.2⟩
  ·exact h.elim
 | gk esz x i=>
  simp only[bd]at h⊢;split at h
  ·split at h
   ·exact⟨_,_,⟨h.1,rfl,rfl⟩,h.2⟩
   ·split at h
    ·exact⟨_,_,⟨h.1,rfl,rfl⟩,h.2⟩
    ·exact h.elim
   ·exact h.elim
  ·exact h.elim
 | uX x i=>
  simp only[bd]at h⊢;split at h
  ·exact⟨_,_,⟨h.1,rfl,rfl⟩,h.2⟩
  ·exact h.elim
 | extract x i=>
  simp only[bd]at h⊢;split at h
  ·exact⟨_,_,⟨h.1,rfl,rfl⟩,h.2⟩
  ·exact h.elim
 | append esz bytes x y=>
  simp only[bd,nh]at h⊢;split at h
  ·exact h.elim
  ·obtain⟨h0,h⟩:=h;split at h
   ·rename_i src _ _ _;by_cases gn:src=[]
    ·exact⟨_,_,⟨h0,fun _=>⟨rfl,rfl⟩,fun h'=>absurd gn h'⟩,h.1 gn⟩
    ·exact⟨_,_,⟨h0,fun h'=>absurd h' gn,fun _=>⟨(h.2 gn).1,rfl,rfl⟩⟩,(h.2 gn).2⟩
   ·rename_i src _ _ _;by_cases gn:src=[]
    ·exact⟨_,_,⟨h0,fun _=>⟨rfl,rfl⟩,fun h'=>absurd gn h'⟩,h.1 gn⟩
    ·exact⟨_,_,⟨h0,fun h'=>absurd h' gn,fun _=>⟨(h.2 gn).1,rfl,rfl⟩⟩,(h.2 gn).2⟩
   ·split at h
    ·exact⟨_,_,⟨h0,h.1,rfl,rfl⟩,h.2⟩
    ·exact h.elim
   ·exact h.elim
def WO (P:Program) (g:FuncId) (vs:List V) (H:List ak) (R:V->Prop):Prop:=∃v,av P g vs H (bX v H)/\R v
def Lg (P:Program) (g:FuncId) (vs:List V) (H:List ak) (R:V->List ak->Prop):Prop:=∃v H1,av P g vs H (bX v H1)/\R v H1
def Yp (R:V->List ak->Prop) (H:List ak):V->Prop:=fun v=>R v H
theorem Nh {R:V->List ak->Prop} {H:List ak} {v:V}:Yp R H v=R v H:=by rw[Yp]
def Lh (P:Program) (ld:Bool) (o:o5) (e:Env) (H:List ak) (R:V->List ak->Prop):Prop:=match ld with
 | true=>bd P o e H R
 | false=>bd P o e H (fun v H1=>H1=H/\R v H)
def zN (P:Program) (ld:Bool) (o:o5) (e:Env) (H:List ak) (R:V->List ak->Prop):Prop:=match o with
 | .call fx args=>match dp e fx with
  | .a6 g first bB=>match ld with
   | true=>Lg P g (first++args.map (dp e)++bB) H R
   | false=>WO P g (first++args.map (dp e)++bB) H (Yp R H)
  | _=>False
 | .len str x=>match str,dp e x with
  | false,.fs es=>R (.int .i64 es.length) H
  | false,.ag=>R (.int .i64 0) H
  | false,.emp=>R (.int .i64 0) H
  | false,.ms id off len=>R (.int .i64 len) H
  | true,.str s=>R (.int .i64 s.size) H
  | _,_=>False
 | .nS _=>False
 | .rU _ _=>False
 | .Ev _=>False
 | .Ew _=>False
 | .Ey _=>False
 | .mm _ _ _=>False
 | o=>Lh P ld o e H R
theorem Dl {P:Program} {ld:Bool} {o:o5} {e:Env} {H:List ak} {R:V->List ak->Prop} (hs:fJ o=true) (h:Lh P ld o e H R):
 ∃v H1,bd P o e H (bX v H1)/\(ld=false->H1=H)/\R v H1:=by
 cases ld with
 | true=>
  simp only[Lh]at h;obtain⟨v,H1,h1,h2⟩:=yG hs h;refine⟨v,H1,?_,by simp,h2⟩;have:bX v H1=(fun r H'=>v=r/\H1=H'):=by funext r H';simp only[bX,eq_comm]
  rw[this];exact h1
 | false=>
  simp only[Lh]at h;obtain⟨v,H1,h1,h2,h3⟩:=yG hs h;subst h2;refine⟨v,H1,?_,by simp,h3⟩;have:bX v H1=(fun r H'=>v=r/\H1=H'):=by funext r H';simp only[bX,eq_comm]
  rw[this];exact h1
theorem Dm {P:Program} {ld:Bool} {o:o5} {e:Env} {H:List ak} {R:V->List ak->Prop} (h:zN P ld o e H R):
 ∃v H1,bd P o e H (bX v H1)/\(ld=false->H1=H)/\R v H1:=by
 cases o with
 | call fx args=>
  simp only[zN]at h;split at h
  ·rename_i g first bB hf
   split at h
   ·obtain⟨v,H1,h1,h2⟩:=h;exact⟨v,H1,by simp only[bd,hf];exact h1,by simp,h2⟩
   ·obtain⟨v,h1,h2⟩:=h;exact⟨v,H,by simp only[bd,hf];exact h1,by simp,h2⟩
  ·exact h.elim
 | len str x=>
  simp only[zN]at h;simp only[bd];split at h
  ·rename_i es hv;rw[hv];exact⟨_,_,fun _=>⟨rfl,rfl⟩,fun _=>rfl,h⟩
  ·rename_i hv;rw[hv];exact⟨_,_,⟨rfl,rfl⟩,fun _=>rfl,h⟩
  ·rename_i hv;rw[hv];exact⟨_,_,⟨rfl,rfl⟩,fun _=>rfl,h⟩
  ·rename_i hv;rw[hv];exact⟨_,_,fun _=>⟨rfl,rfl⟩,fun _=>rfl,h⟩
  ·rename_i hv;rw[hv];exact⟨_,_,fun _=>⟨rfl,rfl⟩,fun _=>rfl,h⟩
  ·exact h.elim
 | nS t=>simp only[zN]at h
 | rU n x=>simp only[zN]at h
 | Ev x=>simp only[zN]at h
 | Ew x=>simp only[zN]at h
 | Ey x=>simp only[zN]at h
 | mm a x y=>simp only[zN]at h
 | _=>exact Dl rfl (by simpa only[zN]using h)
theorem pA {e:Env} {t:Nat} {v:V} (h:e t=v):az e t v=e:=by
 funext i;unfold az;split
 ·rename_i hi;rw[hi,h]
 ·rfl
def g2 (P:Program):List QO->Env->List ak->List (List ak)->List (Env×V)->(List (Env×V)->List (List ak)->Env->List ak->Prop)->Prop
 | [],e,H,Hs,tr,k=>k tr Hs e H
 | ⟨⟨d,o,g⟩,ld,lo,hi,bs⟩::rest,e,H,Hs,tr,k=>
  let run:=fun(e:Env)=>zN P ld o e H (fun v H1=>g2 P rest (fh e d v) H1 (if ld then Hs++ [H1]else Hs) (tr++ [(e,v)]) k)
  let skip:=fun(e:Env)=>g2 P rest (fh e d .iP) H (if ld then Hs++ [H]else Hs) (tr++ [(e,.iP)]) k
  match g with
  | none=>run e
  | some (t,true)=>match e t with
   | .bool b=>aA b (run (az e t (.bool true))) (skip (az e t (.bool false)))
   | .iP=>skip e
   | _=>False
  | some (t,false)=>match e t with
   | .bool b=>aA b (skip (az e t (.bool true))) (run (az e t (.bool false)))
   | .iP=>skip e
   | _=>False
theorem l5 {P:Program}:∀{l:List QO} {e:Env} {H:List ak} {Hs:List (List ak)} {tr:List (Env×V)} {k:List (Env×V)->List (List ak)->Env->List ak->Prop},g2 P l e H Hs tr k->kh P l e H Hs tr k
 | [],e,H,Hs,tr,k,h=>by simpa only[g2,kh]using h
 | ⟨⟨d,o,g⟩,ld,lo,hi,bs⟩::rest,e,H,Hs,tr,k,h=>by
  have run:∀e:Env,zN P ld o e H (fun v H1=>g2 P rest (fh e d v) H1 (if ld then Hs++ [H1]else Hs) (tr++ [(e,v)]) k)->
   (∀v H1,bd P o e H (bX v H1)->eX P ⟨d,o,g⟩ e H v H1)->kh P (⟨⟨d,o,g⟩,ld,lo,hi,bs⟩::rest) e H Hs tr k:=by
   intro e h hg;obtain⟨v,H1,h1,h2,h3⟩:=Dm h;have h4:=l5 h3;cases ld with
   | true=>simp only[kh];exact⟨v,H1,hg v H1 h1,by simpa using h4⟩
   | false=>have:=h2 rfl;subst this;simp only[kh];exact⟨v,hg v _ h1,by simpa using h4⟩
  have skip:∀e:Env,g2 P rest (fh e d .iP) H (if ld then Hs++ [H]else Hs) (tr++ [(e,.iP)]) k->eX P ⟨d,o,g⟩ e H .iP H->kh P (⟨⟨d,o,g⟩,ld,lo,hi,bs⟩::rest) e H Hs tr k:=by
   intro e h hg;have h4:=l5 h;cases ld with
   | true=>simp only[kh];exact⟨.iP,H,hg,by simpa using h4⟩
   | false=>simp only[kh];exact⟨.iP,hg,by simpa using h4⟩
  rcases g with _ | ⟨t,want⟩
  ·simp only[g2]at h;exact run e h (fun v H1 h=>by simpa[eX]using h)
  ·cases want
   ·simp only[g2]at h;split at h
    ·rename_i b hb;cases b
     ·have h':=h.2 rfl;rw[pA hb]at h';exact run e h' (fun v H1 h=>by simpa[eX,hb]using h)
     ·have h':=h.1 rfl;rw[pA hb]at h';exact skip e h' (by simp[eX,hb])
    ·rename_i hb;exact skip e h (by simp[eX,hb])
    ·exact h.elim
   ·simp only[g2]at h;split at h
    ·rename_i b hb;cases b
     ·have h':=h.2 rfl;rw[pA hb]at h';exact skip e h' (by simp[eX,hb])
     ·have h':=h.1 rfl;rw[pA hb]at h';exact run e h' (fun v H1 h=>by simpa[eX,hb]using h)
    ·rename_i hb;exact skip e h (by simp[eX,hb])
    ·exact h.elim
def gR (P:Program) (ld:Bool) (d:Option Nat) (rest:List QO) (e:Env) (Hs:List (List ak)) (tr:List (Env×V)) (k:List (Env×V)->List (List ak)->Env->List ak->Prop):V->List ak->Prop:=
 fun v H1=>g2 P rest (fh e d v) H1 (if ld then Hs++ [H1]else Hs) (tr++ [(e,v)]) k
section
variable {P:Program} {e:Env} {H:List ak} {Hs:List (List ak)} {tr:List (Env×V)} {k:List (Env×V)->List (List ak)->Env->List ak->Prop} {d:Option Nat} {o:o5} {lo hi bs:Nat} {rest:List QO} {ld:Bool}
theorem Yq {v:V} {H1:List ak}:gR P true d rest e Hs tr k v H1=g2 P rest (fh e d v) H1 (Hs++ [H1]) (tr++ [(e,v)]) k:=by simp[gR]
theorem Yr {v:V} {H1:List ak}:gR P false d rest e Hs tr k v H1=g2 P rest (fh e d v) H1 Hs (tr++ [(e,v)]) k:=by simp[gR]
theorem Ni:g2 P [] e H Hs tr k=k tr Hs e H:=by rw[g2]
theorem RX:g2 P (⟨⟨d,o,none⟩,ld,lo,hi,bs⟩::rest) e H Hs tr k=zN P ld o e H (gR P ld d rest e Hs tr k):=by rw[g2];rfl
theorem Nj {t:Nat}:g2 P (⟨⟨d,o,some (t,true)⟩,ld,lo,hi,bs⟩::rest) e H Hs tr k=(match e t with
 | .bool b=>aA b (zN P ld o (az e t (.bool true)) H (gR P ld d rest (az e t (.bool true)) Hs tr k)) (gR P ld d rest (az e t (.bool false)) Hs tr k .iP H)
 | .iP=>gR P ld d rest e Hs tr k .iP H
 | _=>False):=by
 rw[g2];cases e t<;>rfl
theorem Nk {t:Nat}:g2 P (⟨⟨d,o,some (t,false)⟩,ld,lo,hi,bs⟩::rest) e H Hs tr k=(match e t with
 | .bool b=>aA b (gR P ld d rest (az e t (.bool true)) Hs tr k .iP H) (zN P ld o (az e t (.bool false)) H (gR P ld d rest (az e t (.bool false)) Hs tr k))
 | .iP=>gR P ld d rest e Hs tr k .iP H
 | _=>False):=by
 rw[g2];cases e t<;>rfl
theorem RY {R:V->List ak->Prop}:Lh P true o e H R=bd P o e H R:=by rw[Lh]
def gF (H:List ak) (R:V->List ak->Prop):V->List ak->Prop:=fun v H1=>H1=H/\R v H
theorem RZ {R:V->List ak->Prop} {v:V}:gF H R v H=R v H:=by simp[gF]
theorem R0 {R:V->List ak->Prop}:Lh P false o e H R=bd P o e H (gF H R):=by rw[Lh];rfl
end
theorem Nl {b:Bool} {p q:Prop} (h:b=true):aA b p q=p:=by subst h;exact Dd
theorem Nn {b:Bool} {p q:Prop} (h:b=false):aA b p q=q:=by subst h;exact Ak
theorem aD {P:Program} {n:Nat} {l:List QO} {e:Env} {H:List ak} {k:fW} (h:g2 P l e H [H] [] (yA P (F P n) l k)):F P (n+1) (.code (.qregion l) e H k):=by
 rw[vE];exact l5 h
theorem sn {P:Program} {g:FuncId} {vs:List V} {H:List ak} {R:V->Prop} {r:V} (hn:ae vs=true) (h:af P g vs (·=r)) (hk:R r):WO P g vs H R:=
 ⟨r,di hn h ⟨rfl,rfl⟩,hk⟩
theorem No {P:Program} {g:FuncId} {vs vL:List V} {H:List ak} {R:V->Prop} {r:V} (n:Nat) (lX:eI (fz H n) vs=some vL) (h:af P g vL (·=r)) (cR:plain r=true) (hk:R r):WO P g vs H R:=
 ⟨r,pz n lX h cR ⟨rfl,rfl⟩,hk⟩
theorem Jm {P:Program} {g:FuncId} {vs:List V} {H:List ak} {R:V->List ak->Prop} {r:V} (hn:ae vs=true) (h:af P g vs (·=r)) (hk:R r H):Lg P g vs H R:=
 ⟨r,H,di hn h ⟨rfl,rfl⟩,hk⟩
theorem Np {P:Program} {g:FuncId} {vs vL:List V} {H:List ak} {R:V->List ak->Prop} {r:V} (n:Nat) (lX:eI (fz H n) vs=some vL) (h:af P g vL (·=r)) (cR:plain r=true) (hk:R r H):Lg P g vs H R:=
 ⟨r,H,pz n lX h cR ⟨rfl,rfl⟩,hk⟩
theorem Lg.mk {P:Program} {g:FuncId} {vs:List V} {H H1:List ak} {R:V->List ak->Prop} {r:V} (h:av P g vs H (bX r H1)) (hk:R r H1):Lg P g vs H R:=⟨r,H1,h,hk⟩
theorem av.fz {P:Program} {g:FuncId} {vs:List V} {H:List ak} {K:V->List ak->Prop}
 (h:av P g vs H (fun r H'=>∃D r',fz (cQ D H') 20 r=some r'/\K r' (bO D H'))):av P g vs H K:=by
 refine⟨h.1,fun f B I w args hs hr=>(h.2 f B I w args hs hr).mono ?_⟩;rintro e w' ⟨r,v,H',B',I',rfl,⟨D,r',hf,hk⟩,eM,hB,hI,eN⟩;obtain⟨I2,EG,lz,R1⟩:=eM.freeze D;exact⟨r',v,_,B',I2,rfl,hk,lz,hB,hI.trans EG,(R1 20 hf eN).mono (fun i p h=>by simp at h) (dY.refl _)⟩
mutual
def gz (n:Nat):V->Bool
 | .ptr id _ _ | .ms id _ _ | .map id=>decide (id<n)
 | .bc l | .fs l | .agg l | .dJ l=>idlL n l
 | .db a b=>idlL n a && idlL n b
 | .a6 _ a b=>idlL n a && idlL n b
 | .iface _ v=>gz n v
 | _=>true
def idlL (n:Nat):List V->Bool
 | []=>true
 | v::l=>gz n v && idlL n l
end
mutual
theorem mO {B:List Pl} {I:IM}:∀{x:V} {v:Value},aU B I x v->gz B.length x=true
 | .any,_,h | .iP,_,h | .bool _,_,h | .int _ _,_,h | .str _,_,h | .kb,_,h | .ag,_,h | .emp,_,h | .cG,_,h | .qH,_,h | .x7,_,h=>by simp[gz]
 | .ptr id i c,_,h=>by
  simp only[aU,gz,decide_eq_true_eq]at*;obtain⟨p,hp,_⟩:=h;exact(List.getElem?_eq_some_iff.1 hp).1
 | .ms id off len,_,h=>by
  simp only[aU,gz,decide_eq_true_eq]at*;obtain⟨p,a,cap,hp,_⟩:=h;exact(List.getElem?_eq_some_iff.1 hp).1
 | .map id,_,h=>by
  simp only[aU,gz,decide_eq_true_eq]at*;obtain⟨p,hp,_⟩:=h;exact(List.getElem?_eq_some_iff.1 hp).1
 | .bc cells,_,h=>by
  simp only[aU,gz]at*;obtain⟨b,o,h1,h2⟩:=h;exact mP h2
 | .fs elems,_,h=>by
  simp only[aU,gz]at*;obtain⟨a,cap,h1,h2,h3,h4⟩:=h;rcases h4 with h4 | ⟨b,o,sz,h5,h6⟩
  ·subst h4;rfl
  ·exact mQ h6
 | .db ks vs,_,h=>by
  simp only[aU,gz,Bool.and_eq_true]at*;obtain⟨b,es,clock,h1,h2,h0,h3,h4⟩:=h;exact⟨fk h3,fk h4⟩
 | .a6 f first bB,_,h=>by
  simp only[aU,gz,Bool.and_eq_true]at*;obtain⟨fs,cs,h1,h2,h3⟩:=h;exact⟨fk h2,fk h3⟩
 | .agg cells,_,h=>by
  simp only[aU,gz]at*;obtain⟨cs,h1,h2⟩:=h;exact fk h2
 | .dJ cells,_,h=>by
  simp only[aU,gz]at*;obtain⟨cs,h1,h2⟩:=h;exact fk h2
 | .iface t x,_,h=>by
  simp only[aU,gz]at*;obtain⟨u,h1,h2⟩:=h;exact mO h2
theorem fk {B:List Pl} {I:IM}:∀{xs:List V} {l:List Value},aV B I xs l->idlL B.length xs=true
 | [],_,h=>rfl
 | c::cs,_,h=>by
  simp only[aV,idlL,Bool.and_eq_true]at*;obtain⟨v,vs,h1,h2,h3⟩:=h;exact⟨mO h2,fk h3⟩
theorem mP {B:List Pl} {I:IM}:∀{xs:List V} {g:Nat->Option Value} {o:Nat},cI B I xs g o->idlL B.length xs=true
 | [],_,_,h=>rfl
 | c::cs,_,_,h=>by
  simp only[cI,idlL,Bool.and_eq_true]at*;obtain⟨⟨v,h1,h2⟩,h3⟩:=h;exact⟨mO h2,mP h3⟩
theorem mQ {B:List Pl} {I:IM}:∀{xs:List V} {g:Nat->Option Value} {sz o:Nat},bK B I xs g sz o->idlL B.length xs=true
 | [],_,_,_,h=>rfl
 | .agg cs::es,_,_,_,h=>by
  simp only[bK,idlL,gz,Bool.and_eq_true]at*;exact⟨mP h.2.1,mQ h.2.2⟩
 | e::es,_,_,_,h=>by
  have he:∀v,aU B I e v->gz B.length e=true:=fun v hv=>mO hv
  have ly:=fun g sz o=>mQ (B:=B) (I:=I) (xs:=es) (g:=g) (sz:=sz) (o:=o)
  simp only[idlL,Bool.and_eq_true];cases e with
  | agg cs=>
   simp only[bK,gz]at*;exact⟨mP h.2.1,ly _ _ _ h.2.2⟩
  | _=>
   simp only[bK]at h;obtain⟨h0,⟨v,h1,h2⟩,h3⟩:=h;exact⟨he v h2,ly _ _ _ h3⟩
end
section
variable {B B':List Pl} {I:IM} {n:Nat} (hB:∀i,i<n->B'[i]? =B[i]?)
include hB
mutual
theorem mR:∀{x:V} {v:Value},gz n x=true->aU B I x v->aU B' I x v
 | .any,_,_,h=>by simp[aU]
 | .iP,_,_,h=>by simpa[aU]using h
 | .bool _,_,_,h=>by simpa[aU]using h
 | .int _ _,_,_,h=>by simpa[aU]using h
 | .str _,_,_,h=>by simpa[aU]using h
 | .kb,_,_,h=>by simpa[aU]using h
 | .ag,_,_,h=>by simpa[aU]using h
 | .emp,_,_,h=>by simpa[aU]using h
 | .cG,_,_,h=>by simpa[aU]using h
 | .qH,_,_,h=>by simpa[aU]using h
 | .x7,_,_,h=>by simpa[aU]using h
 | .ptr id i c,_,hn,h=>by
  simp only[aU,gz,decide_eq_true_eq]at*;rw[hB id hn];exact h
 | .ms id off len,_,hn,h=>by
  simp only[aU,gz,decide_eq_true_eq]at*;rw[hB id hn];exact h
 | .map id,_,hn,h=>by
  simp only[aU,gz,decide_eq_true_eq]at*;rw[hB id hn];exact h
 | .bc cells,_,hn,h=>by
  simp only[aU,gz]at*;obtain⟨b,o,h1,h2⟩:=h;exact⟨b,o,h1,mS hn h2⟩
 | .fs elems,_,hn,h=>by
  simp only[aU,gz]at*;obtain⟨a,cap,h1,h2,h3,h4⟩:=h;refine⟨a,cap,h1,h2,h3,?_⟩;rcases h4 with h4 | ⟨b,o,sz,h5,h6⟩
  ·exact .inl h4
  ·exact .inr ⟨b,o,sz,h5,mT hn h6⟩
 | .db ks vs,_,hn,h=>by
  simp only[aU,gz,Bool.and_eq_true]at*;obtain⟨b,es,clock,h1,h2,h0,h3,h4⟩:=h;exact⟨b,es,clock,h1,h2,h0,fl hn.1 h3,fl hn.2 h4⟩
 | .a6 f first bB,_,hn,h=>by
  simp only[aU,gz,Bool.and_eq_true]at*;obtain⟨fs,cs,h1,h2,h3⟩:=h;exact⟨fs,cs,h1,fl hn.1 h2,fl hn.2 h3⟩
 | .agg cells,_,hn,h=>by
  simp only[aU,gz]at*;obtain⟨cs,h1,h2⟩:=h;exact⟨cs,h1,fl hn h2⟩
 | .dJ cells,_,hn,h=>by
  simp only[aU,gz]at*;obtain⟨cs,h1,h2⟩:=h;exact⟨cs,h1,fl hn h2⟩
 | .iface t x,_,hn,h=>by
  simp only[aU,gz]at*;obtain⟨u,h1,h2⟩:=h;exact⟨u,h1,mR hn h2⟩
theorem fl:∀{xs:List V} {l:List Value},idlL n xs=true->aV B I xs l->aV B' I xs l
 | [],_,_,h=>by simpa[aV]using h
 | c::cs,_,hn,h=>by
  simp only[aV,idlL,Bool.and_eq_true]at*;obtain⟨v,vs,h1,h2,h3⟩:=h;exact⟨v,vs,h1,mR hn.1 h2,fl hn.2 h3⟩
theorem mS:∀{xs:List V} {g:Nat->Option Value} {o:Nat},idlL n xs=true->cI B I xs g o->cI B' I xs g o
 | [],_,_,_,h=>by simp[cI]
 | c::cs,_,_,hn,h=>by
  simp only[cI,idlL,Bool.and_eq_true]at*;obtain⟨⟨v,h1,h2⟩,h3⟩:=h;exact⟨⟨v,h1,mR hn.1 h2⟩,mS hn.2 h3⟩
theorem mT:∀{xs:List V} {g:Nat->Option Value} {sz o:Nat},idlL n xs=true->bK B I xs g sz o->bK B' I xs g sz o
 | [],_,_,_,_,h=>by simp[bK]
 | .agg cs::es,_,_,_,hn,h=>by
  simp only[bK,idlL,gz,Bool.and_eq_true]at*;exact⟨h.1,mS hn.1 h.2.1,mT hn.2 h.2.2⟩
 | e::es,_,_,_,hn,h=>by
  simp only[idlL,Bool.and_eq_true]at hn;have he:∀v,aU B I e v->aU B' I e v:=fun v hv=>mR hn.1 hv
  have ly:=fun g sz o=>mT (xs:=es) (g:=g) (sz:=sz) (o:=o) hn.2
  cases e with
  | agg cs=>
   simp only[bK,gz]at*;exact⟨h.1,mS hn.1 h.2.1,ly _ _ _ h.2.2⟩
  | _=>
   simp only[bK]at*;obtain⟨h0,⟨v,h1,h2⟩,h3⟩:=h;exact⟨h0,⟨v,h1,he v h2⟩,ly _ _ _ h3⟩
end
end
def ak.nr:ak->Bool
 | .row es=>ae es
 | .mp ks vs=>ae ks && ae vs
 | .it ks vs cur=>(ae ks && ae vs) && (match cur with | some (k,v)=>al k && al v | none=>true)
 | .dead=>true
theorem cD.trim {f:Fr} {B B':List Pl} {I I':IM} {w w':World} {H H2 X:List ak} (hs:cD f B I w H) (eM:cD f B' I' w' (H2++X)) (hB:eA B B') (hl:H2.length=H.length)
 (nj:∀(i:Nat) b,H2[i]? =some b->H[i]? =some b\/b.nr=true):cD f (B'.take H2.length) I' w' H2/\eA B (B'.take H2.length):=by
 have l6:B.length=H2.length:=by rw[hs.len,hl]
 have R2:∀i p,(B'.take H2.length)[i]? =some p->i<H2.length/\B'[i]? =some p:=by
  intro i p h;rw[List.getElem?_take]at h;split at h
  ·exact⟨by assumption,h⟩
  ·cases h
 have Ik:∀(i:Nat) b,H2[i]? =some b->(H2++X)[i]? =some b:=by
  intro i b h;rw[List.getElem?_append_left (List.getElem?_eq_some_iff.1 h).1];exact h
 have lq:∀i,i<H2.length->(B'.take H2.length)[i]? =B'[i]? :=fun i hi=>by rw[List.getElem?_take,if_pos hi]
 refine⟨?_,?_⟩
 ·constructor
  ·have:=eM.len;rw[List.length_append]at this;rw[List.length_take];omega
  ·exact eM.lH
  ·exact eM.wy
  ·exact eM.dZ
  ·exact eM.os
  ·exact eM.tape
  ·exact eM.output
  ·exact eM.size
  ·exact eM.keep
  ·intro i p b h1 h2;obtain⟨hi,h3⟩:=R2 i p h1;have dx:=eM.ok i p b h3 (Ik i b h2);cases b with
   | dead=>trivial
   | row es=>
    obtain⟨carr,e,h4,h5,h6,h7⟩:=dx;refine⟨carr,e,h4,h5,h6,?_⟩;rcases nj i _ h2 with h8 | h8
    ·have hp:∃q,B[i]? =some q:=⟨B[i]'(by omega),List.getElem?_eq_getElem _⟩;obtain⟨q,hq⟩:=hp;obtain⟨Q8,e0,_,_,_,h9⟩:=hs.ok i q _ hq h8;have eb:=mQ h9;rw[l6]at eb;exact mT lq eb h7
    ·exact gf h8 h7
   | mp ks vs=>
    obtain⟨es,clock,h4,h0,h5,h6⟩:=dx;refine⟨es,clock,h4,h0,?_⟩;rcases nj i _ h2 with h8 | h8
    ·have hp:∃q,B[i]? =some q:=⟨B[i]'(by omega),List.getElem?_eq_getElem _⟩;obtain⟨q,hq⟩:=hp;obtain⟨es0,c0,_,_,h9,eb⟩:=hs.ok i q _ hq h8;have h9:=fk h9;have eb:=fk eb;rw[l6]at h9 eb;exact⟨fl lq h9 h5,fl lq eb h6⟩
    ·simp only[ak.nr,Bool.and_eq_true]at h8;exact⟨dD h8.1 h5,dD h8.2 h6⟩
   | it ks vs cur=>
    obtain⟨b,es,clock,since,seen,c0,g0,g1,g2,g3,g4,g5,g6,h5,h6,h7⟩:=dx;refine⟨b,es,clock,since,seen,c0,g0,g1,g2,g3,g4,g5,g6,?_⟩;rcases nj i _ h2 with h8 | h8
    ·have hp:∃q,B[i]? =some q:=⟨B[i]'(by omega),List.getElem?_eq_getElem _⟩;obtain⟨q,hq⟩:=hp;obtain⟨_,_,_,_,_,_,_,_,_,_,_,_,_,h9,eb,ez⟩:=hs.ok i q _ hq h8;have h9:=fk h9;have eb:=fk eb;rw[l6]at h9 eb;refine⟨fl lq h9 h5,fl lq eb h6,fun k v hc=> ?_⟩;obtain⟨e,e1,e2,e3,e4,e5⟩:=h7 k v hc;obtain⟨e',_,_,_,f4,f5⟩:=ez k v hc;have f4:=mO f4;have f5:=mO f5;rw[l6]at f4 f5;exact⟨e,e1,e2,e3,mR lq f4 e4,mR lq f5 e5⟩
    ·simp only[ak.nr,Bool.and_eq_true]at h8;refine⟨dD h8.1.1 h5,dD h8.1.2 h6,fun k v hc=> ?_⟩;obtain⟨e,e1,e2,e3,e4,e5⟩:=h7 k v hc;rw[hc]at h8;simp only[Bool.and_eq_true]at h8;exact⟨e,e1,e2,e3,eU h8.2.1 e4,eU h8.2.2 e5⟩
  ·intro i j p q b c h1 h2 h3 h4 hb hc he;exact eM.sep i j p q b c (R2 i p h1).2 (R2 j q h2).2 (Ik i b h3) (Ik j c h4) hb hc he
  ·intro i p b h1 h2 hb;exact eM.own i p b (R2 i p h1).2 (Ik i b h2) hb
 ·intro i p h;have hi:i<H2.length:=by rw[<-l6];exact(List.getElem?_eq_some_iff.1 h).1
  rw[lq i hi];exact hB i p h
theorem av.trim {P:Program} {g:FuncId} {vs:List V} {H:List ak} {K:V->List ak->Prop}
 (h:av P g vs H (fun r H'=>∃H2 X,H'=H2++X/\H2.length=H.length/\(∀(i:Nat) b,H2[i]? =some b->H[i]? =some b\/b.nr=true)/\al r=true/\K r H2)):av P g vs H K:=by
 refine⟨h.1,fun f B I w args hs hr=>(h.2 f B I w args hs hr).mono ?_⟩;rintro e w' ⟨r,v,H',B',I',rfl,⟨H2,X,rfl,hl,nj,MT,hk⟩,eM,hB,hI,eN⟩;obtain⟨h1,h2⟩:=hs.trim eM hB hl nj;exact⟨r,v,H2,_,I',rfl,hk,h1,h2,hI,eU MT eN⟩
theorem av.R3 {P:Program} {g:FuncId} {vs:List V} {H:List ak} {K:V->List ak->Prop}
 (h:av P g vs H (fun r H'=>∃H2 X id off len es,H'=H2++X/\H2.length=H.length/\(∀(i:Nat) b,H2[i]? =some b->H[i]? =some b\/b.nr=true)/\
   r=.ms (H2.length+id) off len/\X[id]? =some (.row es)/\ae es=true/\K (.ms H2.length off len) (H2++ [.row es]))):av P g vs H K:=by
 refine⟨h.1,fun f B I w args hs hr=>(h.2 f B I w args hs hr).mono ?_⟩;rintro e w' ⟨r,v,H',B',I',rfl,⟨H2,X,id,off,len,es,rfl,hl,nj,rfl,hX,ly,hk⟩,eM,hB,hI,eN⟩;obtain⟨h1,h2⟩:=hs.trim eM hB hl nj;simp only[aU]at eN;obtain⟨p,a,cap,hp,hv⟩:=eN;have hid:(H2++X)[H2.length+id]? =some (.row es):=by rw[List.getElem?_append_right (by omega)];rw[<-hX];congr 1;omega
 refine⟨_,v,H2++ [.row es],B'.take H2.length++ [p],I',rfl,hk,?_,h2.trans (eA.append _ _),hI,?_⟩
 ·refine h1.push _ _ ?_ ?_ ?_
  ·obtain⟨carr,e,h4,h5,h6,h7⟩:=eM.ok _ p _ hp hid;exact⟨carr,e,h4,h5,h6,gf ly h7⟩
  ·intro i q c h3 h4 hc heq;have hi:i<H2.length:=(List.getElem?_eq_some_iff.1 h4).1;rw[List.getElem?_take,if_pos hi]at h3;have:=eM.sep i (H2.length+id) q p c _ h3 hp (by rw[List.getElem?_append_left hi];exact h4) hid hc rfl heq;omega
  ·exact eM.own _ p _ hp hid rfl
 ·simp only[aU];refine⟨p,a,cap,?_,hv⟩;rw[bA,if_pos h1.len.symm]
theorem av.Li {P:Program} {g:FuncId} {vs:List V} {H H1:List ak} {K:V->List ak->Prop} {r:V} (h:av P g vs H (bX r H1)) (hk:K r H1):av P g vs H K:=
 h.mono (fun r' H' h=>by obtain⟨rfl,rfl⟩:=h;exact hk)
section
variable {esz bytes:Nat} {src:List V} {yv:V} {H:List ak} {K:V->List ak->Prop}
theorem qR:nh esz bytes src yv .ag H K=((src=[]->K .ag H)/\(src≠ []->src.length*bytes<=140737488355328/\K (.ms H.length 0 src.length) (H++ [.row src]))):=by rw[nh]
theorem FC:nh esz bytes src yv .emp H K=((src=[]->K .emp H)/\(src≠ []->src.length*bytes<=140737488355328/\K (.ms H.length 0 src.length) (H++ [.row src]))):=by rw[nh]
def Nq (esz bytes:Nat) (src:List V) (yv:V) (id off len:Nat) (b:Option ak) (H:List ak) (K:V->List ak->Prop):Prop:=match b with
 | some (.row es)=>(off+len=es.length/\es≠ []/\df esz es/\(∀i o l,yv=.ms i o l->i≠id)/\(len+src.length)*bytes<=140737488355328)/\K (.ms H.length 0 (len+src.length)) (H.set id .dead++ [.row (es.drop off++src)])
 | _=>False
theorem tC {id off len:Nat} {es:List V}:Nq esz bytes src yv id off len (some (.row es)) H K=((off+len=es.length/\es≠ []/\df esz es/\(∀i o l,yv=.ms i o l->i≠id)/\(len+src.length)*bytes<=140737488355328)/\K (.ms H.length 0 (len+src.length)) (H.set id .dead++ [.row (es.drop off++src)])):=by rw[Nq]
theorem sr {id off len:Nat}:nh esz bytes src yv (.ms id off len) H K=Nq esz bytes src yv id off len (H[id]?) H K:=by
 rw[nh];cases H[id]? with
 | none=>rfl
 | some b=>cases b<;>rfl
end
def a7 (kv:V) (j:Nat):Prop:=∀a b,kv≠ .ms j a b
def OV (H:List ak) (kv:V) (acc:List V):Prop:=(acc=[]/\kv=.ag)\/(acc≠ []/\∃id,kv=.ms id 0 acc.length/\H[id]? =some (.row acc))
theorem cu {esz bytes:Nat} {src:List V} {yv kv:V} {H:List ak} {K:V->List ak->Prop} {acc:List V} (bm:OV H kv acc) (hy:∀i o l,yv=.ms i o l->a7 kv i) (hh:df esz acc) (hb:(acc.length+src.length)*bytes<=140737488355328)
 (hk:∀bN H',OV H' bN (acc++src)->H.length<=H'.length->(∀j,j<H.length->a7 kv j->H'[j]? =H[j]? /\a7 bN j)->K bN H'):nh esz bytes src yv kv H K:=by
 rcases bm with⟨rfl,rfl⟩ | ⟨hn,id,rfl,hid⟩
 ·rw[qR];refine⟨fun h=> ?_,fun h=>⟨by simpa using hb,?_⟩⟩
  ·subst h;exact hk _ _ (.inl ⟨rfl,rfl⟩) (Nat.le_refl _) (fun j _ hj=>⟨rfl,hj⟩)
  ·refine hk _ _ (.inr ⟨by simpa using h,H.length,by simp,by simp⟩) (by simp) (fun j hj _=>⟨by rw[List.getElem?_append_left hj],fun a b h=> ?_⟩);injection h;omega
 ·have hl:=(List.getElem?_eq_some_iff.1 hid).1;rw[sr,hid,tC];refine⟨⟨by simp,hn,hh,fun i o l h=> ?_,hb⟩,?_⟩
  ·intro he;subst he;exact hy _ o l h 0 _ rfl
  ·refine hk _ _ (.inr ⟨by simp[hn],H.length,by simp,by rw[List.getElem?_append_right (by simp)];simp⟩) (by simp) (fun j hj rY=>⟨?_,fun a b h=> ?_⟩)
   ·rw[List.getElem?_append_left (by simpa using hj),List.getElem?_set_ne];intro he;subst he;exact rY 0 _ rfl
   ·injection h;omega
class CG (G:Prop) (P:outParam Program) (g:outParam FuncId) (vs:outParam (List V)) (H:outParam (List ak)) (R:outParam (V->List ak->Prop)):Prop where
 out:∀{r H1},av P g vs H (bX r H1)->R r H1->G
instance {P:Program} {g:FuncId} {vs:List V} {H:List ak} {K:V->List ak->Prop}:CG (av P g vs H K) P g vs H K:=⟨fun h hk=>av.Li h hk⟩
instance {P:Program} {g:FuncId} {vs:List V} {H:List ak} {R:V->List ak->Prop}:CG (Lg P g vs H R) P g vs H R:=⟨fun h hk=>Lg.mk h hk⟩
class CQ (G:Prop) (P:outParam Program) (g:outParam FuncId) (vs:outParam (List V)) (H:outParam (List ak)) (R:outParam (V->Prop)):Prop where
 Yt:∀{r},ae vs=true->af P g vs (·=r)->R r->G
 out:∀{r vL} (n:Nat),eI (fz H n) vs=some vL->af P g vL (·=r)->plain r=true->R r->G
instance {P:Program} {g:FuncId} {vs:List V} {H:List ak} {K:V->List ak->Prop}:CQ (av P g vs H K) P g vs H (fun r=>K r H):=⟨fun hn h hk=>di hn h hk,fun n lX h cR hk=>pz n lX h cR hk⟩
instance {P:Program} {g:FuncId} {vs:List V} {H:List ak} {R:V->Prop}:CQ (WO P g vs H R) P g vs H R:=⟨fun hn h hk=>sn hn h hk,fun n lX h cR hk=>No n lX h cR hk⟩
instance {P:Program} {g:FuncId} {vs:List V} {H:List ak} {R:V->List ak->Prop}:CQ (Lg P g vs H R) P g vs H (fun r=>R r H):=⟨fun hn h hk=>Jm hn h hk,fun n lX h cR hk=>Np n lX h cR hk⟩
theorem bR {G:Prop} {P:Program} {g:FuncId} {vs:List V} {H H1:List ak} {R:V->List ak->Prop} {r:V} [CG G P g vs H R] (h:av P g vs H (bX r H1)) (hk:R r H1):G:=CG.out h hk
theorem bj {G:Prop} {P:Program} {g:FuncId} {vs:List V} {H:List ak} {R:V->Prop} {r:V} [CQ G P g vs H R] (h:af P g vs (·=r)) (hn:ae vs=true) (hk:R r):G:=CQ.Yt hn h hk
theorem cj {G:Prop} {P:Program} {g:FuncId} {vs vL:List V} {H:List ak} {R:V->Prop} {r:V} [CQ G P g vs H R] (lX:eI (fz H 20) vs=some vL) (h:af P g vL (·=r)) (cR:plain r=true) (hk:R r):G:=CQ.out 20 lX h cR hk
attribute [go_sem] fin qR FC sr tC bX eq_self exists_eq_left' exists_eq_left decide_true decide_false beq_self_eq_true MZ Fm RB Fp I8 M0 RC La I9 By Bz M1 M3 M4 M5 Fq Fs yB wK Ja Jb py I7 I6 Ni RX Nj Nk zN RY R0 RZ Nh Yq Yr Bool.or_true Bool.true_or Bool.false_or Bool.or_false pv Bx eX bd dp az fh aC List.getD_cons_zero List.getD_cons_succ List.getD_nil true_and and_true or_true true_or or_false false_or List.map_cons List.map_nil List.nil_append List.cons_append List.append_nil List.append_assoc Int.toNat_natCast V.isAny rd iZ Mz lQ EX EY Option.map_none List.length_cons List.length_nil List.length_map List.take_succ_cons List.take_zero List.drop_succ_cons List.drop_zero List.headD_cons Nat.zero_add List.getElem?_cons_zero List.getElem?_cons_succ List.set_cons_zero List.set_cons_succ List.length_append Nat.add_assoc Bool.not_true Bool.not_false V.one List.all_cons List.all_nil Bool.and_true Bool.and_self Bool.true_and
attribute [go_sem ↓] Nl Nn
attribute [push_cast] Ar bd dp rd List.headD_cons tA Dk az RU or_true true_or false_or true_and and_true al ae List.getElem?_cons_zero List.getElem?_cons_succ List.length_cons List.length_nil List.length_map List.drop_zero List.take_succ_cons List.take_zero List.drop_succ_cons Nat.zero_add Nat.le_refl Nat.zero_le Nat.lt_add_one List.getD_cons_zero Bool.and_true Bool.and_self Bool.true_and Option.map_some Option.some.injEq exists_eq_left' exists_eq_left V.int.injEq V.bool.injEq V.str.injEq V.fs.injEq
attribute [go_sem] Nat.reduceEqDiff Nat.reduceBEq Int.reduceToNat Nat.reduceAdd Nat.reduceLT Nat.reduceLeDiff reduceCtorEq Nat.reduceSub
attribute [go_sem ↓] reduceIte
theorem fv {α:Type}:(∀{l m:List α} {n:Nat},n<l.length->(l++m)[n]? =l[n]?)/\(∀{l m:List α} {n:Nat},l.length<=n->(l++m)[n]? =m[n - l.length]?)/\(∀{l:List α} {i j:Nat} {a:α},i≠j->(l.set i a)[j]? =l[j]?)/\
 (∀{l:List α} {i:Nat} {a:α},i<l.length->(l.set i a)[i]? =some a)/\(∀{l m:List α} {i:Nat} {x:α},i<l.length->(l++m).set i x=l.set i x++m)/\(∀{l m:List α} {i:Nat} {x:α},l.length<=i->(l++m).set i x=l++m.set (i - l.length) x)/\
 (∀{l:List α} {i:Nat} {a:α},(l.set i a).length=l.length)/\(∀{l:List α} {i:Nat} {a b:α},(l.set i a).set i b=l.set i b):=
 ⟨fun h=>List.getElem?_append_left h,fun h=>List.getElem?_append_right h,fun h=>List.getElem?_set_ne h,fun h=>List.getElem?_set_self h,fun h=>List.set_append_left _ _ h,fun h=>List.set_append_right _ _ h,List.length_set,List.set_set ..⟩
theorem fK:(∀p:Prop,(False->p)=True)/\(∀p:Prop,(True->p)=p)/\(∀n k:Nat,n<=n+k)/\(∀n:Nat,n<=n)/\(∀n:Nat,n - n=0)/\(∀n m:Nat,n+m - n=m):=
 ⟨fun p=>by simp,fun p=>by simp,Nat.le_add_right,Nat.le_refl,Nat.sub_self,Nat.add_sub_cancel_left⟩
theorem bz {P:Program} {rs:List a8} {e:Env} {H:List ak} {k:V->Prop} (h:Ar P rs e H k):Ar P rs e H k:=h
end Go.Proofs.YtdgoeblpcnjlbaaGreatDoor.Av

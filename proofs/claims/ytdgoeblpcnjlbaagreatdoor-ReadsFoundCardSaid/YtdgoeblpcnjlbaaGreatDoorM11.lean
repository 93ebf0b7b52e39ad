/- ReadsFound. Text 11 of 17. -/
import Derived.Shelf.SlIterI.Nil
import Derived.Shelf.SortM.Plain
import Derived.Shelf.SortM.SortNone
import Derived.Ground.GgzProg
import Derived.Ground.SlgmProg
import Derived.Test.YtdgoeblpcnjlbaaGreatDoorProg
import Derived.Test.YtdgoeblpcnjlbaaGreatDoorM10
set_option linter.all false
set_option maxRecDepth 100000
set_option maxHeartbeats 64000000
namespace Go.Proofs.YtdgoeblpcnjlbaaGreatDoor.Av
open Go.RowKit List
theorem t319 (xs:List St) (g:FuncId) (first bB:List V) (p:St->Bool) (hn:ae first=true) (nH:ae bB=true)
 (h:∀x∈xs,af Tryz.prog g (first++ [encS x]++bB) (·=.bool (p x))):af Tryz.prog 183 [.fs (xs.map encS),.a6 g first bB] (·=.int .i64 (oc p xs 0)):=by
 refine af.intro aai 200 (by simp) 20 ?_;simp -implicitDefEqProofs only[TX,go_sem];intro hlen;refine aL (fun m e H=>∃pre post,xs=pre++post/\m=post.length/\(∀y∈pre,p y=false)/\e 0=.fs (xs.map encS)/\e 1=.a6 g first bB/\e 7=.int .i64 xs.length/\e 8=.int .i64 pre.length) xs.length ⟨[],xs,by simp[az,aC]⟩ ?_
 rintro m e H ⟨pre,post,ao,rfl,hp,h0,h1,h7,h8⟩;cases post with
 | nil=>
  simp -implicitDefEqProofs only[h0,h1,h7,h8,aI ao,decide_false,go_sem];simp -implicitDefEqProofs only[OB,push_cast,go_sem_proc];rw[ao,dq _ pre [] 0 hp];rfl
 | cons y post=>
  have hg:=aO encS ao;have hy:=h y (by simp[ao]);rcases y with⟨k,r,t,v,l,⟨ek,en,es,aR⟩,a,b,q,ps⟩
  rw[ay]at hg hy;simp -implicitDefEqProofs only[h0,h1,h7,h8,an ao,hg,aa ao hlen,decide_true,go_sem];simp only[List.append_assoc,List.cons_append,List.nil_append]at hy;refine di (by simp[gK,ae,al,hn,nH,bf,ah,aE]) hy ?_;simp -implicitDefEqProofs only[h0,h1,h7,h8,an ao,hg,aa ao hlen,decide_true,go_sem];refine⟨fun hc=> ?_,fun hc=> ?_⟩
  ·simp -implicitDefEqProofs only[OB,push_cast,go_sem_proc];rw[ao,dq _ pre _ 0 hp,oc,hc];simp
  ·exact⟨_,Nat.lt_succ_self _,pre++ [_],post,by simp[ao];rfl,rfl,fun z hz=>by rcases List.mem_append.1 hz with hz | hz;exact hp z hz;simp at hz;subst hz;exact hc,by simp⟩
theorem t284 (xs:List St) (g:FuncId) (first bB:List V) (p:St->Bool) (hn:ae first=true) (nH:ae bB=true)
 (h:∀x∈xs,af Tryz.prog g (first++ [encS x]++bB) (·=.bool (p x))):af Tryz.prog 132 [.fs (xs.map encS),.a6 g first bB] (·=.bool (xs.any p)):=by
 refine af.intro aab 200 (by simp) 20 ?_;simp -implicitDefEqProofs only[TN,go_sem];refine di (by simp[ae,al,hn,nH,ah]) (t319 xs g first bB p hn nH h) ?_
 simp -implicitDefEqProofs only[go_sem];simp -implicitDefEqProofs only[TO,push_cast,go_sem_proc];exact fY _ _ _ (by omega)
def mA (n:Nat) (S:List Int):List Bool:=(List.range n).map fun(i:Nat)=>decide ((i:Int)∈S)
theorem ie (n:Nat) (S:List Int):(mA n S).length=n:=by simp[mA]
theorem gw (n:Nat) (S:List Int) (i:Nat) (h:i<n):(mA n S)[i]? =some (decide ((i:Int)∈S)):=by simp[mA,h]
theorem Cp (n:Nat):mA n []=List.replicate n false:=by
 apply List.ext_getElem?
 intro i;by_cases h:i<n
 ·rw[gw _ _ _ h];simp[h]
 ·rw[List.getElem?_eq_none (by rw[ie];omega),List.getElem?_eq_none (by simp;omega)]
theorem xg (n:Nat) (S:List Int) (i:Nat):mA n (fc S i)=(mA n S).set i true:=by
 apply List.ext_getElem?
 intro j;rw[List.getElem?_set];by_cases h:j<n
 ·rw[gw _ _ _ h];by_cases rm:i=j
  ·subst rm;simp[ie,h,fN]
  ·rw[if_neg rm,gw _ _ _ h];have:(j:Int)≠(i:Int):=by omega
   simp[fN,this]
 ·rw[List.getElem?_eq_none (by rw[ie];omega)];split
  ·rw[if_neg (by rw[ie];omega)]
  ·rw[List.getElem?_eq_none (by rw[ie];omega)]
structure SetP (n:Nat) (S:List Int):Prop where
 lo:∀x∈S,0<=x
 hi:∀x∈S,x<n
 nodup:S.Nodup
theorem SetP.nil (n:Nat):SetP n []:=⟨by simp,by simp,List.nodup_nil⟩
theorem SetP.add {n:Nat} {S:List Int} (h:SetP n S) {i:Nat} (hi:i<n):SetP n (fc S i):=by
 refine⟨fun x hx=> ?_,fun x hx=> ?_,?_⟩
 ·rcases fN.1 hx with hx | rfl
  ·exact h.lo x hx
  ·omega
 ·rcases fN.1 hx with hx | rfl
  ·exact h.hi x hx
  ·omega
 ·unfold fc
  split
  ·exact h.nodup
  ·rename_i hc;have hc:¬(i:Int)∈S:=by simpa using hc
   rw[List.nodup_append];exact⟨h.nodup,by simp,fun a ha b hb=>by simp at hb;subst hb;intro he;subst he;exact hc ha⟩
theorem SetP.len {n:Nat}:∀{S:List Int},SetP n S->S.length<=n:=by
 have key:∀{S:List Int},SetP n S->S.length+jC (mA n S)=n:=by
  intro S;induction S with
  | nil=>
   intro _;rw[Cp];have:∀m,jC (List.replicate m false)=m:=fun m=>by simp[jC]
   simp[this]
  | cons i S ih=>
   intro h;have hn:=List.nodup_cons.1 h.nodup;have hS:SetP n S:=⟨fun x hx=>h.lo x (by simp[hx]),fun x hx=>h.hi x (by simp[hx]),hn.2⟩;have:=ih hS;have h0:=h.lo i (by simp);have h1:=h.hi i (by simp);obtain⟨k,rfl⟩:∃k:Nat,i=k:=⟨i.toNat,by omega⟩;have hk:k<n:=by omega
   have iI:mA n ((k:Int)::S)=(mA n S).set k true:=by
    rw[<-xg];simp only[mA];apply List.map_congr_left
    intro j _;simp[fN,or_comm]
   have hg:=gw n S k hk;have:=jS (E:=mA n S) (i:=k) (by rw[hg];simp[hn.1]);rw[iI,List.length_cons];omega
 intro S h;have:=key h;omega
theorem OV.mB {H:List ak} {kv:V} {acc:List V} (h:OV H kv acc) {j:Nat} (hj:H.length<=j):a7 kv j:=by
 rcases h with⟨_,rfl⟩ | ⟨_,id,rfl,h2⟩
 ·intro a b e;cases e
 ·intro a b e;injection e with e _ _;have:=(List.getElem?_eq_some_iff.1 h2).1;omega
theorem t211r (xs:List Int):af Tryz.prog 17 [.fs (xs.map (.int .i64)),.fs (xs.map (.int .i64))] (·=.bool true):=by
 refine af.intro c211 200 (by simp) 20 ?_;simp -implicitDefEqProofs only[s211,decide_true,go_sem];intro hlen _ _;refine aL (fun m e H=>∃pre post,xs=pre++post/\m=post.length/\e 0=.fs (xs.map (.int .i64))/\e 1=.fs (xs.map (.int .i64))/\e 12=.int .i64 xs.length/\e 13=.int .i64 pre.length) xs.length ⟨[],xs,by simp[az,aC]⟩ ?_;rintro m e H ⟨pre,post,ao,rfl,h1,h2,cZ,ea⟩;cases post with
 | nil=>
  simp -implicitDefEqProofs only[h1,h2,cZ,ea,aI ao,decide_false,go_sem];simp -implicitDefEqProofs only[r211,push_cast,go_sem_proc]
 | cons y post=>
  have hg:=aO (V.int .i64) ao;simp -implicitDefEqProofs only[h1,h2,cZ,ea,hg,an ao,aa ao hlen,decide_true,go_sem];repeat' (first | ((with_reducible refine aD ?_);simp -implicitDefEqProofs only[h1,h2,cZ,ea,hg,an ao,aa ao hlen,go_sem]) | (with_reducible refine aA.mk ?_ ?_) | (with_reducible refine And.intro ?_ ?_) | ((with_reducible refine bz ?_);simp -implicitDefEqProofs only[r211,push_cast,go_sem_proc]) | intro _)
  exact⟨_,Nat.lt_succ_self _,pre++ [y],post,by simp[ao],rfl,by simp⟩
end Go.Proofs.YtdgoeblpcnjlbaaGreatDoor.Av
namespace Go.Proofs
open Go.Shelf List
def Tryz.D1:Go.Shelf.Ren:=⟨fun | 5=>99 | 8=>168 | 7=>171 | 19=>211 | 20=>212 | 10=>214 | 11=>215 | 12=>216 | 13=>217 | 14=>218 | 15=>219 | 16=>220 | 17=>221 | 18=>222 | 30=>264 | 31=>260 | 32=>261 | 33=>265 | 34=>266 | 35=>169 | 40=>282 | n=>n,fun | 23=>22 | 25=>3 | 3=>3 | 32=>233 | 22=>22 | 0=>0 | 44=>266 | 46=>268 | 4=>4 | 36=>259 | 35=>258 | 41=>263 | 5=>5 | 9=>9 | 53=>303 | 57=>198 | 63=>318 | 64=>319 | n=>n,fun | n=>n⟩
theorem Tryz.LP:Go.Proofs.SlLaysM.n5 Tryz.prog Tryz.D1:={
 mixed:=by kernel_rfl
 f5:=⟨Tryz.f99.name,by decide,Tryz.func99.trans (congrArg some (by kernel_rfl))⟩
 f7:=⟨Tryz.f171.name,by decide,Tryz.func171.trans (congrArg some (by kernel_rfl))⟩
 f8:=Tryz.func168.trans (congrArg some (by kernel_rfl))
 f10:=⟨Tryz.f214.name,by decide,Tryz.func214.trans (congrArg some (by kernel_rfl))⟩
 f11:=⟨Tryz.f215.name,by decide,Tryz.func215.trans (congrArg some (by kernel_rfl))⟩
 f12:=⟨Tryz.f216.name,by decide,Tryz.func216.trans (congrArg some (by kernel_rfl))⟩
 f13:=⟨Tryz.f217.name,by decide,Tryz.func217.trans (congrArg some (by kernel_rfl))⟩
 f14:=⟨Tryz.f218.name,by decide,Tryz.func218.trans (congrArg some (by kernel_rfl))⟩
 f15:=⟨Tryz.f219.name,by decide,Tryz.func219.trans (congrArg some (by kernel_rfl))⟩
 f16:=⟨Tryz.f220.name,by decide,Tryz.func220.trans (congrArg some (by kernel_rfl))⟩
 f17:=⟨Tryz.f221.name,by decide,Tryz.func221.trans (congrArg some (by kernel_rfl))⟩
 f18:=⟨Tryz.f222.name,by decide,Tryz.func222.trans (congrArg some (by kernel_rfl))⟩
 f19:=Tryz.func211.trans (congrArg some (by kernel_rfl))
 f20:=Tryz.func212.trans (congrArg some (by kernel_rfl))
 f30:=⟨Tryz.f264.name,by decide,Tryz.func264.trans (congrArg some (by kernel_rfl))⟩
 f31:=Tryz.func260.trans (congrArg some (by kernel_rfl))
 f32:=Tryz.func261.trans (congrArg some (by kernel_rfl))
 f33:=⟨Tryz.f265.name,by decide,Tryz.func265.trans (congrArg some (by kernel_rfl))⟩
 f34:=⟨Tryz.f266.name,by decide,Tryz.func266.trans (congrArg some (by kernel_rfl))⟩
 f35:=⟨Tryz.f169.name,by decide,Tryz.func169.trans (congrArg some (by kernel_rfl))⟩
 f40:=⟨Tryz.f282.name,by decide,Tryz.func282.trans (congrArg some (by kernel_rfl))⟩
 t0:=Tryz.underlying0
 a0:=Tryz.isAgg0
 z0:=Tryz.sizeOf0
 v0:=Tryz.zeroValue0
 t3:=Tryz.underlying3
 a3:=Tryz.isAgg3
 z3:=Tryz.sizeOf3
 v3:=Tryz.zeroValue3
 t4:=Tryz.underlying4
 a4:=Tryz.isAgg4
 z4:=Tryz.sizeOf4
 v4:=Tryz.zeroValue4
 t5:=Tryz.underlying5
 a5:=Tryz.isAgg5
 z5:=Tryz.sizeOf5
 v5:=Tryz.zeroValue5
 t9:=Tryz.underlying9
 a9:=Tryz.isAgg9
 z9:=Tryz.sizeOf9
 v9:=Tryz.zeroValue9
 t22:=Tryz.underlying22
 a22:=Tryz.isAgg22
 z22:=Tryz.sizeOf22
 v22:=Tryz.zeroValue22
 t23:=Tryz.underlying22
 a23:=Tryz.isAgg22
 z23:=Tryz.sizeOf22
 v23:=Tryz.zeroValue22
 t25:=Tryz.underlying3
 a25:=Tryz.isAgg3
 z25:=Tryz.sizeOf3
 v25:=Tryz.zeroValue3
 t32:=Tryz.underlying233
 a32:=Tryz.isAgg233
 z32:=Tryz.sizeOf233
 v32:=Tryz.zeroValue233
 t35:=Tryz.underlying258
 a35:=Tryz.isAgg258
 z35:=Tryz.sizeOf258
 v35:=Tryz.zeroValue258
 t36:=Tryz.underlying259
 a36:=Tryz.isAgg259
 z36:=Tryz.sizeOf259
 v36:=Tryz.zeroValue259
 t41:=Tryz.underlying263
 a41:=Tryz.isAgg263
 z41:=Tryz.sizeOf263
 v41:=Tryz.zeroValue263
 t44:=Tryz.underlying266
 a44:=Tryz.isAgg266
 z44:=Tryz.sizeOf266
 v44:=Tryz.zeroValue266
 t46:=Tryz.underlying268
 a46:=Tryz.isAgg268
 z46:=Tryz.sizeOf268
 v46:=Tryz.zeroValue268
 t53:=Tryz.underlying303
 a53:=Tryz.isAgg303
 z53:=Tryz.sizeOf303
 v53:=Tryz.zeroValue303
 t57:=Tryz.underlying198
 a57:=Tryz.isAgg198
 z57:=Tryz.sizeOf198
 v57:=Tryz.zeroValue198
 t63:=Tryz.underlying318
 a63:=Tryz.isAgg318
 z63:=Tryz.sizeOf318
 v63:=Tryz.zeroValue318
 t64:=Tryz.underlying319
 a64:=Tryz.isAgg319
 z64:=Tryz.sizeOf319
 v64:=Tryz.zeroValue319}
end Go.Proofs
namespace Go.Proofs
open Go.RowKit Go.Maps Go.Sort Go.Shelf List
end Go.Proofs
namespace Go.Proofs.YtdgoeblpcnjlbaaGreatDoor.Av
open Go.RowKit List
mutual
def paS (X:List Pr) (M:Nat->Nat->Bool) (r:ByteArray):St->Bool
 | .mk k r0 t v l e a b p ps=>if 0<=kI X k p then(decide (0<=oc (fun y=>decide (r=y)) ps 0) && M (kI X k p).toNat (oc (fun y=>decide (r=y)) ps 0).toNat)
   else(((dS k r0 t ps).any (fun y=>decide (r=y)) || paL X M r a) || paL X M r b)
def paL (X:List Pr) (M:Nat->Nat->Bool) (r:ByteArray):List St->Bool
 | []=>false
 | s::l=>paS X M r s || paL X M r l
end
def leaf:St->Bool
 | .mk k _ _ _ _ _ a b _ _=>k !=5 || (a.isEmpty && b.isEmpty)
def Uy (f:Nat->Bool) (n:Nat):List Int:=((List.range n).filter f).map (fun(i:Nat)=>(i:Int))
def Kc (M:Nat->Nat->Bool):List Pr->Nat->List (List Int)
 | [],_=> []
 | q::l,i=>Uy (M i) q.au.length::Kc M l (i+1)
theorem GU (M:Nat->Nat->Bool):∀(X:List Pr) (i j:Nat) (q:Pr),X[j]? =some q->(Kc M X i)[j]? =some (Uy (M (i+j)) q.au.length)
 | [],i,j,q,h=>by simp at h
 | x::X,i,0,q,h=>by simp at h;subst h;simp[Kc]
 | x::X,i,j+1,q,h=>by
  have:=GU M X (i+1) j q (by simpa using h);simp only[Kc,List.getElem?_cons_succ,this];congr 3;omega
structure WfY (P:bH) (y:mV):Prop where
 leaf:leaf y.1=true
 au:∀i:Nat,y.2.1=i->∃q,P.procs[i]? =some q/\(match y.1 with | .mk k r t _ _ _ _ _ _ ps=>∀z∈dS k r t ps,z∈q.au)
 call:match y.1 with | .mk k _ _ _ _ _ _ _ p ps=>k=5->0<=procI P.procs p/\ps.Nodup/\∃q,P.procs[(procI P.procs p).toNat]? =some q/\q.au.length=ps.length
theorem uh:∀{l seen:List ByteArray},cO seen l=false->l.Nodup/\∀x∈l,x∉seen
 | [],seen,_=>by simp
 | x::l,seen,h=>by
  simp only[cO,Bool.or_eq_false_iff]at h;obtain⟨h1,h2⟩:=uh h.2;have h0:x∉seen:=fun hx=>by
   have:=List.any_eq_false.1 h.1 x hx;simp at this
  refine⟨List.nodup_cons.2 ⟨fun hx=>h2 x hx (by simp),h1⟩,fun y hy=> ?_⟩;rcases List.mem_cons.1 hy with rfl | hy
  ·exact h0
  ·exact fun hs=>h2 y hy (by simp[hs])
theorem wb:∀{l seen:List ByteArray},pG seen l=0->l.Nodup/\∀x∈l,x∉seen
 | [],seen,_=>by simp
 | x::l,seen,h=>by
  simp only[pG]at h;split at h
  ·cases h
  split at h
  ·cases h
  rename_i hn;obtain⟨h1,h2⟩:=wb h;have h0:x∉seen:=fun hx=>hn (List.any_eq_true.2 ⟨x,hx,by simp⟩)
  refine⟨List.nodup_cons.2 ⟨fun hx=>h2 x hx (by simp),h1⟩,fun y hy=> ?_⟩;rcases List.mem_cons.1 hy with rfl | hy
  ·exact h0
  ·exact fun hs=>h2 y hy (by simp[hs])
theorem ixF_get {α:Type} (p:α->Bool) (xs:List α) (h:0<=oc p xs 0):∃x,xs[(oc p xs 0).toNat]? =some x/\p x=true:=by
 rcases jN p xs 0 (by omega)with⟨hI,_⟩ | ⟨pre,q,post,ao,hI,hF⟩
 ·rw[hI]at h;omega
 ·refine⟨q,?_,?_⟩
  ·rw[hI,ao];simp
  ·exact List.find?_some hF
mutual
theorem Kd:∀(s:St) (d:Int) (pr:Int) (la:Bool),sF s d=0->∀y∈nu s pr la,leaf y.1=true
 | .mk k r t v l e a b p ps,d,pr,la,h=>by
  intro y hy;simp only[sF]at h;split at h
  ·rename_i h1;exact absurd h h1
  rename_i h1;split at h
  ·rename_i h2;exact absurd h h2
  rename_i h2;simp only[nu,List.mem_cons,List.mem_append]at hy;rcases hy with rfl | hy | hy
  ·simp only[ne_eq,Decidable.not_not]at h1;rcases e with⟨ek,en,es,aR⟩
   simp only[kq,rA]at h1;simp only[leaf,Bool.or_eq_true,bne_iff_ne,ne_eq];by_cases h5:k=5
   ·right;subst h5;split at h1;·cases h1
    split at h1;·cases h1
    split at h1;·cases h1
    rename_i hf;simp only[yK]at hf;have wQ:¬(a.length+b.length>0):=fun hc=>hf (by rw[if_pos];decide;right;right;right;right;right;left;exact⟨by decide,hc⟩)
    have ha:a=[]:=List.eq_nil_of_length_eq_zero (by omega);have hb:b=[]:=List.eq_nil_of_length_eq_zero (by omega);simp[ha,hb]
   ·exact .inl h5
  ·exact mC a (d+1) pr la (by simpa using h2) y hy
  ·exact mC b (d+1) pr la h y hy
theorem mC:∀(l:List St) (d:Int) (pr:Int) (la:Bool),gA l d=0->∀y∈gC l pr la,leaf y.1=true
 | [],d,pr,la,h=>by intro y hy;simp[gC]at hy
 | s::l,d,pr,la,h=>by
  intro y hy;simp only[gA]at h;split at h
  ·rename_i h1;exact absurd h h1
  rename_i h1;simp only[gC,List.mem_append]at hy;rcases hy with hy | hy
  ·exact Kd s d pr _ (by simpa using h1) y hy
  ·exact mC l d pr la h y hy
end
theorem ui:∀{post pre:List Pr},rC pre post=0->∀q∈post,∃pre',pF pre' q=0
 | [],pre,_,q,h=>by simp at h
 | x::post,pre,h,q,hq=>by
  simp only[rC]at h;split at h
  ·rename_i h1;exact absurd h h1
  rename_i h1;rcases List.mem_cons.1 hq with rfl | hq
  ·exact⟨pre,by simpa using h1⟩
  ·exact ui h q hq
theorem mD {P:bH} (h:np P=0):rC [] P.procs=0/\gA P.main 1=0/\P.procs.length<=50:=by
 rw[np]at h;split at h;·cases h
 rename_i h0;split at h
 ·rename_i h1;exact absurd h h1
 rename_i h1;split at h
 ·rename_i h2;exact absurd h h2
 rename_i h2;exact⟨by simpa using h1,by simpa using h2,by omega⟩
theorem GV {pre:List Pr} {q:Pr} (h:pF pre q=0):q.au.Nodup/\gA q.steps 1=0/\0<q.au.length/\q.au.length<=12:=by
 rw[pF]at h;split at h;·cases h
 split at h;·cases h
 split at h;·cases h
 rename_i h3;split at h;·cases h
 rename_i h4;split at h
 ·rename_i h5;exact absurd h h5
 rename_i h5;exact⟨(wb (by simpa using h5)).1,h,by omega,by omega⟩
theorem y8 {P:bH} (h:lK P=0):np P=0:=by
 rw[lK]at h;split at h
 ·rename_i h1;exact absurd h h1
 ·rename_i h1;simpa using h1
theorem sJ {P:bH} (h:lK P=0):∀q∈P.procs,q.au.Nodup/\gA q.steps 1=0/\0<q.au.length/\q.au.length<=12:=by
 intro q hq;obtain⟨pre,h1⟩:=ui (mD (y8 h)).1 q hq;exact GV h1
theorem GW {l:List Pr}:∀{i:Nat},(∀q∈l,gA q.steps 1=0)->∀y∈spP l i,leaf y.1=true:=by
 induction l with
 | nil=>intro i _ y h;simp[spP]at h
 | cons q l ih=>
  intro i h y hy;simp only[spP,List.mem_append]at hy;rcases hy with hy | hy
  ·exact mC _ 1 _ _ (h q (by simp)) y hy
  ·exact ih (fun x hx=>h x (by simp[hx])) y hy
theorem oF5 {P:bH} {rs:Option (List ByteArray)} {r t p:ByteArray} {ps:List ByteArray} (h:oF P rs 5 r t p ps=0):∃q,P.procs.find? (fun z=>decide (z.name=p))=some q/\q.au.length=ps.length/\cO [] ps=false:=by
 unfold oF at h
 cases hf:P.procs.find? (fun z=>decide (z.name=p))with
 | none=>
  rw[hf]at h;cases rs with
  | none=>simp at h
  | some rs=>
   by_cases hc:((dS 5 r t ps).any fun z=> !rs.any fun y=>decide (z=y))=true
   ·simp only[hc,if_true]at h;cases h
   ·simp only[hc,if_false,ne_eq,not_true_eq_false]at h;cases h
 | some q=>
  rw[hf]at h;refine⟨q,rfl,?_⟩;have h2:(if q.au.length≠ps.length then(3:Int)else if cO [] ps=true then 6 else 0)=0:=by
   cases rs with
   | none=>simpa using h
   | some rs=>
    by_cases hc:((dS 5 r t ps).any fun z=> !rs.any fun y=>decide (z=y))=true
    ·simp only[hc,if_true]at h;cases h
    ·simp only[hc,if_false,ne_eq,not_true_eq_false]at h;exact h
  by_cases hlen:q.au.length=ps.length
  ·by_cases hd:cO [] ps=true
   ·simp[hlen,hd]at h2
   ·exact⟨hlen,by simpa using hd⟩
  ·simp[hlen]at h2
theorem Xm {P:bH} (h:lK P=0):∀y∈cw P,WfY P y:=by
 intro y hy;have hF:=y5 h y hy;have dx:=tL P y hy;have hlf:leaf y.1=true:=by
  have hc:=mD (y8 h);simp only[cw,List.mem_append]at hy;rcases hy with hy | hy
  ·exact mC _ 1 _ _ hc.2.1 y hy
  ·exact GW (fun q hq=>(sJ h q hq).2.1) y hy
 obtain⟨⟨k,r,t,v,l,e,a,b,p,ps⟩,pr,la⟩:=y;simp only[vf,oF]at hF;refine⟨hlf,fun i hi=> ?_,fun h5=> ?_⟩
 ·have hi:pr=(i:Int):=hi;subst hi;rcases dx with dx | ⟨pa,qa,pb,h1,h2⟩
  ·simp only at dx;omega
  ·simp only at h2;have LQ:i=pa.length:=by omega
   have hq:P.procs[i]? =some qa:=by rw[LQ,h1];simp
   refine⟨qa,hq,?_⟩;have hrs:gN P (i:Int)=some qa.au:=by
    simp only[gN,show¬((i:Int)<0) by omega,if_false,Int.toNat_natCast,hq,Option.map_some]
   rw[hrs]at hF;simp only at hF;split at hF
   ·cases hF
   ·rename_i hn;intro z hz;refine Classical.byContradiction fun hc=>hn (List.any_eq_true.2 ⟨z,hz,?_⟩)
    simp only[Bool.not_eq_true'];rw[List.any_eq_false];intro x hx;simp only[decide_eq_true_eq];rintro rfl;exact hc hx
 ·have h5:k=5:=h5;subst h5;obtain⟨q,hf,hlen,hd⟩:=oF5 (show oF P (gN P pr) 5 r t p ps=0 from hF);rcases jN (fun z:Pr=>decide (z.name=p)) P.procs 0 (by omega)with⟨hI,JK⟩ | ⟨pre,q',post,ao,hI,JK⟩
  ·rw[hf]at JK;cases JK
  ·rw[hf]at JK;cases JK;have hpI:procI P.procs p=(pre.length:Int):=by rw[procI,hI];omega
   exact⟨by omega,(uh hd).1,q,by rw[hpI,ao];simp,hlen⟩
theorem xl:∀{l:List Pr} {i j:Nat} {q:Pr},l[j]? =some q->∀y∈gC q.steps ((i+j:Nat):Int) true,y∈spP l i
 | [],i,j,q,h,y,hy=>by simp at h
 | x::l,i,0,q,h,y,hy=>by simp at h;subst h;simp only[spP,List.mem_append];exact .inl (by simpa using hy)
 | x::l,i,j+1,q,h,y,hy=>by
  simp only[spP,List.mem_append];exact .inr (xl (i:=i+1) (j:=j) (by simpa using h) y (by rw[show i+1+j=i+(j+1) by omega];exact hy))
theorem xm:∀{l:List Pr} {i:Nat} {y:mV},y∈spP l i->∃j q,l[j]? =some q/\y∈gC q.steps ((i+j:Nat):Int) true
 | [],i,y,h=>by simp[spP]at h
 | x::l,i,y,h=>by
  simp only[spP,List.mem_append]at h;rcases h with h | h
  ·exact⟨0,x,by simp,by simpa using h⟩
  ·obtain⟨j,q,h1,h2⟩:=xm h;exact⟨j+1,q,by simpa using h1,by rw[show i+(j+1)=i+1+j by omega];exact h2⟩
theorem GX {P:bH} {y:mV} (hy:y∈cw P) {i:Nat} (hi:y.2.1=i) {q:Pr} (hq:P.procs[i]? =some q):y∈gC q.steps (i:Int) true:=by
 simp only[cw,List.mem_append]at hy;rcases hy with hy | hy
 ·have:=fp _ _ _ y hy;omega
 ·obtain⟨j,q',h1,h2⟩:=xm hy;have:=fp _ _ _ y h2;have rm:i=j:=by omega
  subst rm;rw[hq]at h1;cases h1;simpa using h2
end Go.Proofs.YtdgoeblpcnjlbaaGreatDoor.Av
namespace Go.Proofs
open Go.RowKit Go.Maps Go.Sort Go.Shelf List
end Go.Proofs
namespace Go.Proofs.YtdgoeblpcnjlbaaGreatDoor.Av
open Go.RowKit Go.Maps List
def encB (l:List Bool):V:=.fs (l.map .bool)
def MK (K:List (List Bool)) (i k:Nat):Bool:=(K.getD i []).getD k false
theorem norefL_encB (K:List (List Bool)):ae (K.map encB)=true:=bS (fun x=>by simp[encB,al]) K
def KS (X:List Pr) (K:List (List Bool)):Prop:=K.length=X.length/\∀(i:Nat) q,X[i]? =some q->(K.getD i []).length=q.au.length
mutual
def okS2 (X:List Pr):St->Bool
 | .mk k _ _ _ _ _ a b p ps=>(k !=5 || (decide (0<=procI X p) && decide ((X[(procI X p).toNat]?).map (·.au.length)=some ps.length))) && (okL2 X a && okL2 X b)
def okL2 (X:List Pr):List St->Bool
 | []=>true
 | s::l=>okS2 X s && okL2 X l
end
theorem okL2umem {X:List Pr}:∀{l:List St},okL2 X l=true->∀s∈l,okS2 X s=true
 | [],_,s,h=>by simp at h
 | x::l,h,s,hs=>by
  simp only[okL2,Bool.and_eq_true]at h;rcases List.mem_cons.1 hs with rfl | hs
  ·exact h.1
  ·exact okL2umem h.2 s hs
def kok2 (X:List Pr):St->Bool
 | .mk k _ _ _ _ _ _ _ p ps=>k !=5 || (decide (0<=procI X p) && decide ((X[(procI X p).toNat]?).map (·.au.length)=some ps.length))
mutual
theorem okS2uof {X:List Pr}:∀(s:St) (pr:Int) (la:Bool),(∀y∈nu s pr la,kok2 X y.1=true)->okS2 X s=true
 | .mk k r t v l e a b p ps,pr,la,h=>by
  simp only[nu,List.mem_cons,List.mem_append]at h;have h0:=h _ (.inl rfl);simp only[kok2]at h0;simp only[okS2,h0,okL2uof a pr la (fun y hy=>h y (.inr (.inl hy))),okL2uof b pr la (fun y hy=>h y (.inr (.inr hy))),Bool.and_self]
theorem okL2uof {X:List Pr}:∀(l:List St) (pr:Int) (la:Bool),(∀y∈gC l pr la,kok2 X y.1=true)->okL2 X l=true
 | [],pr,la,h=>rfl
 | s::l,pr,la,h=>by
  simp only[gC,List.mem_append]at h;simp only[okL2,okS2uof s pr _ (fun y hy=>h y (.inl hy)),okL2uof l pr la (fun y hy=>h y (.inr hy)),Bool.and_self]
end
theorem okP2uof {P:bH} (h:lK P=0):okL2 P.procs P.main=true/\∀q∈P.procs,okL2 P.procs q.steps=true:=by
 have hs:∀y∈cw P,kok2 P.procs y.1=true:=fun y hy=>by
  have hw:=(Xm h y hy).call;obtain⟨⟨k,r,t,v,l,e,a,b,p,ps⟩,pr,la⟩:=y;simp only at hw;simp only[kok2,Bool.or_eq_true,bne_iff_ne,ne_eq,Bool.and_eq_true,decide_eq_true_eq];by_cases h5:k=5
  ·obtain⟨h1,_,q,h2,h3⟩:=hw h5;exact .inr ⟨h1,by rw[h2];simp[h3]⟩
  ·exact .inl h5
 refine⟨okL2uof _ (-1) true (fun y hy=>hs y (by simp only[cw,List.mem_append];exact .inl hy)),fun q hq=> ?_⟩;obtain⟨j,hj⟩:=List.getElem?_of_mem hq;exact okL2uof _ (j:Int) true (fun y hy=>hs y (by simp only[cw,List.mem_append];exact .inr (xl (i:=0) (j:=j) hj y (by simpa using hy))))
def ksE (js:List Nat) (K:List (List Bool)):List V:=List.zipWith (fun j (l:List Bool)=>V.ms j 0 l.length) js K
theorem ksE_len {js:List Nat} {K:List (List Bool)} (h:js.length=K.length):(ksE js K).length=K.length:=by simp[ksE,h]
theorem ksE_get {js:List Nat} {K:List (List Bool)} {i j:Nat} {l:List Bool} (h1:js[i]? =some j) (h2:K[i]? =some l):(ksE js K)[i]? =some (.ms j 0 l.length):=by
 simp[ksE,List.getElem?_zipWith,h1,h2]
theorem ksE_set {js:List Nat} {K:List (List Bool)} {i:Nat} {l l':List Bool} (h:K[i]? =some l) (hl:l'.length=l.length):ksE js (K.set i l')=ksE js K:=by
 apply List.ext_getElem?
 intro m;simp only[ksE,List.getElem?_zipWith,List.getElem?_set];by_cases hm:i=m
 ·subst hm;have:=(List.getElem?_eq_some_iff.1 h).1;simp only[if_true,this,h];cases js[i]? <;>simp[hl]
 ·simp[hm]
theorem fz_ksE {H:List ak} (n:Nat):∀{js:List Nat} {K:List (List Bool)},js.length=K.length->(∀(i:Nat) j l,js[i]? =some j->K[i]? =some l->H[j]? =some (.row (l.map .bool)))->eI (fz H (n+2)) (ksE js K)=some (K.map encB)
 | [],[],_,_=>by simp[ksE,eI]
 | j::js,l::K,h,hr=>by
  have ih:=fz_ksE n (js:=js) (K:=K) (by simpa using h) (fun i j' l' h1 h2=>hr (i+1) j' l' (by simpa using h1) (by simpa using h2));simp only[ksE]at ih;simp only[ksE,List.zipWith_cons_cons,b7,ih,List.map_cons];rw[iu,hr 0 j l rfl rfl,ef,if_pos (by simp),List.drop_zero,List.take_of_length_le (by simp),p4];simp[dR,encB]
 | [],l::K,h,_=>by simp at h
 | j::js,[],h,_=>by simp at h
def encI (l:List Int):V:=.fs (l.map (.int .i64))
def flsK (K:List (List Bool)):Nat:=(K.map jC).sum
theorem flsK_set:∀{K:List (List Bool)} {i k:Nat} {l:List Bool},K[i]? =some l->l[k]? =some false->flsK (K.set i (l.set k true))+1=flsK K
 | [],i,k,l,h,_=>by simp at h
 | x::K,0,k,l,h,hk=>by
  simp at h;subst h;have:=jS hk;simp only[flsK,List.set_cons_zero,List.map_cons,List.sum_cons];omega
 | x::K,i+1,k,l,h,hk=>by
  have:=flsK_set (K:=K) (i:=i) (by simpa using h) hk;simp only[flsK,List.set_cons_succ,List.map_cons,List.sum_cons]at this⊢;omega
def K0 (X:List Pr):List (List Bool):=X.map fun q=>List.replicate q.au.length false
theorem K0uS (X:List Pr):KS X (K0 X):=⟨by simp[K0],fun i q h=>by simp[K0,List.getD,List.getElem?_map,h]⟩
theorem K0uM (X:List Pr):MK (K0 X)=fun _ _=>false:=by
 funext i k
 simp only[MK,K0,List.getD,List.getElem?_map];cases X[i]? with
 | none=>simp
 | some q=>simp[List.getElem?_replicate];split<;>rfl
theorem KS.set {X:List Pr} {K:List (List Bool)} (h:KS X K) {i k:Nat} {l:List Bool} (hl:K[i]? =some l):KS X (K.set i (l.set k true)):=by
 refine⟨by rw[List.length_set];exact h.1,fun j q hq=> ?_⟩;have:=h.2 j q hq;rw[List.getD_eq_getElem?_getD]at this⊢;rw[List.getElem?_set];by_cases rm:i=j
 ·subst rm;have dF:=(List.getElem?_eq_some_iff.1 hl).1;rw[hl]at this;simp[dF]at this⊢;exact this
 ·rw[if_neg rm];exact this
theorem MK_set {K:List (List Bool)} {i k:Nat} {l:List Bool} (hl:K[i]? =some l) (hk:k<l.length) (a b:Nat):MK (K.set i (l.set k true)) a b=if a=i/\b=k then true else MK K a b:=by
 have dF:=(List.getElem?_eq_some_iff.1 hl).1;simp only[MK,List.getD_eq_getElem?_getD,List.getElem?_set];by_cases ha:i=a
 ·subst ha;simp only[dF,if_true,Option.getD_some,List.getElem?_set,hl];by_cases hb:k=b
  ·subst hb;simp[hk]
  ·rw[if_neg hb,if_neg (fun h=>hb h.2.symm)]
 ·rw[if_neg ha,if_neg (fun h=>ha h.1.symm)]
theorem headOk_ksE (js:List Nat) (K:List (List Bool)):df 1 (ksE js K):=by
 intro e he;cases js with
 | nil=>simp[ksE]at he
 | cons j js=>cases K with
  | nil=>simp[ksE]at he
  | cons l K=>simp[ksE]at he;subst he;rfl
structure KE {α:Type} [DecidableEq α] (sh:Bool×List Bool) (enc:α->V):Prop where
 fit:∀x,o8 sh (enc x)=true
 eq:∀x y,gE (enc x) (enc y)=some (decide (x=y))
def addG {α:Type} [DecidableEq α] (l:List α) (x:α):List α:=if x∈l then l else l++ [x]
def trG {α:Type} (l:List α):List V:=l.map fun _=> .bool true
theorem mem_addG {α:Type} [DecidableEq α] {l:List α} {x y:α}:y∈addG l x↔y∈l\/y=x:=by
 unfold addG
 split
 ·rename_i h;constructor
  ·exact .inl
  ·rintro(h' | rfl)
   ·exact h'
   ·exact h
 ·simp
section
variable {α:Type} [DecidableEq α] {sh:Bool×List Bool} {enc:α->V}
theorem KE.ya (h:KE sh enc) (l:List α) (x:α):ya sh (l.map enc) (enc x)=true:=by
 simp[Av.ya,h.fit,h.eq]
theorem KE.gG (h:KE sh enc) (x:α):∀l:List α,gG (l.map enc) (trG l) (enc x)=if x∈l then some (.bool true)else none
 | []=>by simp[Av.gG,trG]
 | y::l=>by
  have ih:=KE.gG h x l;simp only[trG]at ih;simp only[List.map_cons,trG,Av.gG,ih,h.eq,Option.some.injEq,decide_eq_true_eq,List.mem_cons];by_cases hx:x=y<;>simp[hx]
theorem KE.fT (h:KE sh enc) (x:α) (l:List α):fT false (.bool false) (Av.gG (l.map enc) (trG l) (enc x))=.bool (decide (x∈l)):=by
 rw[h.gG,Av.fT];by_cases hx:x∈l<;>simp[hx]
theorem KE.any (h:KE sh enc) (x:α):∀l:List α,(l.map enc).any (fun q=>gE (enc x) q==some true)=decide (x∈l)
 | []=>rfl
 | y::l=>by
  rw[List.map_cons,List.any_cons,KE.any h x l,h.eq];by_cases hx:x=y<;>simp[hx]
theorem KE.ja (h:KE sh enc) (x:α) (l:List α):ja (l.map enc) (enc x)=(addG l x).map enc:=by
 rw[Av.ja,h.any,addG];by_cases hx:x∈l<;>simp[hx]
theorem KE.im (h:KE sh enc) (x:α):∀l:List α,im (l.map enc) (trG l) (enc x) (.bool true)=trG (addG l x)
 | []=>by simp[Av.im,trG,addG]
 | y::l=>by
  have ih:=KE.im h x l;simp only[trG,List.map_cons,Av.im,h.eq,Option.some.injEq,decide_eq_true_eq]at ih⊢;by_cases hx:x=y
  ·simp[hx,addG]
  ·rw[if_neg hx,ih];simp only[addG,List.mem_cons,hx,false_or];split<;>simp
end
theorem norefL_trG {α:Type} (l:List α):ae (trG l)=true:=bS (fun x=>by simp[al]) l
theorem fz_trG {α:Type} (H:List ak) (n:Nat) (l:List α):eI (fz H (n+1)) (trG l)=some (trG l):=dg _ _ (fun x=>pB _ _ true) l
attribute [push_cast] norefL_trG fz_trG
attribute [simp] norefL_trG
def enc2 (x:Int×Int):V:=.agg [.int .i64 x.1,.int .i64 x.2]
theorem ke2:KE (true,[false,false]) enc2 where
 fit x:=by simp[enc2,o8,o7,iN]
 eq x y:=by
  obtain⟨a,b⟩:=x;obtain⟨c,d⟩:=y;simp only[enc2,gE,sU,fF,if_true,Option.some.injEq,Prod.mk.injEq];by_cases h:a=c<;>by_cases h':b=d<;>simp[h,h']
theorem kOk2 (l:List (Int×Int)) (a b:Int):ya (true,[false,false]) (l.map enc2) (.agg [.int .i64 a,.int .i64 b])=true:=ke2.ya l (a,b)
theorem mres2 (l:List (Int×Int)) (a b:Int):fT false (.bool false) (gG (l.map enc2) (trG l) (.agg [.int .i64 a,.int .i64 b]))=.bool (decide ((a,b)∈l)):=(ke2.fT (a,b) l).trans (by congr)
theorem mputK2 (l:List (Int×Int)) (a b:Int):ja (l.map enc2) (.agg [.int .i64 a,.int .i64 b])=(addG l (a,b)).map enc2:=ke2.ja (a,b) l
theorem mputV2 (l:List (Int×Int)) (a b:Int):im (l.map enc2) (trG l) (.agg [.int .i64 a,.int .i64 b]) (.bool true)=trG (addG l (a,b)):=ke2.im (a,b) l
theorem norefL_enc2 (l:List (Int×Int)):ae (l.map enc2)=true:=bS (fun x=>by simp[al,ae,enc2]) l
theorem fz_enc2 (H:List ak) (n:Nat) (l:List (Int×Int)):eI (fz H (n+2)) (l.map enc2)=some (l.map enc2):=dg _ _ (fun x=>by simp[enc2,ma,b7,cN,jZ,dR]) l
attribute [push_cast] norefL_enc2 fz_enc2
attribute [simp] norefL_enc2
structure S2 (n:Nat) (S:List (Int×Int)):Prop where
 nd:S.Nodup
 lo:∀x∈S,0<=x.1/\0<=x.2
 hi:∀x∈S,x.1<n/\x.2<12
theorem OV.freeze {H:List ak} {v:V} {l:List Int} (h:OV H v (l.map (.int .i64))):∃D,Av.fz (cQ D H) 20 v=some (.fs (l.map (.int .i64)))/\∀i,a7 v i->(bO D H)[i]? =H[i]? :=by
 rcases h with⟨h1,rfl⟩ | ⟨_,id,rfl,h2⟩
 ·refine⟨[],by rw[fQ,h1],fun i _=>rfl⟩
 ·refine⟨[id],?_,fun i hi=> ?_⟩
  ·have hk:(cQ [id] H)[id]? =some (.row (l.map (.int .i64))):=by rw[cg,h2];simp
   rw[iu,hk,ef,if_pos (by simp),List.drop_zero,List.take_of_length_le (by simp),fA];rfl
  ·rw[de,if_neg];rintro⟨hc,_⟩;have:i=id:=by simpa using hc
   exact hi 0 (l.map (V.int .i64)).length (by rw[this])
theorem Ke (H:List ak) (n:Nat) (l:List Int):Av.fz H (n+1) (encI l)=some (encI l):=by rw[encI,jL,if_pos (aS l)]
theorem zb (R:List (List Int)):df 1 (R.map encI):=cA _ _ (fun x=>by simp[encI,aw]) R
end Go.Proofs.YtdgoeblpcnjlbaaGreatDoor.Av
namespace Go.Proofs.YtdgoeblpcnjlbaaGreatDoor.Av
open Go.RowKit List
def UQ:aB:=(.seq (.region [aQ 2 (.ag),aQ 3 (.ag)]) (.seq (.region [ab 10 0,bw 11 139 [.tmp 10],ab 4 11]) (.seq (.region [ab 12 4,cJ 13 12,⟨some 14,.Eu (.int .i64 0) (sT 13),none⟩,ab 3 14]) (.seq (.seq (.region [ab 15 3,cJ 16 15,aQ 17 (.int .i64 0)]) (.block 0 (.loop (.seq (.region [cL 18 .lss 17 16]) (.seq (.cond (sT 18) .skip (.exit 0)) (.seq (.block 1 (.seq (.region [ab 19 17,ab 5 19]) (.region [ab 20 3,ab 21 5,cM 22 1 20 21,⟨none,.store 1 (sT 22) (.val (.int .i64 (-1))),none⟩]))) (.region [bC 23 .add 17 (.int .i64 1),ab 17 23]))))))) (.seq (.seq (.region [ab 24 4,cJ 25 24,aQ 26 (.int .i64 0)]) (.block 2 (.loop (.seq (.region [cL 27 .lss 26 25]) (.seq (.cond (sT 27) .skip (.exit 2)) (.seq (.block 3 (.seq (.region [ab 28 26,cM 29 1 24 26,aH 30 29,ab 6 28,ab 7 30]) (.seq (.seq (.region [ab 31 3,ab 32 6,cM 33 1 31 32,aH 34 33,bC 35 .geq 34 (.int .i64 0),ab 36 35,fD 37 7 36 false,fD 38 6 36 false,⟨some 39,.eu (false,[false]) false (.bool false) (sT 37) (sT 38),(some (36,false))⟩,⟨some 40,.un .not (sT 39),(some (36,false))⟩,⟨some 41,.pick (sT 36) (.val (.bool true)) (sT 40),none⟩]) (.cond (sT 41) (.exit 3) .skip)) (.seq (.region [aQ 8 (.ag)]) (.seq (.seq (.region [ab 42 6,ab 9 42]) (.block 4 (.loop (.seq (.seq (.region [ab 43 9,ab 44 4,cJ 45 44,cL 46 .lss 43 45]) (.cond (sT 46) .skip (.exit 4))) (.seq (.block 5 (.seq (.region [ab 49 7,ab 50 9,⟨some 51,.eu (false,[false]) false (.bool false) (sT 49) (sT 50),none⟩,ab 52 51,fD 53 4 52 true,fD 54 9 52 true,⟨some 55,.gk 1 (sT 53) (sT 54),(some (52,true))⟩,dy 56 55 52 true,fD 57 6 52 true,⟨some 58,.eu (false,[false]) false (.bool false) (sT 56) (sT 57),(some (52,true))⟩,⟨some 59,.pick (sT 52) (sT 58) (.val (.bool false)),none⟩]) (.cond (sT 59) (.seq (.region [ab 60 3,ab 61 9,ab 62 2,cJ 63 62,cM 64 1 60 61,⟨none,.store 1 (sT 64) (sT 63),none⟩]) (.region [ab 65 8,ab 66 9,⟨some 67,.aJ 1 [.tmp 66],none⟩,⟨some 68,.append 1 8 (sT 65) (sT 67),none⟩,ab 8 68])) .skip))) (.region [ab 47 9,bC 48 .add 47 (.int .i64 1),ab 9 48])))))) (.region [ab 69 2,ab 70 8,⟨some 70,.nS 70,none⟩,⟨some 71,.aJ 1 [.tmp 70],none⟩,⟨some 72,.append 1 24 (sT 69) (sT 71),none⟩,ab 2 72])))))) (.region [bC 73 .add 26 (.int .i64 1),ab 26 73]))))))) (.seq (.region [ab 74 2,ab 75 3,ab 2 74,ab 3 75])
 .ret))))))
def UR:List a8:=[.tmp 2,.tmp 3]
theorem c241:aG Tryz.prog 66 UQ UR 76:=codeOk Tryz.func66 rfl rfl
def UX:aB:=(.seq (.region [⟨some 1,.box (sT 0),none⟩,aQ 2 (.ag)]) (.seq (.region [⟨some 3,.alloc (.ag),none⟩]) (.seq (.region [aN 4 1 1,aH 5 4,⟨some 6,.fC 150 [] [.tmp 3],none⟩,bw 7 149 [.tmp 5,.val (.int .i64 0),.tmp 6]]) (.seq (.region [aH 8 3,bw 9 101 [.tmp 8]]) (.seq (.region [aH 10 3,bw 11 102 [.tmp 10],⟨none,.store 1 (sT 3) (sT 11),none⟩]) (.seq (.seq (.region [aH 12 3,cJ 13 12,bC 14 .gtr 13 (.int .i64 0),ab 15 14,dy 16 3 15 true,⟨some 17,.gk 1 (sT 16) (.val (.int .i64 0)),(some (15,true))⟩,dy 18 17 15 true,⟨some 19,.bin .eql (sT 18) (.val (.str ⟨#[]⟩)),(some (15,true))⟩,⟨some 20,.pick (sT 15) (sT 19) (.val (.bool false)),none⟩]) (.cond (sT 20) (.region [aH 21 3,⟨some 22,.slice 1 (sT 21) (some (.val (.int .i64 1))) none,none⟩,⟨none,.store 1 (sT 3) (sT 22),none⟩]) .skip)) (.seq (.region [aH 23 3,bw 24 151 [.tmp 23],ab 2 24])
 .ret)))))))
def G1:List a8:=[.tmp 2]
theorem c245:aG Tryz.prog 73 UX G1 25:=codeOk Tryz.func73 rfl rfl
def U1:aB:=(.seq (.region [⟨some 1,.box (sT 0),none⟩,aQ 2 (.ag)]) (.seq (.region [aN 10 0 1,aH 11 10,cJ 12 11,⟨some 13,.Eu (.cG) (sT 12),none⟩,ab 3 13]) (.seq (.seq (.region [ab 14 3,cJ 15 14,aQ 16 (.int .i64 0)]) (.block 0 (.loop (.seq (.region [cL 17 .lss 16 15]) (.seq (.cond (sT 17) .skip (.exit 0)) (.seq (.block 1 (.seq (.region [ab 18 16,ab 4 18]) (.region [ab 19 3,ab 20 4,⟨some 21,.gm,none⟩,cM 22 1 19 20,⟨none,.store 1 (sT 22) (sT 21),none⟩]))) (.region [bC 23 .add 16 (.int .i64 1),ab 16 23]))))))) (.seq (.seq (.region [bU 24 2 1,bw 25 47 [.tmp 24],cJ 26 25,aQ 27 (.int .i64 0)]) (.block 2 (.loop (.seq (.region [cL 28 .lss 27 26]) (.seq (.cond (sT 28) .skip (.exit 2)) (.seq (.block 3 (.seq (.region [cM 29 15 25 27,bU 30 15 29,⟨some 6,.alloc (.agg [.int .i64 0,.str ⟨#[]⟩,.str ⟨#[]⟩,.str ⟨#[]⟩,.str ⟨#[]⟩,.int .i64 0,.int .i64 0,.str ⟨#[]⟩,.ag,.ag,.ag,.str ⟨#[]⟩,.ag,.int .i64 0,.bool false]),none⟩,⟨none,.store 15 (sT 6) (sT 30),none⟩]) (.seq (.region [aN 31 13 6,aH 32 31,bC 33 .geq 32 (.int .i64 0),ab 34 33,dP 35 0 6 34 true,dP 36 0 35 34 true,dy 37 36 34 true,⟨some 38,.bin .eql (sT 37) (.val (.int .i64 5)),(some (34,true))⟩,⟨some 39,.pick (sT 34) (sT 38) (.val (.bool false)),none⟩]) (.cond (sT 39) (.qregion [⟨ab 40 3,false,0,0,0⟩,⟨aN 41 13 6,false,0,0,0⟩,⟨aH 42 41,false,0,0,2⟩,⟨cM 43 1 40 42,false,0,0,7⟩,⟨aH 44 43,false,0,0,15⟩,⟨bU 45 2 1,false,0,0,0⟩,⟨aN 46 0 6,false,0,0,0⟩,⟨aN 47 11 46,false,0,0,64⟩,⟨aH 48 47,false,0,0,192⟩,⟨bw 49 52 [.tmp 45,.tmp 48],false,0,0,480⟩,⟨⟨none,.kG (false,[false]) (sT 44) (sT 49) (.val (.bool true)),none⟩,true,0,0,1023⟩]) .skip)))) (.region [bC 50 .add 27 (.int .i64 1),ab 27 50]))))))) (.seq (.seq (.region [ab 51 3,cJ 52 51,aQ 53 (.int .i64 0)]) (.block 4 (.loop (.seq (.region [cL 54 .lss 53 52]) (.seq (.cond (sT 54) .skip (.exit 4)) (.seq (.block 5 (.seq (.region [ab 55 53,ab 7 55]) (.seq (.region [ab 56 3,cJ 57 56,aQ 58 (.int .i64 0)]) (.block 6 (.loop (.seq (.region [cL 59 .lss 58 57]) (.seq (.cond (sT 59) .skip (.exit 6)) (.seq (.block 7 (.seq (.region [ab 60 58,ab 8 60]) (.seq (.region [ab 61 3,cJ 62 61,aQ 63 (.int .i64 0)]) (.block 8 (.loop (.seq (.region [cL 64 .lss 63 62]) (.seq (.cond (sT 64) .skip (.exit 8)) (.seq (.block 9 (.seq (.region [ab 65 63,ab 9 65]) (.seq (.region [ab 66 3,ab 67 8,cM 68 1 66 67,aH 69 68,ab 70 7,⟨some 71,.eu (false,[false]) false (.bool false) (sT 69) (sT 70),none⟩,ab 72 71,fD 73 3 72 true,fD 74 7 72 true,⟨some 75,.gk 1 (sT 73) (sT 74),(some (72,true))⟩,dy 76 75 72 true,fD 77 9 72 true,⟨some 78,.eu (false,[false]) false (.bool false) (sT 76) (sT 77),(some (72,true))⟩,⟨some 79,.pick (sT 72) (sT 78) (.val (.bool false)),none⟩]) (.cond (sT 79) (.region [ab 80 3,ab 81 8,cM 82 1 80 81,aH 83 82,ab 84 9,⟨none,.kG (false,[false]) (sT 83) (sT 84) (.val (.bool true)),none⟩]) .skip)))) (.region [bC 85 .add 63 (.int .i64 1),ab 63 85]))))))))) (.region [bC 86 .add 58 (.int .i64 1),ab 58 86]))))))))) (.region [bC 87 .add 53 (.int .i64 1),ab 53 87]))))))) (.seq (.region [ab 88 3,ab 2 88])
 .ret))))))
def Kj:List a8:=[.tmp 2]
theorem c250:aG Tryz.prog 78 U1 Kj 89:=codeOk Tryz.func78 rfl rfl
def U3:aB:=(.seq (.region [aQ 2 (.int .i64 0)]) (.seq (.region [aQ 3 (.int .i64 0)]) (.seq (.seq (.region [ab 6 0,cJ 7 6,aQ 8 (.int .i64 0)]) (.block 0 (.loop (.seq (.region [cL 9 .lss 8 7]) (.seq (.cond (sT 9) .skip (.exit 0)) (.seq (.block 1 (.seq (.region [cM 10 13 6 8,bU 11 13 10,⟨some 5,.alloc (.agg [.int .i64 0,.str ⟨#[]⟩,.str ⟨#[]⟩,.str ⟨#[]⟩,.str ⟨#[]⟩,.int .i64 0,.int .i64 0,.str ⟨#[]⟩,.ag,.ag,.ag,.str ⟨#[]⟩,.ag]),none⟩,⟨none,.store 13 (sT 5) (sT 11),none⟩]) (.qregion [⟨ab 12 3,false,0,0,0⟩,⟨aN 13 9 5,false,0,0,0⟩,⟨aH 14 13,false,0,0,2⟩,⟨bw 15 80 [.tmp 14],false,0,0,6⟩,⟨⟨some 16,.bin .add (.val (.int .i64 1)) (sT 15),none⟩,false,0,0,14⟩,⟨aN 17 10 5,false,0,0,0⟩,⟨aH 18 17,false,0,0,32⟩,⟨bw 19 80 [.tmp 18],false,0,0,110⟩,⟨cL 20 .add 16 19,false,0,0,254⟩,⟨cL 21 .add 12 20,false,0,0,511⟩,⟨ab 3 21,false,0,0,1023⟩]))) (.region [bC 22 .add 8 (.int .i64 1),ab 8 22]))))))) (.seq (.region [ab 23 3,ab 2 23])
 .ret))))
def Pf:List a8:=[.tmp 2]
theorem c252:aG Tryz.prog 80 U3 Pf 24:=codeOk Tryz.func80 rfl rfl
def U4:aB:=(.seq (.region [⟨some 1,.box (sT 0),none⟩,aQ 2 (.ag)]) (.seq (.region [aQ 3 (.ag)]) (.seq (.seq (.region [bU 6 2 1,bw 7 47 [.tmp 6],cJ 8 7,aQ 9 (.int .i64 0)]) (.block 0 (.loop (.seq (.region [cL 10 .lss 9 8]) (.seq (.cond (sT 10) .skip (.exit 0)) (.seq (.block 1 (.seq (.region [cM 11 15 7 9,bU 12 15 11,⟨some 5,.alloc (.agg [.int .i64 0,.str ⟨#[]⟩,.str ⟨#[]⟩,.str ⟨#[]⟩,.str ⟨#[]⟩,.int .i64 0,.int .i64 0,.str ⟨#[]⟩,.ag,.ag,.ag,.str ⟨#[]⟩,.ag,.int .i64 0,.bool false]),none⟩,⟨none,.store 15 (sT 5) (sT 12),none⟩]) (.seq (.region [aN 13 13 5,aH 14 13,bC 15 .lss 14 (.int .i64 0)]) (.cond (sT 15) (.region [ab 16 3,aN 17 0 5,bU 18 13 17,bw 19 49 [.tmp 18],⟨some 20,.append 1 16 (sT 16) (sT 19),none⟩,ab 3 20]) .skip)))) (.region [bC 21 .add 9 (.int .i64 1),ab 9 21]))))))) (.seq (.region [ab 22 3,bw 23 101 [.tmp 22]]) (.seq (.region [ab 24 3,bw 25 102 [.tmp 24],ab 2 25])
 .ret)))))
def G2:List a8:=[.tmp 2]
theorem c253:aG Tryz.prog 81 U4 G2 26:=codeOk Tryz.func81 rfl rfl
def U9:aB:=(.seq (.region [aQ 2 (.ag)]) (.seq (.region [aQ 3 (.ag)]) (.seq (.seq (.region [ab 13 0,⟨some 14,.b5 (sT 13),none⟩,aN 15 3 14,aH 16 15,cJ 17 16,aQ 18 (.int .i64 0)]) (.block 0 (.loop (.seq (.region [cL 19 .lss 18 17]) (.seq (.cond (sT 19) .skip (.exit 0)) (.seq (.block 1 (.seq (.region [cM 20 1 16 18,aH 21 20,ab 5 21]) (.seq (.region [⟨some 22,.gm,none⟩,ab 6 22]) (.seq (.region [ab 23 5,ab 24 6,bw 25 187 [.tmp 23,.tmp 24]]) (.region [ab 26 3,ab 27 6,⟨some 27,.nS 27,none⟩,⟨some 28,.aJ 1 [.tmp 27],none⟩,⟨some 29,.append 1 8 (sT 26) (sT 28),none⟩,ab 3 29]))))) (.region [bC 30 .add 18 (.int .i64 1),ab 18 30]))))))) (.seq (.region [aQ 7 (.ag)]) (.seq (.seq (.region [ab 31 0,⟨some 32,.b5 (sT 31),none⟩,aN 33 3 32,aH 34 33,cJ 35 34,aQ 36 (.int .i64 0)]) (.block 2 (.loop (.seq (.region [cL 37 .lss 36 35]) (.seq (.cond (sT 37) .skip (.exit 2)) (.seq (.block 3 (.seq (.region [ab 38 36,ab 8 38]) (.seq (.region [⟨some 39,.gm,none⟩,ab 9 39]) (.seq (.region [ab 40 8,⟨some 41,.jW 1 [.tmp 40],none⟩,ab 10 41]) (.seq (.seq (.region [aQ 11 (.int .i64 0)]) (.block 4 (.loop (.seq (.seq (.region [ab 42 11,ab 43 10,cJ 44 43,cL 45 .lss 42 44]) (.cond (sT 45) .skip (.exit 4))) (.seq (.block 5 (.seq (.region [ab 48 3,ab 49 10,ab 50 11,cM 51 1 49 50,aH 52 51,cM 53 1 48 52,aH 54 53,⟨some 55,.Ev (sT 54),none⟩]) (.block 6 (.loop (.seq (.region [⟨some 56,.Ew (sT 55),none⟩,⟨some 57,.extract (sT 56) 0,none⟩]) (.seq (.cond (sT 57) .skip (.exit 6)) (.block 7 (.seq (.region [⟨some 58,.Ey (sT 55),none⟩,⟨some 59,.extract (sT 58) 0,none⟩,ab 12 59]) (.seq (.region [ab 60 9,ab 61 12,⟨some 62,.eu (false,[false]) false (.bool false) (sT 60) (sT 61),none⟩,⟨some 63,.un .not (sT 62),none⟩]) (.cond (sT 63) (.seq (.region [ab 64 9,ab 65 12,⟨none,.kG (false,[false]) (sT 64) (sT 65) (.val (.bool true)),none⟩]) (.region [ab 66 10,ab 67 12,⟨some 68,.aJ 1 [.tmp 67],none⟩,⟨some 69,.append 1 8 (sT 66) (sT 68),none⟩,ab 10 69])) .skip)))))))))) (.region [ab 46 11,bC 47 .add 46 (.int .i64 1),ab 11 47])))))) (.region [ab 70 7,ab 71 9,⟨some 71,.nS 71,none⟩,⟨some 72,.aJ 1 [.tmp 71],none⟩,⟨some 73,.append 1 8 (sT 70) (sT 72),none⟩,ab 7 73])))))) (.region [bC 74 .add 36 (.int .i64 1),ab 36 74]))))))) (.seq (.region [ab 75 7,ab 2 75])
 .ret))))))
def Pk:List a8:=[.tmp 2]
theorem c290:aG Tryz.prog 139 U9 Pk 76:=codeOk Tryz.func139 rfl rfl
def Ve:aB:=(.seq (.region [⟨some 4,.box (sT 1),none⟩]) (.qregion [⟨aH 5 2,false,0,0,0⟩,⟨aN 6 1 4,false,0,0,0⟩,⟨aH 7 6,false,0,0,2⟩,⟨aN 8 2 4,false,0,0,0⟩,⟨aH 9 8,false,0,0,8⟩,⟨⟨some 10,.aJ 1 [.tmp 7,.tmp 9],none⟩,false,0,0,30⟩,⟨⟨some 11,.append 1 16 (sT 5) (sT 10),none⟩,true,0,0,63⟩,⟨aN 12 12 4,false,0,1,0⟩,⟨aH 13 12,false,0,1,128⟩,⟨⟨some 14,.append 1 16 (sT 11) (sT 13),none⟩,true,0,0,511⟩,⟨⟨none,.store 1 (sT 2) (sT 14),none⟩,true,0,0,1023⟩]))
def Pp:List a8:=[]
theorem c295:aG Tryz.prog 150 Ve Pp 15:=codeOk Tryz.func150 rfl rfl
def Vl:aB:=(.seq (.region [ab 6 0,cJ 7 6,aQ 8 (.int .i64 0)]) (.block 0 (.loop (.seq (.region [cL 9 .lss 8 7]) (.seq (.cond (sT 9) .skip (.exit 0)) (.seq (.block 1 (.seq (.region [cM 10 17 6 8,bU 11 17 10,⟨some 5,.alloc (.agg [.int .i64 0,.int .i64 0,.str ⟨#[]⟩,.str ⟨#[]⟩,.str ⟨#[]⟩,.str ⟨#[]⟩,.int .i64 0,.int .i64 0,.str ⟨#[]⟩,.ag,.ag,.ag,.str ⟨#[]⟩,.ag,.int .i64 0,.ag,.ag]),none⟩,⟨none,.store 17 (sT 5) (sT 11),none⟩]) (.seq (.seq (.region [aN 12 14 5,aH 13 12,bC 14 .geq 13 (.int .i64 0)]) (.cond (sT 14) (.region [ab 15 1,aN 16 14 5,aH 17 16,⟨none,.kG (false,[false]) (sT 15) (sT 17) (.val (.bool true)),none⟩]) .skip)) (.seq (.region [aN 18 15 5,aH 19 18,ab 20 1,bw 21 187 [.tmp 19,.tmp 20]]) (.region [aN 22 16 5,aH 23 22,ab 24 1,bw 25 187 [.tmp 23,.tmp 24]]))))) (.region [bC 26 .add 8 (.int .i64 1),ab 8 26])))))))
def Ko:List a8:=[]
theorem c323:aG Tryz.prog 187 Vl Ko 27:=codeOk Tryz.func187 rfl rfl
mutual
def AX (X:List Pr):St->List Int
 | .mk k _ _ _ _ _ a b p _=>(if 0<=kI X k p then[kI X k p]else[])++(oV X a++oV X b)
def oV (X:List Pr):List St->List Int
 | []=> []
 | s::l=>AX X s++oV X l
end
def lG (S js:List Int):List Int:=js.foldl fc S
theorem G3 (S a b:List Int):lG S (a++b)=lG (lG S a) b:=by simp[lG]
theorem ze {x:Int}:∀{js S:List Int},x∈lG S js↔x∈S\/x∈js
 | [],S=>by simp[lG]
 | j::js,S=>by
  have:=ze (x:=x) (js:=js) (S:=fc S j);simp only[lG,List.foldl_cons]at this⊢;rw[this,fN,List.mem_cons];constructor
  ·rintro((h | h) | h);exact .inl h;exact .inr (.inl h);exact .inr (.inr h)
  ·rintro(h | h | h);exact .inl (.inl h);exact .inl (.inr h);exact .inr h
mutual
theorem G5 {X:List Pr}:∀(s:St),∀j∈AX X s,0<=j/\j<X.length
 | .mk k r t v l e a b p ps,j,h=>by
  simp only[AX,List.mem_append]at h;rcases h with h | h | h
  ·split at h
   ·rename_i hk;simp at h;subst h;refine⟨hk,?_⟩;by_cases h5:k=5
    ·simp only[kI,h5,if_true]at hk⊢;have:=fO hk;omega
    ·simp[kI,h5]at hk
   ·cases h
  ·exact q8 a j h
  ·exact q8 b j h
theorem q8 {X:List Pr}:∀(l:List St),∀j∈oV X l,0<=j/\j<X.length
 | [],j,h=>by simp[oV]at h
 | s::l,j,h=>by
  simp only[oV,List.mem_append]at h;rcases h with h | h
  ·exact G5 s j h
  ·exact q8 l j h
end
def mE (X:List Pr) (i:Int):List Int:=oV X (aK X i.toNat)
theorem sucs_in {X:List Pr} {i j:Int} (h:j∈mE X i):0<=j/\j<X.length:=q8 _ _ h
inductive LT (X:List Pr):Int->Int->Prop
 | one {i j:Int}:j∈mE X i->LT X i j
 | more {i j k:Int}:LT X i j->k∈mE X j->LT X i k
theorem LT.in {X:List Pr} {i j:Int} (h:LT X i j):0<=j/\j<X.length:=by
 cases h with
 | one h=>exact sucs_in h
 | more _ h=>exact sucs_in h
theorem LT.trans {X:List Pr} {i j k:Int} (h1:LT X i j) (h2:LT X j k):LT X i k:=by
 induction h2 with
 | one h=>exact .more h1 h
 | more _ h ih=>exact .more ih h
theorem LT.closed {X:List Pr} {i:Int} {S:List Int} (h:∀x∈i::S,∀y∈mE X x,y∈S) {j:Int} (hj:LT X i j):j∈S:=by
 induction hj with
 | one h1=>exact h _ (by simp) _ h1
 | more _ h1 ih=>exact h _ (List.mem_cons_of_mem _ ih) _ h1
structure p6 (X:List Pr) (A:List (List Int)):Prop where
 len:A.length=X.length
 set:∀(i:Nat) S,A[i]? =some S->SetP X.length S/\∀j,j∈S↔LT X i j
def dE (S:List Int):V:=.db (S.map (.int .i64)) (bF S)
theorem Kp (H:List ak) (n:Nat) (S:List Int):fz H (n+1) (dE S)=some (dE S):=by rw[dE,Cm,aS,bZ];rfl
theorem rM (A:List (List Int)):df 1 (A.map dE):=cA _ _ (fun x=>by simp[dE,aw]) A
theorem we {H:List ak} {id:Nat} {S:List Int} (h:H[id]? =some (.mp (S.map (.int .i64)) (bF S))):fz (cQ [id] H) 20 (.map id)=some (dE S)/\∀j,j≠id->(bO [id] H)[j]? =H[j]? :=by
 constructor
 ·have hk:(cQ [id] H)[id]? =some (.mp (S.map (.int .i64)) (bF S)):=by rw[cg,h];simp
  rw[fz_map,hk,mw,fA,kz];rfl
 ·intro j hj;rw[de,if_neg];rintro⟨hc,_⟩;exact hj (by simpa using hc)
theorem zf (r:List Int) (i:Nat):(bF r).eraseIdx i=bF (r.eraseIdx i):=by simp only[bF,Go.ChangeMaps.map_eraseIdx]
theorem t323 (X:List Pr):∀(m:Nat) (l:List St),SizeOf.sizeOf l<m->∀(n:Int) (H:List ak) (id:Nat) (S:List Int),H[id]? =some (.mp (S.map (.int .i64)) (bF S))->
 av Tryz.prog 187 [.fs ((num l n).map (cb X)),.map id] H (bX (.dJ []) (H.set id (.mp ((lG S (oV X l)).map (.int .i64)) (bF (lG S (oV X l))))))
 | 0,l,h=>absurd h (Nat.not_lt_zero _)
 | m+1,l,hm=>fun n H id S hid=>by
  have ih:=t323 X m;have dF:=(List.getElem?_eq_some_iff.1 hid).1;refine av.trim ?_;refine av.intro c323 400 (by simp) ?_;simp -implicitDefEqProofs only[Vl,ne_eq,not_false_eq_true,fv,fK,Nat.reduceMul,go_sem];intro hlen;refine aL (fun m e H1=>∃pre post n' S' J,num l n=pre++num post n'/\m=post.length/\(∀s∈post,s∈l)/\lG S (oV X l)=lG S' (oV X post)/\e 1=.map id/\e 6=.fs ((num l n).map (cb X))/\e 7=.int .i64 (num l n).length/\e 8=.int .i64 pre.length/\
   H1=H.set id (.mp (S'.map (.int .i64)) (bF S'))++J) l.length
   ⟨[],l,n,S,[],rfl,rfl,fun _ h=>h,rfl,by simp[az,aC],by simp[az,aC],by simp[az,aC],by simp[az,aC],by
    rw[List.append_nil];apply List.ext_getElem?
    intro i;rw[List.getElem?_set];split
    ·rename_i h;subst h;exact hid
    ·rfl⟩ ?_
  rintro m' e H1 ⟨pre,post,n',S',J,ao,rfl,da,r9,h1,h6,h7,h8,rfl⟩;cases post with
  | nil=>
   simp only[num]at ao;simp -implicitDefEqProofs only[h1,h6,h7,h8,aI ao,ne_eq,not_false_eq_true,fv,fK,Nat.reduceMul,go_sem];simp -implicitDefEqProofs only[Ko,ne_eq,not_false_eq_true,fv,fK,Nat.reduceMul,push_cast,go_sem_proc];refine⟨_,J,rfl,by simp,fun i b hb=> ?_,by rw[r9];rfl⟩;rw[List.getElem?_set]at hb;split at hb
   ·cases hb;right;simp[ak.nr,aS]
   ·exact .inl hb
  | cons s rest=>
   simp only[num]at ao;have hg:=aO (cb X) ao;have Iq:=da s (by simp);have eW:=List.sizeOf_lt_of_mem Iq;rcases s with⟨sk,r,t,v,lb,⟨ek,en,es,aR⟩,a,b,p,ps⟩
   simp only[St.mk.sizeOf_spec]at eW;rw[ic]at hg;simp only[oV,AX,G3]at r9;generalize Ci:kI X sk p=I at*;have Kq:∀(S1:List Int) (J:List ak),(H.set id (.mp (S1.map (.int .i64)) (bF S1))++J)[id]? =some (.mp (S1.map (.int .i64)) (bF S1)):=fun S1 J=>by
    rw[List.getElem?_append_left (by simpa using dF),List.getElem?_set_self dF]
   have EP:∀(S1:List Int) (b:ak) (J:List ak),(H.set id (.mp (S1.map (.int .i64)) (bF S1))++J).set id b=H.set id b++J:=fun S1 b J=>by
    rw[List.set_append_left _ _ (by simpa using dF),List.set_set]
   have ha:=fun(S1:List Int) (J:List ak)=>ih a (by omega) (n'+1) _ id S1 (Kq S1 J)
   have hb:=fun(S1:List Int) (J:List ak)=>ih b (by omega) (n'+1+ai a) _ id S1 (Kq S1 J)
   simp only[EP]at ha hb;by_cases hi:0<=I
   ·have Vn:lG S' [I]=fc S' I:=rfl;rw[if_pos hi,Vn]at r9;simp -implicitDefEqProofs only[h1,h6,h7,h8,an ao,aa ao hlen,hg,hi,decide_true,Kq,EP,bL,b8,b9,ne_eq,not_false_eq_true,fv,fK,Nat.reduceMul,go_sem];repeat' (first | ((first | (with_reducible first | refine bR ((ha _ _)) ?_ | refine bR ((hb _ _)) ?_) | (with_reducible refine aD ?_));simp -implicitDefEqProofs only[h1,h6,h7,h8,an ao,aa ao hlen,hg,hi,decide_true,Kq,EP,bL,b8,b9,ne_eq,not_false_eq_true,fv,fK,Nat.reduceMul,go_sem]) | (with_reducible refine aA.mk ?_ ?_) | (with_reducible refine And.intro ?_ ?_) | ((with_reducible refine bz ?_);simp -implicitDefEqProofs only[Ko,ne_eq,not_false_eq_true,fv,fK,Nat.reduceMul,push_cast,go_sem_proc]) | intro _)
    refine⟨_,Nat.lt_succ_self _,pre++ [_],rest,n'+dA (.mk sk r t v lb (.mk ek en es aR) a b p ps),lG (lG (fc S' I) (oV X a)) (oV X b),J++ [_],by rw[ao,List.append_assoc];rfl,rfl,fun s hs=>da s (List.mem_cons_of_mem _ hs),r9,by simp,rfl⟩
   ·rw[if_neg hi]at r9;simp -implicitDefEqProofs only[h1,h6,h7,h8,an ao,aa ao hlen,hg,hi,decide_false,Kq,EP,ne_eq,not_false_eq_true,fv,fK,Nat.reduceMul,go_sem];repeat' (first | ((first | (with_reducible first | refine bR ((ha _ _)) ?_ | refine bR ((hb _ _)) ?_) | (with_reducible refine aD ?_));simp -implicitDefEqProofs only[h1,h6,h7,h8,an ao,aa ao hlen,hg,hi,decide_false,Kq,EP,ne_eq,not_false_eq_true,fv,fK,Nat.reduceMul,go_sem]) | (with_reducible refine aA.mk ?_ ?_) | (with_reducible refine And.intro ?_ ?_) | ((with_reducible refine bz ?_);simp -implicitDefEqProofs only[Ko,ne_eq,not_false_eq_true,fv,fK,Nat.reduceMul,push_cast,go_sem_proc]) | intro _)
    refine⟨_,Nat.lt_succ_self _,pre++ [_],rest,n'+dA (.mk sk r t v lb (.mk ek en es aR) a b p ps),lG (lG S' (oV X a)) (oV X b),J++ [_],by rw[ao,List.append_assoc];rfl,rfl,fun s hs=>da s (List.mem_cons_of_mem _ hs),r9,by simp,rfl⟩
def N0 (X:List Pr) (i:Int):List Int:=lG [] (mE X i)
theorem AY {X:List Pr} {i j:Int}:j∈N0 X i↔j∈mE X i:=by simp[N0,ze]
structure BF (X:List Pr) (i:Int) (k:Nat) (S:List Int):Prop where
 set:SetP X.length S
 lt:∀x∈S,LT X i x
 kle:k<=S.length+1
 done:∀x∈(i::S).take k,∀y∈mE X x,y∈S
theorem BF.start (X:List Pr) (i:Int):BF X i 0 []:=⟨SetP.nil _,by simp,by simp,by simp⟩
theorem BF.fin {X:List Pr} {i:Int} {S:List Int} (h:BF X i (S.length+1) S):∀j,j∈S↔LT X i j:=fun j=>by
 have hd:=h.done;rw[List.take_of_length_le (by simp)]at hd;exact⟨h.lt j,fun hj=>LT.closed hd hj⟩
theorem BF.grow {X:List Pr} {i:Int} {k:Nat} {S S':List Int} (h:BF X i k S) (T:List Int) (hS:S'=S++T) (iI:SetP X.length S') (ct:∀x∈S',LT X i x) {x:Int} (hx:(i::S)[k]? =some x) (hn:∀y∈mE X x,y∈S'):BF X i (k+1) S':=by
 have hk:=(List.getElem?_eq_some_iff.1 hx).1;simp only[List.length_cons]at hk;refine⟨iI,ct,by rw[hS];simp;omega,fun z hz=> ?_⟩;have ht:(i::S').take (k+1)=(i::S).take k++ [x]:=by
  rw[hS,<-List.cons_append,List.take_append_of_le_length (by simp;omega),List.take_add_one,hx];rfl
 rw[ht,List.mem_append]at hz;rcases hz with hz | hz
 ·intro y hy;rw[hS];exact List.mem_append_left _ (h.done z hz y hy)
 ·simp at hz;subst hz;exact hn
structure LH (NS A:List (List Int)) (H:List ak) (nN ida gz:Nat) (rN:V) (i:Int) (S:List Int):Prop where
 nx:H[nN]? =some (.row (NS.map dE))
 out:OV H rN (A.map dE)
 all:H[ida]? =some (.mp (S.map (.int .i64)) (bF S))
 line:H[gz]? =some (.row ((i::S).map (.int .i64)))
 d1:gz≠nN
 d2:a7 rN gz
 d3:a7 rN nN
theorem OV.xp {H:List ak} {kv:V} {acc:List V} (h:OV H kv acc) {j:Nat} {b:ak} (hb:H[j]? =some b) (hn:∀es,b≠ .row es):a7 kv j:=by
 rintro a c rfl;rcases h with⟨_,h⟩ | ⟨_,id,h,h2⟩
 ·cases h
 ·injection h with h _ _
  subst h;rw[hb]at h2;injection h2 with h2;exact hn _ h2
theorem LH.app {NS A:List (List Int)} {H:List ak} {nN ida gz:Nat} {rN:V} {i:Int} {S:List Int} (h:LH NS A H nN ida gz rN i S) (J:List ak):LH NS A (H++J) nN ida gz rN i S where
 nx:=by rw[List.getElem?_append_left (List.getElem?_eq_some_iff.1 h.nx).1];exact h.nx
 out:=h.out.app J
 all:=by rw[List.getElem?_append_left (List.getElem?_eq_some_iff.1 h.all).1];exact h.all
 line:=by rw[List.getElem?_append_left (List.getElem?_eq_some_iff.1 h.line).1];exact h.line
 d1:=h.d1
 d2:=h.d2
 d3:=h.d3
theorem LH.Vo {NS A:List (List Int)} {H:List ak} {nN ida gz:Nat} {rN:V} {i:Int} {S:List Int} (h:LH NS A H nN ida gz rN i S) {it:Nat} {ks vs:List V} {cur:Option (V×V)} (hit:H[it]? =some (.it ks vs cur)) (b:ak):LH NS A (H.set it b) nN ida gz rN i S where
 nx:=by rw[List.getElem?_set_ne (fun e=>by subst e;rw[h.nx]at hit;cases hit)];exact h.nx
 out:=h.out.set (h.out.xp hit (fun es=>by simp))
 all:=by rw[List.getElem?_set_ne (fun e=>by subst e;rw[h.all]at hit;cases hit)];exact h.all
 line:=by rw[List.getElem?_set_ne (fun e=>by subst e;rw[h.line]at hit;cases hit)];exact h.line
 d1:=h.d1
 d2:=h.d2
 d3:=h.d3
theorem LH.ovl {NS A:List (List Int)} {H:List ak} {nN ida gz:Nat} {rN:V} {i:Int} {S:List Int} (h:LH NS A H nN ida gz rN i S) (y:Int):
 OV (H.set ida (.mp ((S++ [y]).map (.int .i64)) (bF (S++ [y])))) (.ms gz 0 (S.length+1)) ((i::S).map (.int .i64)):=by
 refine .inr ⟨by simp,gz,by simp,?_⟩;rw[List.getElem?_set_ne (fun e=>by subst e;have:=h.all;rw[h.line]at this;cases this)];exact h.line
theorem LH.add {NS A:List (List Int)} {H H':List ak} {nN ida gz:Nat} {rN bN:V} {i:Int} {S:List Int} (h:LH NS A H nN ida gz rN i S) {y:Int}
 (bm:OV H' bN ((i::S).map (.int .i64)++ [.int .i64 y])) (hle:(H.set ida (.mp ((S++ [y]).map (.int .i64)) (bF (S++ [y])))).length<=H'.length)
 (cp:∀j,j<(H.set ida (.mp ((S++ [y]).map (.int .i64)) (bF (S++ [y])))).length->a7 (.ms gz 0 (S.length+1)) j->H'[j]? =(H.set ida (.mp ((S++ [y]).map (.int .i64)) (bF (S++ [y]))))[j]? /\a7 bN j):
 ∃mF,bN=.ms mF 0 (S.length+2)/\LH NS A H' nN ida mF rN i (S++ [y])/\∀j,j<H.length->j≠gz->j≠ida->H'[j]? =H[j]? /\j≠mF:=by
 have qK:=(List.getElem?_eq_some_iff.1 h.all).1;have j6:=(List.getElem?_eq_some_iff.1 h.nx).1;have QS:ida≠nN:=fun e=>by subst e;have:=h.all;rw[h.nx]at this;cases this
 have Ii:gz≠ida:=fun e=>by subst e;have:=h.all;rw[h.line]at this;cases this
 have Vp:∀j,j≠gz->a7 (.ms gz 0 (S.length+1)) j:=fun j hj a b e=>by injection e with e;exact hj e.symm
 have yV:(i::S).map (V.int .i64)++ [.int .i64 y]=(i::(S++ [y])).map (.int .i64):=by simp
 rcases bm with⟨h1,_⟩ | ⟨_,mF,rfl,h2⟩
 ·simp at h1
 rw[yV]at h2;have G6:∀j,j<H.length->j≠gz->j≠ida->H'[j]? =H[j]? /\j≠mF:=fun j hj h1 h2=>by
  obtain⟨h3,h4⟩:=cp j (by simpa using hj) (Vp j h1);rw[List.getElem?_set_ne (Ne.symm h2)]at h3;exact⟨h3,fun e=>h4 0 _ (by rw[e])⟩
 refine⟨mF,by simp,⟨?_,?_,?_,h2,?_,?_,h.d3⟩,G6⟩
 ·rw[(G6 nN j6 h.d1.symm QS.symm).1];exact h.nx
 ·refine h.out.frame (fun id o n hid hl=>(G6 id hl (fun e=>h.d2 o n (by rw[hid,e])) (fun e=> ?_)).1);have:=h.out.xp h.all (fun es=>by simp);exact this o n (by rw[hid,e])
 ·rw[(cp ida (by simpa using qK) (Vp ida Ii.symm)).1,List.getElem?_set_self qK]
 ·exact fun e=>(G6 nN j6 h.d1.symm QS.symm).2 e.symm
 ·intro a b e;by_cases hl:mF<H.length
  ·have h1:mF=gz:=Classical.byContradiction fun hc=>by
    by_cases h3:mF=ida
    ·subst h3;exact h.out.xp h.all (fun es=>by simp) a b e
    ·exact(G6 mF hl hc h3).2 rfl
   subst h1;exact h.d2 a b e
  ·exact h.out.lt (by omega) a b e
theorem p7 {r:List Int} {j:Nat} {y z:Int} (hj:r[j]? =some y) (hz:z∈r):z∈r.eraseIdx j\/z=y:=by
 obtain⟨i,hi⟩:=List.getElem?_of_mem hz;by_cases h:i=j
 ·subst h;rw[hi]at hj;injection hj with hj;exact .inr hj
 ·left;rw[List.mem_eraseIdx_iff_getElem?];exact⟨i,h,hi⟩
theorem t290 (P:bH) (ew:P.procs.length<=1000000) (E:List Bool):af Tryz.prog 139 [.bc (fy P E)] (fun r=>∃A,r=.fs (A.map dE)/\p6 P.procs A):=by
 have QT:=cT P.procs P.procs (ai P.main);have hbG:=mX P;have D8:=t323 P.procs;simp only[fy,lE];generalize DM:eF P.procs P.procs (ai P.main)=BL at*;generalize V.fs (P.procs.map aF)=c0 at*;generalize V.fs (P.main.map encS)=c1 at*;generalize V.fs ((num P.main 0).map (cb P.procs))=c2 at*;refine af.intro c290 900 (by simp) 20 ?_;simp -implicitDefEqProofs only[U9,go_sem];repeat' (first | ((with_reducible refine aD ?_);simp -implicitDefEqProofs only[go_sem]) | (with_reducible refine aA.mk ?_ ?_) | (with_reducible refine And.intro ?_ ?_) | ((with_reducible refine bz ?_);simp -implicitDefEqProofs only[Pk,push_cast,go_sem_proc]) | intro _)
 rename_i OE;refine aL (fun m e H=>∃i kv,i+m=P.procs.length/\e 0=.bc [c0,c1,c2,.fs BL,.fs (E.map .bool)]/\e 3=kv/\e 16=.fs BL/\e 17=.int .i64 P.procs.length/\e 18=.int .i64 i/\OV H kv (((List.range i).map fun(j:Nat)=>N0 P.procs (j:Int)).map dE)) P.procs.length
  ⟨0,.ag,by simp,by simp[az,aC],by simp[az,aC],by simp[az,aC],by simp[az,aC,QT],by simp[az,aC],.inl ⟨rfl,rfl⟩⟩ ?_
 rintro m e H ⟨i,kv,QU,h0,h3,cZ,ea,ft,bm⟩;have cP:=bm.one;have ba:=bm.cS;simp only[V.one]at ba;cases m with
 | zero=>
  have hi:i=P.procs.length:=by omega
  subst hi;have Vq:((List.range P.procs.length).map fun(j:Nat)=>N0 P.procs (j:Int)).length=P.procs.length:=by simp
  have hNg:∀x:Int,0<=x->x<P.procs.length->(((List.range P.procs.length).map fun(j:Nat)=>N0 P.procs (j:Int)).map dE).getD x.toNat .any=dE (N0 P.procs x):=fun x h0 h1=>by
   have hx:x.toNat<P.procs.length:=by omega
   simp[List.getD,List.getElem?_map,hx];congr 1;congr 1;omega
  generalize ((List.range P.procs.length).map fun(j:Nat)=>N0 P.procs (j:Int))=NS at*;simp -implicitDefEqProofs only[h0,h3,cZ,ea,ft,Int.lt_irrefl,decide_false,go_sem];intro _;refine aL (fun m e H=>∃i A rN,i+m=P.procs.length/\A.length=i/\(∀(j:Nat) S,A[j]? =some S->SetP P.procs.length S/\∀y,y∈S↔LT P.procs j y)/\e 3=kv/\e 7=rN/\e 34=.fs BL/\e 35=.int .i64 P.procs.length/\e 36=.int .i64 i/\
   OV H kv (NS.map dE)/\OV H rN (A.map dE)/\dj kv rN) P.procs.length
   ⟨0,[],.ag,by simp,rfl,by simp,by simp[az,h3],by simp[az],by simp[az],by simp[az,QT],by simp[az],bm,.inl ⟨rfl,rfl⟩,fun id=> .inr (fun a b h=>by cases h)⟩ ?_
  clear bm h0 h3 cZ ea ft e H;rintro m e H ⟨i,A,rN,QU,Kr,hA,h3,h7,mU,gL,hU,bm,D9,Pt⟩;have j8:=D9.one;have cY:=D9.cS;simp only[V.one]at cY;cases m with
  | zero=>
   have hi:i=P.procs.length:=by omega
   subst hi;have hz:fz H 20 rN=_:=dw (f:=dE) (n:=18) (fun H x=>Kp _ _ x) D9;simp -implicitDefEqProofs only[h3,h7,mU,gL,hU,Int.lt_irrefl,decide_false,go_sem];simp -implicitDefEqProofs only[Pk,h7,hz,push_cast,go_sem_proc];try exact⟨A,rfl,⟨Kr,hA⟩⟩
  | succ m=>
   have hi:i<P.procs.length:=by omega
   have ct:decide ((i:Int)<(P.procs.length:Int))=true:=by simp;omega
   have zg:=bG (k:=i) (by omega);obtain⟨nN,eJ,Ks⟩:∃nN,kv=.ms nN 0 P.procs.length/\H[nN]? =some (.row (NS.map dE)):=by
    rcases bm with⟨h1,_⟩ | ⟨_,id,h1,h2⟩
    ·have:=congrArg List.length h1;rw[List.length_map,Vq,List.length_nil]at this;omega
    ·exact⟨id,by rw[h1];simp[Vq],h2⟩
   have Vr:a7 rN nN:=fun a b e=>by
    rcases Pt nN with h | h
    ·exact h 0 P.procs.length eJ
    ·exact h a b e
   simp -implicitDefEqProofs only[h3,h7,mU,gL,hU,ct,QT,hi,go_sem];refine aL (fun m e H=>∃k S ida gz,k+m=P.procs.length+2/\BF P.procs (i:Int) k S/\LH NS A H nN ida gz rN (i:Int) S/\e 3=kv/\e 7=rN/\e 34=.fs BL/\e 35=.int .i64 P.procs.length/\e 36=.int .i64 i/\
    e 9=.map ida/\e 10=.ms gz 0 (S.length+1)/\e 11=.int .i64 k) (P.procs.length+2)
    ⟨0,[],H.length,H.length+1,by simp,BF.start _ _,⟨by rw[List.getElem?_append_left (List.getElem?_eq_some_iff.1 Ks).1];exact Ks,D9.app _,by simp[bF],by rw[List.getElem?_append_right (by omega)];simp,by have:=(List.getElem?_eq_some_iff.1 Ks).1;omega,D9.lt (by omega),Vr⟩,
     by simp[az,h3],by simp[az,h7],by simp[az,mU],by simp[az,gL],by simp[az,hU],by simp[az],by simp[az],by simp[az]⟩ ?_
   clear h3 h7 mU gL hU bm D9 Ks e H;rintro m2 e H ⟨k,S,ida,gz,DW,Iy,AZ,h3,h7,mU,gL,hU,h9,eb,ez⟩;have Xo:=Iy.set.len;have hk:=Iy.kle;by_cases ED:k<S.length+1
   ·obtain⟨x,hx⟩:∃x,((i:Int)::S)[k]? =some x:=⟨((i:Int)::S)[k]'(by simpa using ED),List.getElem?_eq_getElem _⟩;have Io:0<=x/\x<P.procs.length:=by
     cases k with
     | zero=>simp at hx;omega
     | succ k=>
      have hm:=List.mem_of_getElem? (show S[k]? =some x by simpa using hx);exact⟨Iy.set.lo x hm,Iy.set.hi x hm⟩
    have hdk:decide ((k:Int)<((S.length+1:Nat):Int))=true:=by simp;omega
    have hgx:(((i:Int)::S).map (V.int .i64)).getD k .any=.int .i64 x:=by rw[List.getD_eq_getElem?_getD,List.getElem?_map,hx];rfl
    simp only[List.map_cons]at hgx;have hNx:=hNg x Io.1 Io.2;have hixx:iD x P.procs.length:=⟨Io.1,by omega⟩;have hnx:=AZ.nx;have SY:=AZ.line;have qK:=AZ.all;have Q9:x.toNat<P.procs.length:=by omega
    have qx:=bG (k:=k) (by omega);simp -implicitDefEqProofs only[h3,h7,mU,gL,hU,h9,eb,ez,eJ,hdk,hgx,hnx,SY,qK,hNx,hixx,ED,Vq,Q9,Nat.le_refl,dE,go_sem];intro _;have hm2:0<m2:=by omega
    obtain⟨it,Pu⟩:∃it,it=H.length:=⟨_,rfl⟩;refine aL (fun m e H=>∃r S' T mF,m=r.length/\S'=S++T/\SetP P.procs.length S'/\(∀y∈S',LT P.procs (i:Int) y)/\(∀y∈N0 P.procs x,y∈r\/y∈S')/\(∀y∈r,y∈N0 P.procs x)/\LH NS A H nN ida mF rN (i:Int) S'/\
     (∃cur,H[it]? =some (.it (r.map (.int .i64)) (bF r) cur))/\e 3=.ms nN 0 P.procs.length/\e 7=rN/\e 34=.fs BL/\e 35=.int .i64 P.procs.length/\e 36=.int .i64 i/\e 9=.map ida/\e 10=.ms mF 0 (S'.length+1)/\e 11=.int .i64 k/\e 55=.ptr it 0 0) (N0 P.procs x).length
     ⟨N0 P.procs x,S,[],gz,rfl,by simp,Iy.set,Iy.lt,fun y hy=> .inl hy,fun y hy=>hy,AZ.app _,⟨none,by rw[Pu];simp⟩,by simp[az,h3,eJ],by simp[az,h7],by simp[az,mU],by simp[az,gL],by simp[az,hU],by simp[az,h9],by simp[az,eb],by simp[az,ez],by simp[az,Pu]⟩ ?_
    clear h3 h7 mU gL hU h9 eb ez hnx SY qK AZ Pu e H;rintro m3 e H ⟨r,S',T,mF,rfl,hST,Cx,Pv,QH,Xe,AZ,⟨cur,hit⟩,h3,h7,mU,gL,hU,h9,eb,ez,NG⟩;simp -implicitDefEqProofs only[h3,h7,mU,gL,hU,h9,eb,ez,NG,hit,go_sem];refine⟨fun hr=> ?_,fun j kk vv uk hvv=> ?_⟩
    ·have hr:r=[]:=by simpa using hr
     subst hr;simp -implicitDefEqProofs only[h3,h7,mU,gL,hU,h9,eb,ez,NG,hit,qx,go_sem];refine⟨m2 - 1,by omega,k+1,S',ida,mF,by omega,Iy.grow T hST Cx Pv hx (fun y hy=> ?_),AZ,?_⟩
     ·rcases QH y (AY.2 hy)with h | h
      ·cases h
      ·exact h
     ·exact⟨rfl,rfl,rfl⟩
    ·rw[List.getElem?_map]at uk;cases hy:r[j]? with
     | none=>rw[hy]at uk;cases uk
     | some y=>
     rw[hy]at uk;simp only[Option.map_some,Option.some.injEq]at uk;subst uk;have hvv':vv=.bool true:=by
      simp only[bF,List.getElem?_map,hy,Option.map_some,Option.some.injEq]at hvv;exact hvv.symm
     subst hvv';have hitl:=(List.getElem?_eq_some_iff.1 hit).1;rw[<-Go.ChangeMaps.map_eraseIdx,zf];have Ea:=AZ.Vo hit (.it ((r.eraseIdx j).map (.int .i64)) (bF (r.eraseIdx j)) (some (.int .i64 y,.bool true)));have Eb:(H.set it (.it ((r.eraseIdx j).map (.int .i64)) (bF (r.eraseIdx j)) (some (.int .i64 y,.bool true))))[it]? =some (.it ((r.eraseIdx j).map (.int .i64)) (bF (r.eraseIdx j)) (some (.int .i64 y,.bool true))):=List.getElem?_set_self hitl;generalize H.set it (.it ((r.eraseIdx j).map (.int .i64)) (bF (r.eraseIdx j)) (some (.int .i64 y,.bool true)))=H2 at*;have qK:=Ea.all;have hyN:=Xe y (List.mem_of_getElem? hy);have hle:(r.eraseIdx j).length<r.length:=by
      have:=(List.getElem?_eq_some_iff.1 hy).1;rw[List.length_eraseIdx,if_pos this];omega
     by_cases EI:y∈S'
     ·simp -implicitDefEqProofs only[h3,h7,mU,gL,hU,h9,eb,ez,NG,Eb,qK,bL,b6,EI,decide_true,go_sem];refine⟨_,hle,r.eraseIdx j,S',T,mF,rfl,hST,Cx,Pv,fun z hz=> ?_,fun z hz=>Xe z (List.mem_of_mem_eraseIdx hz),Ea,⟨_,rfl⟩,rfl⟩;rcases QH z hz with h | h
      ·rcases p7 hy h with h | rfl
       ·exact .inl h
       ·exact .inr EI
      ·exact .inr h
     ·have r9:fc S' y=S'++ [y]:=by rw[fc,if_neg (by simpa using EI)]
      simp -implicitDefEqProofs only[h3,h7,mU,gL,hU,h9,eb,ez,NG,Eb,qK,bL,b6,b8,b9,r9,EI,decide_false,go_sem];rw[<-sr];have hyI:=sucs_in (AY.1 hyN);refine cu (Ea.ovl y) (fun i o l h=>by cases h) (cA _ _ (fun x=>by simp[aw]) _) (by have:=Cx.len;simp only[List.length_map,List.length_cons,List.length_nil];omega) ?_;rintro bN H' bo hle' cp;obtain⟨idl2,rfl,hlh3,hoth⟩:=Ea.add bo hle' cp;have Vs:=(List.getElem?_eq_some_iff.1 Eb).1;have FA:it≠mF:=fun e=>by subst e;have:=Ea.line;rw[Eb]at this;cases this
      have DF:it≠ida:=fun e=>by subst e;have:=Ea.all;rw[Eb]at this;cases this
      simp -implicitDefEqProofs only[h3,h7,mU,gL,hU,h9,eb,ez,NG,go_sem];have Vt:SetP P.procs.length (S'++ [y]):=by
       rw[<-r9];obtain⟨yn,rfl⟩:∃yn:Nat,y=yn:=⟨y.toNat,by omega⟩;exact Cx.add (by omega)
      refine⟨_,hle,r.eraseIdx j,S'++ [y],T++ [y],idl2,rfl,by rw[hST,List.append_assoc],Vt,fun z hz=> ?_,fun z hz=> ?_,fun z hz=>Xe z (List.mem_of_mem_eraseIdx hz),hlh3,⟨_,by rw[(hoth it Vs FA DF).1];exact Eb⟩,by simp⟩
      ·rcases List.mem_append.1 hz with hz | hz
       ·exact Pv z hz
       ·simp at hz;subst hz;have Ax:=AY.1 hyN;cases k with
        | zero=>
         simp at hx;subst hx;exact .one Ax
        | succ k=>
         have hxm:=List.mem_of_getElem? (show S[k]? =some x by simpa using hx);exact .more (Iy.lt x hxm) Ax
      ·rcases QH z hz with h | h
       ·rcases p7 hy h with h | rfl
        ·exact .inl h
        ·exact .inr (by simp)
       ·exact .inr (by simp[h])
   ·have Ip:k=S.length+1:=by omega
    subst Ip;have hdk:decide (((S.length+1:Nat):Int)<((S.length+1:Nat):Int))=false:=by simp
    have lX:=we AZ.all;have QS:ida≠nN:=fun e=>by
     subst e;have:=AZ.all;rw[AZ.nx]at this;cases this
    have Vu:OV (bO [ida] H) rN (A.map dE):=AZ.out.frame (fun id o n hid hl=>lX.2 id (fun e=>AZ.out.xp AZ.all (fun es=>by simp) o n (by rw[hid,e])));simp -implicitDefEqProofs only[h3,h7,mU,gL,hU,h9,eb,ez,eJ,hdk,go_sem];intro _;refine⟨_,_,lX.1,?_⟩;simp -implicitDefEqProofs only[h3,h7,mU,gL,hU,h9,eb,ez,dE,go_sem];refine cu Vu (fun i o l h=>by cases h) (rM _) (by simp;omega) ?_;rintro bN H' bo hle cp;simp -implicitDefEqProofs only[h3,h7,mU,gL,hU,h9,eb,ez,zg,go_sem];have Vv:(bO [ida] H)[nN]? =some (.row (NS.map dE)):=by rw[lX.2 nN QS.symm];exact AZ.nx
    have jl:=(List.getElem?_eq_some_iff.1 Vv).1;obtain⟨ky,jO⟩:=cp nN jl Vr;refine⟨m,Nat.lt_succ_self _,i+1,A++ [S],bN,by omega,by simp[Kr],fun j S1 hj=> ?_,eJ,rfl,rfl,.inr ⟨fun h=> ?_,nN,by simp[Vq],by rw[ky];exact Vv⟩,by simpa[dE]using bo,fun id=> ?_⟩
    ·by_cases oN:j<A.length
     ·rw[List.getElem?_append_left oN]at hj;exact hA j S1 hj
     ·rw[List.getElem?_append_right (by omega)]at hj;have h0:j - A.length=0:=by have:=(List.getElem?_eq_some_iff.1 hj).1;simp at this;omega
      have:j=i:=by omega
      subst this;rw[h0]at hj;simp at hj;subst hj;exact⟨Iy.set,Iy.fin⟩
    ·have:=congrArg List.length h;rw[List.length_map,Vq,List.length_nil]at this;omega
    ·by_cases hid:id=nN
     ·subst hid;exact .inr jO
     ·exact .inl (fun a b e=>by injection e with e;exact hid e.symm)
 | succ m=>
  have hi:i<P.procs.length:=by omega
  have hBG:=hbG i hi;have ct:decide ((i:Int)<(P.procs.length:Int))=true:=by simp;omega
  have D8:=D8 _ (aK P.procs i) (Nat.lt_succ_self _) (dc P i);have hN:lG [] (oV P.procs (aK P.procs i))=N0 P.procs (i:Int):=by simp[N0,mE]
  have D8:=D8 (H++ [.mp [] []]) H.length [] (by simp[bF]);rw[hN,l8]at D8;have lX:=we (H:=H++ [.mp ((N0 P.procs (i:Int)).map (.int .i64)) (bF (N0 P.procs (i:Int)))]) (id:=H.length) (S:=N0 P.procs (i:Int)) (by simp);have zg:=bG (k:=i) (by omega);have bJ:OV (bO [H.length] (H++ [.mp ((N0 P.procs (i:Int)).map (.int .i64)) (bF (N0 P.procs (i:Int)))])) kv (((List.range i).map fun(j:Nat)=>N0 P.procs (j:Int)).map dE):=(bm.app _).frame (fun id o n hid _=>lX.2 id (fun e=>bm.lt (Nat.le_refl _) o n (by rw[hid,e])));simp -implicitDefEqProofs only[h0,h3,cZ,ea,ft,ct,hBG,hi,QT,go_sem];refine bR D8 ?_;simp -implicitDefEqProofs only[h0,h3,cZ,ea,ft,ct,hBG,hi,QT,go_sem];refine⟨_,_,lX.1,?_⟩;simp -implicitDefEqProofs only[h0,h3,cZ,ea,ft,ct,hBG,hi,QT,dE,go_sem];refine cu bJ (fun i o l h=>by cases h) (rM _) (by simp;omega) ?_;rintro bN H' bo hle cp;simp -implicitDefEqProofs only[h0,h3,cZ,ea,ft,zg,go_sem];refine⟨m,Nat.lt_succ_self _,i+1,bN,by omega,rfl,rfl,?_⟩;rw[List.range_succ,List.map_append,List.map_append];simpa[dE]using bo
inductive zh (X:List Pr) (k:Int):Int->Int->Prop
 | one {i j:Int}:j∈mE X i->zh X k i j
 | more {i m j:Int}:zh X k i m->m<k->j∈mE X m->zh X k i j
theorem zh.lt {X:List Pr} {k i j:Int} (h:zh X k i j):LT X i j:=by
 induction h with
 | one h=>exact .one h
 | more _ _ h ih=>exact .more ih h
theorem zh.of {X:List Pr} {i j:Int} (h:LT X i j):zh X X.length i j:=by
 induction h with
 | one h=>exact .one h
 | more h1 h ih=>exact .more ih h1.in.2 h
theorem zh.succ {X:List Pr} {k i j:Int} (h:zh X (k+1) i j):zh X k i j\/(zh X k i k/\zh X k k j):=by
 induction h with
 | one h=>exact .inl (.one h)
 | @more m j h1 hm hj ih=>
  by_cases IE:m=k
  ·subst IE;rcases ih with h | h
   ·exact .inr ⟨h,.one hj⟩
   ·exact .inr ⟨h.1,.one hj⟩
  ·rcases ih with h | h
   ·exact .inl (.more h (by omega) hj)
   ·exact .inr ⟨h.1,.more h.2 (by omega) hj⟩
def MA (A:List (List Int)) (i j:Int):Prop:=0<=i/\j∈A.getD i.toNat []
structure Wa (X:List Pr) (A:List (List Int)) (k:Int):Prop where
 len:A.length=X.length
 set:∀S∈A,SetP X.length S
 sound:∀i j:Int,MA A i j->LT X i j
 done:∀i j:Int,0<=i->i<X.length->zh X k i j->MA A i j
theorem Wa.fin {X:List Pr} {A:List (List Int)} (h:Wa X A X.length):p6 X A:=by
 refine⟨h.len,fun i S hi=>⟨h.set S (List.mem_of_getElem? hi),fun j=> ?_⟩⟩;have dF:=(List.getElem?_eq_some_iff.1 hi).1;have hg:A.getD (i:Int).toNat []=S:=by rw[Int.toNat_natCast,List.getD_eq_getElem?_getD,hi];rfl
 constructor
 ·intro hj;exact h.sound i j ⟨by omega,by rw[hg];exact hj⟩
 ·intro hj;have:=(h.done i j (by omega) (by have:=h.len;omega) (zh.of hj)).2;rw[hg]at this;exact this
def q9 (A:List (List Int)) (i:Nat) (j:Int):List (List Int):=A.set i (fc (A.getD i []) j)
theorem mG {A:List (List Int)} {i:Nat} {j:Int} (hi:i<A.length) (a b:Int):MA (q9 A i j) a b↔MA A a b\/(a=i/\b=j):=by
 simp only[MA,q9,List.getD_eq_getElem?_getD,List.getElem?_set];constructor
 ·rintro⟨h0,h⟩;by_cases ha:i=a.toNat
  ·rw[if_pos ha,if_pos hi]at h;simp only[Option.getD_some,fN]at h;rcases h with h | h
   ·exact .inl ⟨h0,by rw[<-ha];exact h⟩
   ·exact .inr ⟨by omega,h⟩
  ·rw[if_neg ha]at h;exact .inl ⟨h0,h⟩
 ·rintro(⟨h0,h⟩ | ⟨rfl,rfl⟩)
  ·refine⟨h0,?_⟩;by_cases ha:i=a.toNat
   ·rw[if_pos ha,if_pos hi];simp only[Option.getD_some,fN];exact .inl (by rw[ha];exact h)
   ·rw[if_neg ha];exact h
  ·refine⟨by omega,?_⟩;simp[hi,fN]
theorem um (A:List (List Int)) (i:Nat) (j:Int):(q9 A i j).length=A.length:=by simp[q9]
theorem zi {n:Nat} {A:List (List Int)} (h:∀S∈A,SetP n S) {i:Nat} {j:Int} (hj:0<=j/\j<n):∀S∈q9 A i j,SetP n S:=by
 intro S hS;rcases List.mem_or_eq_of_mem_set hS with h1 | rfl
 ·exact h S h1
 ·obtain⟨jn,rfl⟩:∃jn:Nat,j=jn:=⟨j.toNat,by omega⟩;refine SetP.add ?_ (by omega);rw[List.getD_eq_getElem?_getD];cases hA:A[i]? with
  | none=>exact SetP.nil _
  | some S=>exact h S (List.mem_of_getElem? hA)
structure Wb (X:List Pr) (A:List (List Int)) (k i j:Nat):Prop where
 wa:Wa X A k
 rows:∀a b:Int,0<=a->a<i->zh X ((k:Int)+1) a b->MA A a b
 row:∀b:Int,b<j->zh X ((k:Int)+1) i b->MA A i b
theorem Wb.start {X:List Pr} {A:List (List Int)} {k:Nat} (h:Wa X A k):Wb X A k 0 0:=⟨h,fun a b h0 h1=>by omega,fun b hb h=>by
 have:=h.lt.in;omega⟩
theorem Wb.next {X:List Pr} {A:List (List Int)} {k i:Nat} (h:Wb X A k i X.length):Wb X A k (i+1) 0:=⟨h.wa,fun a b h0 h1 hl=>by
 by_cases ha:a<i
 ·exact h.rows a b h0 ha hl
 ·have:a=i:=by omega
  subst this;exact h.row b hl.lt.in.2 hl,fun b hb hl=>by have:=hl.lt.in;omega⟩
theorem Wb.fin {X:List Pr} {A:List (List Int)} {k:Nat} (h:Wb X A k X.length 0):Wa X A ((k+1:Nat):Int):=⟨h.wa.len,h.wa.set,h.wa.sound,fun i j h0 h1 hl=>h.rows i j h0 h1 (by simpa using hl)⟩
theorem Wb.skip {X:List Pr} {A:List (List Int)} {k i j:Nat} (hi:i<X.length) (hk:k<X.length) (h:Wb X A k i j) (hn:¬(MA A i k/\MA A k j)):Wb X A k i (j+1):=⟨h.wa,h.rows,fun b hb hl=>by
 by_cases hbj:b<j
 ·exact h.row b hbj hl
 ·have:b=j:=by omega
  subst this;rcases hl.succ with h1 | ⟨h1,h2⟩
  ·exact h.wa.done i j (by omega) (by omega) h1
  ·exact absurd ⟨h.wa.done i k (by omega) (by omega) h1,h.wa.done k j (by omega) (by omega) h2⟩ hn⟩
theorem Wb.put {X:List Pr} {A:List (List Int)} {k i j:Nat} (hi:i<X.length) (hj:j<X.length) (h:Wb X A k i j) (hy:MA A i k/\MA A k j):Wb X (q9 A i j) k i (j+1):=by
 have dF:i<A.length:=by rw[h.wa.len];exact hi
 refine⟨⟨by rw[um];exact h.wa.len,zi h.wa.set (by omega),fun a b wQ=> ?_,fun a b h0 h1 hl=>(mG dF a b).2 (.inl (h.wa.done a b h0 h1 hl))⟩,fun a b h0 h1 hl=>(mG dF a b).2 (.inl (h.rows a b h0 h1 hl)),fun b hb hl=> ?_⟩
 ·rcases(mG dF a b).1 wQ with h1 | ⟨rfl,rfl⟩
  ·exact h.wa.sound a b h1
  ·exact(h.wa.sound _ _ hy.1).trans (h.wa.sound _ _ hy.2)
 ·by_cases hbj:b<j
  ·exact(mG dF i b).2 (.inl (h.row b hbj hl))
  ·exact(mG dF i b).2 (.inr ⟨rfl,by omega⟩)
def LV:St->Int->List Pr->Prop
 | .mk k _ _ _ _ _ _ _ p _,j,X=>kI X k p=j/\0<=j
mutual
theorem Pw {X:List Pr} {j:Int}:∀(s:St) (pr:Int) (la:Bool),j∈AX X s↔∃y∈nu s pr la,LV y.1 j X
 | .mk k r t v l e a b p ps,pr,la=>by
  have ha:=uo (X:=X) (j:=j) a pr la;have hb:=uo (X:=X) (j:=j) b pr la;simp only[AX,List.mem_append,nu,List.mem_cons,exists_eq_or_imp,ha,hb,LV];constructor
  ·rintro(h | ⟨y,hy,h⟩ | ⟨y,hy,h⟩)
   ·split at h
    ·rename_i hk;simp at h;subst h;exact .inl ⟨rfl,hk⟩
    ·cases h
   ·exact .inr ⟨y,.inl hy,h⟩
   ·exact .inr ⟨y,.inr hy,h⟩
  ·rintro(⟨h1,h2⟩ | ⟨y,hy | hy,h⟩)
   ·left;rw[if_pos (by rw[h1];exact h2),h1];simp
   ·exact .inr (.inl ⟨y,hy,h⟩)
   ·exact .inr (.inr ⟨y,hy,h⟩)
theorem uo {X:List Pr} {j:Int}:∀(l:List St) (pr:Int) (la:Bool),j∈oV X l↔∃y∈gC l pr la,LV y.1 j X
 | [],pr,la=>by simp[oV,gC]
 | s::l,pr,la=>by
  have hs:=Pw (X:=X) (j:=j) s pr (la && l.isEmpty);have hl:=uo (X:=X) (j:=j) l pr la;simp only[oV,gC,List.mem_append,hs,hl];constructor
  ·rintro(⟨y,hy,h⟩ | ⟨y,hy,h⟩)
   ·exact⟨y,.inl hy,h⟩
   ·exact⟨y,.inr hy,h⟩
  ·rintro⟨y,hy | hy,h⟩
   ·exact .inl ⟨y,hy,h⟩
   ·exact .inr ⟨y,hy,h⟩
end
structure Ws (P:bH) (A:List (List Int)) (pre:List mV):Prop where
 len:A.length=P.procs.length
 set:∀S∈A,SetP P.procs.length S
 sound:∀i j:Int,MA A i j->j∈mE P.procs i
 done:∀y∈pre,∀j,0<=y.2.1->LV y.1 j P.procs->MA A y.2.1 j
theorem Ws.fin {P:bH} {A:List (List Int)} (h:Ws P A (cw P)):Wa P.procs A 0:=by
 refine⟨h.len,h.set,fun i j hm=> .one (h.sound i j hm),fun i j h0 h1 hl=> ?_⟩;have hs:∀{a b:Int},zh P.procs 0 a b->b∈mE P.procs a:=by
  intro a b wQ;cases wQ with
  | one h=>exact h
  | more h1 h2 _=>have:=h1.lt.in;omega
 have hj:=hs hl;obtain⟨n,rfl⟩:∃n:Nat,i=n:=⟨i.toNat,by omega⟩;have hn:n<P.procs.length:=by omega
 have hq:P.procs[n]? =some (P.procs[n]):=List.getElem?_eq_getElem hn;rw[mE,Int.toNat_natCast,aK,hq]at hj;obtain⟨y,hy,hk⟩:=(uo _ (n:Int) true).1 hj;have hp:=fp _ _ _ y hy;have Ax:y∈cw P:=by
  simp only[cw,List.mem_append];exact .inr (xl (i:=0) (j:=n) hq y (by simpa using hy))
 have:=h.done y Ax j (by omega) hk;rw[hp]at this;exact this
theorem Ws.skip {P:bH} {A:List (List Int)} {pre:List mV} (h:Ws P A pre) {y:mV} (hy:¬(0<=y.2.1/\∃j,LV y.1 j P.procs)):Ws P A (pre++ [y]):=
 ⟨h.len,h.set,h.sound,fun z hz j h0 hk=>by
  rcases List.mem_append.1 hz with hz | hz
  ·exact h.done z hz j h0 hk
  ·simp at hz;subst hz;exact absurd ⟨h0,j,hk⟩ hy⟩
theorem Ws.put {P:bH} {A:List (List Int)} {pre:List mV} (h:Ws P A pre) {y:mV} (Ax:y∈cw P) {i:Nat} (hi:y.2.1=i) (dF:i<P.procs.length) {j:Int} (hk:LV y.1 j P.procs) (hj:0<=j/\j<P.procs.length):Ws P (q9 A i j) (pre++ [y]):=by
 have hiA:i<A.length:=by rw[h.len];exact dF
 refine⟨by rw[um];exact h.len,zi h.set hj,fun a b wQ=> ?_,fun z hz j' h0 vM=> ?_⟩
 ·rcases(mG hiA a b).1 wQ with h1 | ⟨rfl,rfl⟩
  ·exact h.sound a b h1
  ·have hq:P.procs[i]? =some (P.procs[i]):=List.getElem?_eq_getElem dF;have oO:=GX Ax hi hq;rw[mE,Int.toNat_natCast,aK,hq];exact(uo _ (i:Int) true).2 ⟨y,oO,hk⟩
 ·rcases List.mem_append.1 hz with hz | hz
  ·exact(mG hiA _ _).2 (.inl (h.done z hz j' h0 vM))
  ·simp at hz;subst hz;refine(mG hiA _ _).2 (.inr ⟨hi,?_⟩);obtain⟨⟨k,r,t,v,l,e,a,b,p,ps⟩,pr,la⟩:=z;simp only[LV]at hk vM;exact vM.1.symm.trans hk.1
def Xp (S:List Int):ak:=.mp (S.map (.int .i64)) (bF S)
def zT (i:Nat):List V:=(List.range i).map fun j=> .map (j+2)
theorem k8 (i:Nat):(zT i).length=i:=by simp[zT]
theorem xq {n i:Nat} (h:i<n):(zT n).getD i .any=.map (i+2):=by simp[zT,List.getD_eq_getElem?_getD,h]
theorem Kt (i m:Nat):(zT i++List.replicate (m+1) V.cG).set i (.map (i+2))=zT (i+1)++List.replicate m V.cG:=by
 rw[List.replicate_succ,List.set_append_right _ _ (by simp[k8])];simp[k8,zT,List.range_succ]
structure LM (b0:ak) (n:Nat) (H:List ak) (A:List (List Int)):Prop where
 h0:H[0]? =some b0
 h1:H[1]? =some (.row (zT n))
 hA:∀(j:Nat) S,A[j]? =some S->H[j+2]? =some (Xp S)
 len:A.length=n
theorem LM.app {b0:ak} {n:Nat} {H:List ak} {A:List (List Int)} (h:LM b0 n H A) (J:List ak):LM b0 n (H++J) A where
 h0:=by rw[List.getElem?_append_left (List.getElem?_eq_some_iff.1 h.h0).1];exact h.h0
 h1:=by rw[List.getElem?_append_left (List.getElem?_eq_some_iff.1 h.h1).1];exact h.h1
 hA j S hj:=by
  have:=h.hA j S hj;rw[List.getElem?_append_left (List.getElem?_eq_some_iff.1 this).1];exact this
 len:=h.len
theorem LM.get {b0:ak} {n:Nat} {H:List ak} {A:List (List Int)} (h:LM b0 n H A) {i:Nat} (hi:i<n):H[i+2]? =some (.mp ((A.getD i []).map (.int .i64)) (bF (A.getD i []))):=by
 have hA:A[i]? =some (A[i]'(by rw[h.len];exact hi)):=List.getElem?_eq_getElem _;rw[h.hA i _ hA,List.getD_eq_getElem?_getD,hA];rfl
theorem LM.put {b0:ak} {n:Nat} {H:List ak} {A:List (List Int)} (h:LM b0 n H A) (i:Nat) (j:Int) (hi:i<n):
 LM b0 n (H.set (i+2) (.mp ((fc (A.getD i []) j).map (.int .i64)) (bF (fc (A.getD i []) j)))) (q9 A i j) where
 h0:=by rw[List.getElem?_set_ne (by omega)];exact h.h0
 h1:=by rw[List.getElem?_set_ne (by omega)];exact h.h1
 hA k S hk:=by
  have hl:=(List.getElem?_eq_some_iff.1 (h.get hi)).1;rw[q9,List.getElem?_set]at hk;by_cases sY:i=k
  ·subst sY;rw[if_pos rfl,if_pos (by rw[h.len];exact hi)]at hk;injection hk with hk
   subst hk;rw[List.getElem?_set_self hl];rfl
  ·rw[if_neg sY]at hk;rw[List.getElem?_set_ne (by omega)];exact h.hA k S hk
 len:=by rw[um];exact h.len
theorem LM.nS {b0:ak} {H:List ak} {A:List (List Int)} (h:LM b0 A.length H A) (k:Nat):fz H (k+4) (.ms 1 0 A.length)=some (.fs (A.map dE)):=by
 have hg:eI (fz H (k+3)) (zT A.length)=some (A.map dE):=by
  have:∀(B:List (List Int)) (o:Nat),(∀(j:Nat) S,B[j]? =some S->H[j+o+2]? =some (Xp S))->eI (fz H (k+3)) ((List.range' o B.length).map fun j=>V.map (j+2))=some (B.map dE):=by
   intro B;induction B with
   | nil=>intro o _;simp[cN]
   | cons S B ih=>
    intro o hB;have h1:=hB 0 S rfl;have h2:=ih (o+1) (fun j S hj=>by have:=hB (j+1) S hj;rw[show j+1+o+2=j+(o+1)+2 from by omega]at this;exact this);rw[Nat.zero_add]at h1;rw[List.length_cons,List.range'_succ,List.map_cons,b7,h2,fz_map,h1,Xp,mw,fA,kz];rfl
  have h3:=this A 0 (fun j S hj=>by simpa using h.hA j S hj);rw[zT,List.range_eq_range'];exact h3
 rw[iu,h.h1,ef,if_pos (by simp[k8]),List.drop_zero,List.take_of_length_le (by simp[k8]),hg];rfl
theorem Ws.init (P:bH):Ws P (List.replicate P.procs.length []) []:=by
 refine⟨by simp,fun S hS=> ?_,fun i j h=> ?_,by simp⟩
 ·rw[List.eq_of_mem_replicate hS];exact SetP.nil _
 ·obtain⟨_,h⟩:=h;rw[List.getD_eq_getElem?_getD,List.getElem?_replicate]at h;split at h<;>simp at h
def wsF (X:List Pr):List mV->List (List Int)->List (List Int)
 | [],A=>A
 | (.mk k r t v lb e a b p ps,pr,la)::l,A=>wsF X l (if 0<=pr/\k=5 then q9 A pr.toNat (procI X p)else A)
def jF (k i:Nat):Nat->Nat->List (List Int)->List (List Int)
 | 0,_,A=>A
 | m+1,j,A=>jF k i m (j+1) (if(k:Int)∈A.getD i []/\(j:Int)∈A.getD k []then q9 A i j else A)
def iF (n k:Nat):Nat->Nat->List (List Int)->List (List Int)
 | 0,_,A=>A
 | m+1,i,A=>iF n k m (i+1) (jF k i n 0 A)
def kF (n:Nat):Nat->Nat->List (List Int)->List (List Int)
 | 0,_,A=>A
 | m+1,k,A=>kF n m (k+1) (iF n k n 0 A)
def LY (P:bH):List (List Int):=kF P.procs.length P.procs.length 0 (wsF P.procs (cw P) (List.replicate P.procs.length []))
theorem G7 {P:bH} (cR:lK P=0):∀(post pre:List mV) (A:List (List Int)),cw P=pre++post->Ws P A pre->Ws P (wsF P.procs post A) (cw P)
 | [],pre,A,h,hW=>by rw[wsF,h,List.append_nil];exact hW
 | (.mk k r t v lb e a b p ps,pr,la)::post,pre,A,h,hW=>by
   rw[wsF];refine G7 cR post (pre++ [(.mk k r t v lb e a b p ps,pr,la)]) _ (by rw[h];simp) ?_;have Ax:(St.mk k r t v lb e a b p ps,pr,la)∈cw P:=by rw[h];simp
   have hw:=Xm cR _ Ax;split
   ·rename_i hc;obtain⟨Cu,rfl⟩:=hc;obtain⟨i,rfl⟩:∃i:Nat,pr=i:=⟨pr.toNat,by omega⟩;obtain⟨q,hq,_⟩:=hw.au i rfl;have dF:=(List.getElem?_eq_some_iff.1 hq).1;have u7:=(hw.call rfl).1;exact hW.put Ax (i:=i) rfl dF (j:=procI P.procs p) ⟨by simp[kI],u7⟩ ⟨u7,by have:=fO u7;omega⟩
   ·rename_i hc;refine hW.skip ?_;rintro⟨h0,j,hk⟩;simp only[LV,kI]at hk;split at hk
    ·rename_i h5;exact hc ⟨h0,h5⟩
    ·omega
theorem LZ {X:List Pr} {k i:Nat} (hi:i<X.length) (hk:k<X.length):∀(m j:Nat) (A:List (List Int)),j+m=X.length->Wb X A k i j->Wb X (jF k i m j A) k i X.length
 | 0,j,A,h,hW=>by rw[jF,<-h];exact hW
 | m+1,j,A,h,hW=>by
  rw[jF];refine LZ hi hk m (j+1) _ (by omega) ?_;split
  ·rename_i hc;exact hW.put hi (by omega) ⟨⟨by omega,by simpa using hc.1⟩,by omega,by simpa using hc.2⟩
  ·rename_i hc;exact hW.skip hi hk (fun h=>hc ⟨by simpa using h.1.2,by simpa using h.2.2⟩)
theorem L2 {X:List Pr} {k:Nat} (hk:k<X.length):∀(m i:Nat) (A:List (List Int)),i+m=X.length->Wb X A k i 0->Wb X (iF X.length k m i A) k X.length 0
 | 0,i,A,h,hW=>by rw[iF];rw[show i=X.length by omega]at hW;exact hW
 | m+1,i,A,h,hW=>by
  rw[iF];exact L2 hk m (i+1) _ (by omega) (LZ (by omega) hk _ 0 A (by omega) hW).next
theorem L3 {X:List Pr}:∀(m k:Nat) (A:List (List Int)),k+m=X.length->Wa X A (k:Nat)->Wa X (kF X.length m k A) X.length
 | 0,k,A,h,hW=>by rw[kF];rw[show k=X.length by omega]at hW;exact hW
 | m+1,k,A,h,hW=>by
  rw[kF];exact L3 m (k+1) _ (by omega) (L2 (by omega) _ 0 A (by omega) (Wb.start hW)).fin
theorem Px {P:bH} (cR:lK P=0):p6 P.procs (LY P):=
 (L3 _ 0 _ (by omega) (G7 cR (cw P) [] _ rfl (Ws.init P)).fin).fin
theorem t250 (P:bH) (hc:total P<=1000000) (cR:lK P=0):af Tryz.prog 78 [aP P] (·=.fs ((LY P).map dE)):=by
 have jP:=t25 P hc;have Iq:=wU P;have hlen50:=(mD (y8 cR)).2.2;have gO:=fun p=>t30 P p
 simp only[aP]at jP gO⊢;generalize Ec:ak.row [.agg [.fs (P.procs.map aF),.fs (P.main.map encS)]]=b0 at*;refine af.intro c250 900 (by simp) 20 ?_;simp -implicitDefEqProofs only[U1,go_sem];intro _;refine⟨by omega,?_⟩;intro j6;refine aL (fun m e H=>∃i,i+m=P.procs.length/\e 1=.ptr 0 0 0/\e 3=.ms 1 0 P.procs.length/\e 14=.ms 1 0 P.procs.length/\e 15=.int .i64 P.procs.length/\e 16=.int .i64 i/\
  H=b0:: .row (zT i++List.replicate m .cG)::List.replicate i (.mp [] [])) P.procs.length
  ⟨0,by simp,by simp[az],by simp[az],by simp[az],by simp[az],by simp[az],by simp[zT,Ec]⟩ ?_
 rintro m e H ⟨i,QU,h1,h3,dG,gy,cZ,rfl⟩;cases m with
 | succ m=>
  have hi:i<P.procs.length:=by omega
  have ct:decide ((i:Int)<(P.procs.length:Int))=true:=by simp;omega
  have zg:=bG (k:=i) (by omega);have iI:=Kt i m;have Da:(zT i).length=i:=k8 i;have vj:(zT i++List.replicate (m+1) V.cG).getD i .any=.cG:=by
   rw[List.getD_eq_getElem?_getD,List.getElem?_append_right (by omega)];simp[Da]
  simp -implicitDefEqProofs only[h1,h3,dG,gy,cZ,ct,hi,zg,iI,Da,vj,aw,List.length_append,List.length_replicate,go_sem];refine⟨by omega,by omega,m,by omega,i+1,by omega,rfl,?_⟩;rw[List.replicate_succ']
 | zero=>
  have hi:i=P.procs.length:=by omega
  subst hi;have oW:LM b0 P.procs.length (b0:: .row (zT P.procs.length++List.replicate 0 .cG)::List.replicate P.procs.length (.mp [] [])) (List.replicate P.procs.length []):=by
   refine⟨rfl,by simp,fun j S hj=> ?_,by simp⟩;have oN:=(List.getElem?_eq_some_iff.1 hj).1;simp at oN;simp only[List.getElem?_replicate,oN,if_true,Option.some.injEq]at hj;subst hj;simp[List.getElem?_replicate,oN,Xp,bF]
  generalize (b0::ak.row (zT P.procs.length++List.replicate 0 V.cG)::List.replicate P.procs.length (ak.mp [] []))=H at*;have mq:=oW.h0;rw[<-Ec]at mq;have vI:=oW.h1;simp -implicitDefEqProofs only[h1,h3,dG,gy,cZ,Int.lt_irrefl,decide_false,mq,go_sem];repeat' (first | ((first | ((with_reducible refine bj jP ?_ ?_);(·simp[ae,al,cm])) | ((with_reducible apply cj);(·simp -implicitDefEqProofs only[List.map_cons,List.map_nil,push_cast,go_sem_proc]<;>rfl);(with_reducible exact jP);(·rfl)) | (with_reducible refine aD ?_));simp -implicitDefEqProofs only[h1,h3,dG,gy,cZ,mq,go_sem]) | (with_reducible refine aA.mk ?_ ?_) | (with_reducible refine And.intro ?_ ?_) | ((with_reducible refine bz ?_);simp -implicitDefEqProofs only[Kj,push_cast,go_sem_proc]) | intro _)
  rename_i Cy;refine aL (fun m e H=>∃pre post A,cw P=pre++post/\m=post.length/\wsF P.procs post A=wsF P.procs (cw P) (List.replicate P.procs.length [])/\LM b0 P.procs.length H A/\e 1=.ptr 0 0 0/\e 3=.ms 1 0 P.procs.length/\
   e 25=.fs ((cw P).map encSp)/\e 26=.int .i64 (cw P).length/\e 27=.int .i64 pre.length) (cw P).length
   ⟨[],cw P,_,rfl,rfl,rfl,oW,by simp[az, *],by simp[az, *],by simp[az, *],by simp[az, *],by simp[az, *]⟩ ?_
  clear oW mq vI h1 h3 dG gy cZ e H;rintro m e H ⟨pre,post,A,ao,rfl,hW,oW,h1,h3,jP,gu,j0⟩;cases post with
  | nil=>
   have ev:pre=cw P:=by rw[ao];simp
   subst ev;have QV:kF P.procs.length P.procs.length 0 A=LY P:=by rw[LY,<-hW];rfl
   clear hW;simp -implicitDefEqProofs only[h1,h3,jP,gu,j0,aI ao,go_sem];intro _;have kE:=k8 P.procs.length;refine aL (fun m e H=>∃k A,k+m=P.procs.length/\kF P.procs.length m k A=LY P/\LM b0 P.procs.length H A/\e 3=.ms 1 0 P.procs.length/\e 52=.int .i64 P.procs.length/\e 53=.int .i64 k) P.procs.length
    ⟨0,A,by simp,QV,oW,by simp[az,h3],by simp[az],by simp[az]⟩ ?_
   clear oW h1 h3 jP gu j0 QV e H A;rintro m e H ⟨k,A,DW,QV,oW,h3,sI,A0⟩;cases m with
   | zero=>
    have hk:k=P.procs.length:=by omega
    subst hk;have Kr:=oW.len;have hz:=LM.nS (b0:=b0) (H:=H) (A:=A) (by rw[Kr];exact oW) 16;rw[Kr]at hz;simp -implicitDefEqProofs only[h3,sI,A0,Int.lt_irrefl,decide_false,go_sem];simp -implicitDefEqProofs only[Kj,h3,hz,push_cast,go_sem_proc];rw[<-QV];rfl
   | succ m=>
    have hk:k<P.procs.length:=by omega
    have ct:decide ((k:Int)<(P.procs.length:Int))=true:=by simp;omega
    have qx:=bG (k:=k) (by omega);simp -implicitDefEqProofs only[h3,sI,A0,ct,go_sem];intro _;refine aL (fun m' e H=>∃i A,i+m'=P.procs.length/\kF P.procs.length m (k+1) (iF P.procs.length k m' i A)=LY P/\LM b0 P.procs.length H A/\e 3=.ms 1 0 P.procs.length/\e 52=.int .i64 P.procs.length/\e 53=.int .i64 k/\
     e 7=.int .i64 k/\e 57=.int .i64 P.procs.length/\e 58=.int .i64 i) P.procs.length
     ⟨0,A,by simp,QV,oW,by simp[az,h3],by simp[az,sI],by simp[az,A0],by simp[az,A0],by simp[az],by simp[az]⟩ ?_
    clear oW h3 sI A0 QV ct e H A;rintro m2 e H ⟨i,A,QU,hW,oW,h3,sI,A0,h7,p8,oU⟩;cases m2 with
    | zero=>
     have hi:i=P.procs.length:=by omega
     subst hi;simp -implicitDefEqProofs only[h3,sI,A0,h7,p8,oU,Int.lt_irrefl,decide_false,qx,go_sem];exact⟨m,Nat.lt_succ_self _,k+1,A,by omega,hW,oW,rfl⟩
    | succ m2=>
     have hi:i<P.procs.length:=by omega
     have ct:decide ((i:Int)<(P.procs.length:Int))=true:=by simp;omega
     have hwi:=bG (k:=i) (by omega);simp -implicitDefEqProofs only[h3,sI,A0,h7,p8,oU,ct,go_sem];intro _;refine aL (fun m' e H=>∃j A,j+m'=P.procs.length/\kF P.procs.length m (k+1) (iF P.procs.length k m2 (i+1) (jF k i m' j A))=LY P/\LM b0 P.procs.length H A/\e 3=.ms 1 0 P.procs.length/\e 52=.int .i64 P.procs.length/\e 53=.int .i64 k/\
      e 7=.int .i64 k/\e 57=.int .i64 P.procs.length/\e 58=.int .i64 i/\e 8=.int .i64 i/\e 62=.int .i64 P.procs.length/\e 63=.int .i64 j) P.procs.length
      ⟨0,A,by simp,hW,oW,by simp[az,h3],by simp[az,sI],by simp[az,A0],by simp[az,h7],by simp[az,p8],by simp[az,oU],by simp[az,oU],by simp[az],by simp[az]⟩ ?_
     clear oW h3 sI A0 h7 p8 oU hW ct e H A;rintro m3 e H ⟨j,A,Ll,hW,oW,h3,sI,A0,h7,p8,oU,h8,nk,qq⟩;cases m3 with
     | zero=>
      have hj:j=P.procs.length:=by omega
      subst hj;simp -implicitDefEqProofs only[h3,sI,A0,h7,p8,oU,h8,nk,qq,Int.lt_irrefl,decide_false,hwi,go_sem];exact⟨m2,Nat.lt_succ_self _,i+1,A,by omega,hW,oW,rfl⟩
     | succ m3=>
      have hj:j<P.procs.length:=by omega
      have ct:decide ((j:Int)<(P.procs.length:Int))=true:=by simp;omega
      have hwj:=bG (k:=j) (by omega);have tN:=oW.h1;have gB:=oW.get hi;have hg3:=oW.get hk;have tQ:=xq hi;have zR:=xq hk;have AF:iD (i:Int) P.procs.length:=⟨by omega,by omega⟩;have QR:iD (k:Int) P.procs.length:=⟨by omega,by omega⟩;rw[jF]at hW;by_cases sY:(k:Int)∈A.getD i []
      ·by_cases rY:(j:Int)∈A.getD k []
       ·simp -implicitDefEqProofs only[h3,sI,A0,h7,p8,oU,h8,nk,qq,ct,hwj,tN,gB,hg3,tQ,zR,AF,QR,hi,hk,kE,aw,bL,b6,b8,b9,sY,rY,decide_true,go_sem];exact⟨Nat.le_refl _,Nat.le_refl _,Nat.le_refl _,m3,Nat.lt_succ_self _,j+1,q9 A i j,by omega,by rwa[if_pos (show(k:Int)∈A.getD i []/\(j:Int)∈A.getD k [] from⟨sY,rY⟩)]at hW,oW.put i j hi,rfl⟩
       ·simp -implicitDefEqProofs only[h3,sI,A0,h7,p8,oU,h8,nk,qq,ct,hwj,tN,gB,hg3,tQ,zR,AF,QR,hi,hk,kE,aw,bL,b6,b8,b9,sY,rY,decide_true,decide_false,go_sem];exact⟨Nat.le_refl _,Nat.le_refl _,m3,Nat.lt_succ_self _,j+1,A,by omega,by rwa[if_neg (show¬((k:Int)∈A.getD i []/\(j:Int)∈A.getD k []) from fun h=>rY h.2)]at hW,oW,rfl⟩
      ·simp -implicitDefEqProofs only[h3,sI,A0,h7,p8,oU,h8,nk,qq,ct,hwj,tN,gB,hg3,tQ,zR,AF,QR,hi,hk,kE,aw,bL,b6,b8,b9,sY,decide_false,go_sem];exact⟨Nat.le_refl _,m3,Nat.lt_succ_self _,j+1,A,by omega,by rwa[if_neg (show¬((k:Int)∈A.getD i []/\(j:Int)∈A.getD k []) from fun h=>sY h.1)]at hW,oW,rfl⟩
  | cons y post=>
   have hg:=aO encSp ao;have Ax:y∈cw P:=by rw[ao];simp
   have hw:=Xm cR y Ax;have cH:=hw.call;have dx:=tL P y Ax;have mq:∀J,(H++J)[0]? =_:=fun J=>(oW.app J).h0
   rw[<-Ec]at mq;have vI:∀J,(H++J)[1]? =_:=fun J=>(oW.app J).h1
   have Xq:∀J (i:Nat),i<P.procs.length->(H++J)[i+2]? =_:=fun J i hi=>(oW.app J).get hi
   obtain⟨⟨k,r,t,v,lb,⟨ek,en,es,aR⟩,a,b,p,ps⟩,pr,la⟩:=y;rw[iw]at hg;rw[wsF]at hW;have gO:=gO p;have kE:=k8 P.procs.length;by_cases Cu:0<=pr
   ·obtain⟨i,rfl⟩:∃i:Nat,pr=i:=⟨pr.toNat,by omega⟩;obtain⟨q,hq,_⟩:=hw.au i rfl;have dF:=(List.getElem?_eq_some_iff.1 hq).1;have Kq:=xq dF;have Xq:=fun J=>Xq J i dF
    have Vw:iD (i:Int) P.procs.length:=⟨by omega,by omega⟩;have nJ:decide ((0:Int)<=(i:Int))=true:=by simp
    have vp:decide ((i:Int)≥(0:Int))=true:=by simp
    by_cases h5:k=5
    ·subst h5;have u7:=(cH rfl).1;simp -implicitDefEqProofs only[h1,h3,jP,gu,j0,an ao,aa ao Cy,hg,mq,vI,Xq,Kq,Vw,nJ,vp,kE,dF,Nat.le_refl,Int.reduceEq,decide_true,aw,go_sem];repeat' (first | ((first | ((with_reducible refine bj gO ?_ ?_);(·simp[ae,al,cm])) | ((with_reducible apply cj);(·simp -implicitDefEqProofs only[List.map_cons,List.map_nil,push_cast,go_sem_proc]<;>rfl);(with_reducible exact gO);(·rfl)) | (with_reducible refine aD ?_));simp -implicitDefEqProofs only[h1,h3,jP,gu,j0,an ao,aa ao Cy,hg,mq,vI,Xq,Kq,Vw,nJ,vp,kE,dF,Int.reduceEq,decide_true,aw,bL,b8,b9,go_sem]) | (with_reducible refine aA.mk ?_ ?_) | (with_reducible refine And.intro ?_ ?_) | ((with_reducible refine bz ?_);simp -implicitDefEqProofs only[Kj,push_cast,go_sem_proc]) | intro _)
     ·exact Nat.le_refl _
     ·have hLM2:=(oW.app [ak.row [.agg [.int .i64 5,.str r,.str t,.str v,.str lb,.int .i64 ek,.int .i64 en,.str es,.fs (aR.map bu),.fs (a.map encS),.fs (b.map encS),.str p,.fs (ps.map .str),.int .i64 i,.bool la]]]).put i (procI P.procs p) dF;exact⟨_,Nat.lt_succ_self _,pre++ [_],post,q9 A i (procI P.procs p),by simp[ao];rfl,rfl,by rwa[if_pos (show(0:Int)<=(i:Int)/\(5:Int)=5 from⟨by omega,rfl⟩),Int.toNat_natCast]at hW,hLM2,by simp⟩
    ·simp -implicitDefEqProofs only[h1,h3,jP,gu,j0,an ao,aa ao Cy,hg,nJ,vp,h5,decide_false,go_sem];refine⟨_,Nat.lt_succ_self _,pre++ [_],post,A,by simp[ao];rfl,rfl,by rwa[if_neg (show¬((0:Int)<=(i:Int)/\k=5) from fun h=>h5 h.2)]at hW,oW.app _,by simp⟩
   ·have nJ:decide ((0:Int)<=pr)=false:=by simp;omega
    have vp:decide (pr≥(0:Int))=false:=by simp;omega
    simp -implicitDefEqProofs only[h1,h3,jP,gu,j0,an ao,aa ao Cy,hg,nJ,vp,go_sem];refine⟨_,Nat.lt_succ_self _,pre++ [_],post,A,by simp[ao];rfl,rfl,by rwa[if_neg (show¬((0:Int)<=pr/\k=5) from fun h=>Cu h.1)]at hW,oW.app _,by simp⟩
end Go.Proofs.YtdgoeblpcnjlbaaGreatDoor.Av

/- ReadsFound. Text 16 of 17. -/
import Derived.Shelf.Small.Strs
import Derived.Shelf.SlicesG.Cmp
import Derived.Shelf.SlicesQ.Equal
import Derived.Shelf.SlSortCmp.WholeK
import Derived.Ground.NamesProg
import Derived.Ground.SlgcProg
import Derived.Ground.SlgqProg
import Derived.Ground.SlsfProg
import Derived.Test.YtdgoeblpcnjlbaaGreatDoorProg
import Derived.Laws.StructEq
import Derived.Deep.RegionHeld3
import Derived.Shelf.SlSortCmp.NoneTotal
import Derived.Shelf.SlIterI.Collect
import Derived.Test.YtdgoeblpcnjlbaaGreatDoorM15
set_option linter.all false
set_option maxRecDepth 100000
set_option maxHeartbeats 64000000
namespace Go.Proofs.YtdgoeblpcnjlbaaGreatDoor.Av
open Go.RowKit Go.Sort List
theorem t266 (X:List Pr) (F:List Int) (i a b o:Nat) (hao:a≠o) (Ig:b≠o) (hF:F.length=X.length) (hi:i<F.length):∀(m:Nat) (xs:List St),SizeOf.sizeOf xs<m->
 ∀(la:Bool) (n:Int) (H:List ak) (kv:V) (acc:List Int),DP o H kv H kv (acc.map (.int .i64))->DI F i a b H kv->acc.length+ai xs<=1000000->
 av Tryz.prog 97 [.fs ((num xs n).map (cb X)),.bool la,.a6 98 [] [.ptr a 0 0,.ptr b 0 0,.ptr o 0 0]] H (fun r H'=>r=.dJ []/\∃bN,DP o H kv H' bN ((acc++dqL X F i xs la n).map (.int .i64)))
 | 0,xs,h=>absurd h (Nat.not_lt_zero _)
 | m+1,xs,hm=>fun la n H kv acc hd hI yV=>t266s X F i a b o hao Ig hF hi xs (fun k r t v l e sa sb p ps da la n H kv acc hd hI=>by
  have hs:=List.sizeOf_lt_of_mem da;simp only[St.mk.sizeOf_spec]at hs;exact⟨fun h=>t266 X F i a b o hao Ig hF hi m sa (by omega) la n H kv acc hd hI h,fun h=>t266 X F i a b o hao Ig hF hi m sb (by omega) la n H kv acc hd hI h⟩) la n H kv acc hd hI yV
theorem t223 (P:bH) (hc:total P<=1000000) (ew:P.procs.length<=1000000):af Tryz.prog 30 [aP P] (·=if rE P=0 then .dJ [.fs ((dpF P.procs (cw P) 0).map (.int .i64)),.int .i64 0]else .dJ [.fs [],.int .i64 (rE P)]):=by
 have k9:=t229 P hc ew;rw[T9]at k9;simp only[aP]at k9⊢;by_cases h0:rE P=0
 ·rw[if_pos h0]at k9⊢;have dx:AN P:=AP (by rw[<-yR];exact h0);have h241:=t241 P ew (bY P.procs);have Ec:ae (fy P (bY P.procs))=true:=by
   simp[fy,lE,al,ae,aq,ah,aY,br,ee (eG _ _ _)]
  have hT:total P=ai P.main+bD P.procs:=rfl;have l6:=cT P.procs P.procs (ai P.main);have hbat:=mX P;have hb3:(fy P (bY P.procs)).getD 3 .any=.fs (eF P.procs P.procs (ai P.main)):=rfl;rw[dp_spots];refine af.intro c223 600 (by simp) 20 ?_;simp -implicitDefEqProofs only[s223,go_sem];repeat' (first | ((first | ((with_reducible refine bj k9 ?_ ?_);(·simp[ae,al,cm,aq,ah,Ec])) | ((with_reducible apply cj);(·simp -implicitDefEqProofs only[List.map_cons,List.map_nil,aq,ah,Ec,push_cast,go_sem_proc]<;>rfl);(with_reducible exact k9);(·rfl)) | (with_reducible refine aD ?_));simp -implicitDefEqProofs only[Int.reduceEq,go_sem]) | (with_reducible refine aA.mk ?_ ?_) | (with_reducible refine And.intro ?_ ?_) | ((with_reducible refine bz ?_);simp -implicitDefEqProofs only[r223,push_cast,go_sem_proc]) | intro _)
  refine gJ (by simp[ae,al,Ec]) h241 ?_;rintro r ⟨F,rfl,hF⟩;have jU:=hF.len;have GC:fy P (bY P.procs)=[.fs (P.procs.map aF),.fs (P.main.map encS),.fs ((num P.main 0).map (cb P.procs)),.fs (eF P.procs P.procs (ai P.main)),.fs ((bY P.procs).map .bool)]:=rfl;rw[GC]at*;generalize DM:eF P.procs P.procs (ai P.main)=BL at*;simp -implicitDefEqProofs only[go_sem];intro hlen;have hmid:∀(pre:List Pr) (q:Pr) (post:List Pr),P.procs=pre++q::post->BL.getD pre.length .any=.fs ((num q.steps ((ai P.main:Int)+bD pre)).map (cb P.procs)):=fun pre q post ao=>by
   rw[hbat _ (by rw[ao];simp)];have e1:aK P.procs pre.length=q.steps:=by unfold aK;rw[ao];simp
   have e2:dc P pre.length=(ai P.main:Int)+bD pre:=by unfold dc;rw[ao];simp
   rw[e1,e2]
  rw[l6]at hlen⊢;refine aL (fun m e H=>∃pre post kv,P.procs=pre++post/\m=post.length/\e 7=.ptr 1 0 0/\e 8=.ptr 2 0 0/\e 27=.fs BL/\e 28=.int .i64 P.procs.length/\e 29=.int .i64 pre.length/\
   H[1]? =some (.row [.fs (F.map (.int .i64))])/\H[2]? =some (.row [kv])/\a7 kv 1/\a7 kv 2/\OV H kv ((dpF P.procs (spP pre 0) (ai P.main)).map (.int .i64))) P.procs.length
   ⟨[],P.procs,.ag,rfl,rfl,by simp[az,aC],by simp[az,aC],by simp[az,aC],by simp[az,aC],by simp[az,aC],rfl,rfl,(fun a b h=>by cases h),(fun a b h=>by cases h),.inl ⟨by simp[dpF,spP],rfl⟩⟩ ?_
  rintro m e H ⟨pre,post,kv,ao,rfl,h7,h8,j0,vT,oR,vI,Yc,iT,ir,bm⟩;have cP:=bm.one;have ba:=bm.cS;simp only[V.one]at ba;cases post with
  | nil=>
   have ev:pre=P.procs:=by rw[ao];simp
   rw[ev]at bm;have hrise:=(dpF_rise (X:=P.procs) (spP P.procs 0) (ai P.main)).2;have Qq:=dpF_len P.procs (spP P.procs 0) (ai P.main);rw[og]at Qq;have hz:=dw (f:=V.int .i64) (n:=17) (fun H x=>jZ _ _ _ x) bm;generalize dpF P.procs (spP P.procs 0) (ai P.main)=D at*;have h268:av Tryz.prog 99 [kv] H (bX (.dJ []) H):=by
    rcases bm with⟨hn,rfl⟩ | ⟨hn,id,rfl,hid⟩
    ·exact a268n
    ·rw[List.length_map]at*;exact a268 hid (by omega) (by rintro rfl;exact hn rfl) hrise
   simp -implicitDefEqProofs only[h7,h8,j0,vT,oR,aI ao,Yc,cP,ba,ne_eq,not_false_eq_true,fv,fK,Nat.reduceMul,go_sem];refine av.mono h268 ?_;rintro _ _ ⟨rfl,rfl⟩;simp -implicitDefEqProofs only[h7,h8,j0,vT,oR,Yc,cP,ba,ne_eq,not_false_eq_true,fv,fK,Nat.reduceMul,go_sem];simp -implicitDefEqProofs only[r223,hz,ne_eq,not_false_eq_true,fv,fK,Nat.reduceMul,push_cast,go_sem_proc]
  | cons q post=>
   have hi:pre.length<P.procs.length:=by rw[ao];simp
   have hq:P.procs[pre.length]? =some q:=by rw[ao];simp
   have hg:=hmid pre q post ao;have hb:=dq_body dx hF hq (ai P.main+bD pre);have hsn:=dp_snoc P.procs pre q (ai P.main);have Qq:=dpF_len P.procs (spP pre 0) (ai P.main);rw[og]at Qq;have Am:bD pre+ai q.steps<=bD P.procs:=by rw[ao,bE,bD];omega
   rw[hb]at hsn;have e2:((ai P.main+bD pre:Nat):Int)=(ai P.main:Int)+bD pre:=by omega
   rw[e2]at hsn;have uN:=(List.getElem?_eq_some_iff.1 vI).1;have jf:=(List.getElem?_eq_some_iff.1 Yc).1;have hkb:a7 kv H.length:=fun x y hh=>by
    rcases bm with⟨_,h⟩ | ⟨_,id,h,h'⟩
    ·rw[hh]at h;cases h
    ·rw[hh]at h;injection h with h;subst h;exact absurd (List.getElem?_eq_some_iff.1 h').1 (by omega)
   have hHb:∀v:V,(H++ [ak.row [v]]).set H.length (.row [.int .i64 pre.length])=H++ [ak.row [.int .i64 pre.length]]:=fun v=>by simp
   simp -implicitDefEqProofs only[h7,h8,j0,vT,oR,an ao,aa ao hlen,hg,hHb,ne_eq,not_false_eq_true,fv,fK,Nat.reduceMul,go_sem];have hd:DP 2 (H++ [ak.row [.int .i64 pre.length]]) kv (H++ [ak.row [.int .i64 pre.length]]) kv ((dpF P.procs (spP pre 0) (ai P.main)).map (.int .i64)):=
    DP.refl (by rw[List.getElem?_append_left jf];exact Yc) (bm.app _) ir
   have hI:DI F pre.length 1 H.length (H++ [ak.row [.int .i64 pre.length]]) kv:=⟨by rw[List.getElem?_append_left uN];exact vI,by simp,iT,hkb⟩;refine⟨by omega,av.mono (t266 P.procs F pre.length 1 H.length 2 (by decide) (by omega) jU (by omega) _ q.steps (Nat.lt_succ_self _) true _ _ kv _ hd hI (by omega)) ?_⟩;rintro _ H' ⟨rfl,bN,sl⟩;have hf:=sl.fr 1 (by simp;omega) (by decide) iT;rw[List.getElem?_append_left uN]at hf;simp -implicitDefEqProofs only[h7,h8,j0,vT,oR,aa ao hlen,ne_eq,not_false_eq_true,fv,fK,Nat.reduceMul,go_sem];exact⟨post.length,Nat.lt_succ_self _,pre++ [q],post,bN,by simp[ao],rfl,by simp,hf.1.trans vI,sl.cell,hf.2,sl.no,by rw[hsn];exact sl.ov⟩
 ·rw[if_neg h0]at k9⊢;refine af.intro c223 600 (by simp) 20 ?_;simp -implicitDefEqProofs only[s223,go_sem];repeat' (first | ((first | ((with_reducible refine bj k9 ?_ ?_);(·simp[ae,al,cm,aq,ah])) | ((with_reducible apply cj);(·simp -implicitDefEqProofs only[List.map_cons,List.map_nil,aq,ah,push_cast,go_sem_proc]<;>rfl);(with_reducible exact k9);(·rfl)) | (with_reducible refine aD ?_));simp -implicitDefEqProofs only[h0,go_sem]) | (with_reducible refine aA.mk ?_ ?_) | (with_reducible refine And.intro ?_ ?_) | ((with_reducible refine bz ?_);simp -implicitDefEqProofs only[r223,push_cast,go_sem_proc]) | intro _)
end Go.Proofs.YtdgoeblpcnjlbaaGreatDoor.Av
namespace Go.Proofs
open Go.Shelf List
def Tryz.cmpS_ren:Go.Shelf.Ren:=⟨fun | 106=>96 | 213=>170 | 265=>213 | n=>n,fun | 9=>9 | 3=>3 | n=>n,fun | n=>n⟩
theorem Tryz.cmpS:Go.Proofs.Lays.n106 Tryz.prog Tryz.cmpS_ren:={
 mixed:=by kernel_rfl
 f106:=Tryz.func96.trans (congrArg some (by kernel_rfl))
 f213:=Tryz.func170.trans (congrArg some (by kernel_rfl))
 f265:=Tryz.func213.trans (congrArg some (by kernel_rfl))
 t3:=Tryz.underlying3
 a3:=Tryz.isAgg3
 z3:=Tryz.sizeOf3
 v3:=Tryz.zeroValue3
 t9:=Tryz.underlying9
 a9:=Tryz.isAgg9
 z9:=Tryz.sizeOf9
 v9:=Tryz.zeroValue9}
def Tryz.cmpI_ren:Go.Shelf.Ren:=⟨fun | 5=>95 | 7=>169 | n=>n,fun | 22=>3 | 3=>3 | 4=>4 | n=>n,fun | n=>n⟩
theorem Tryz.cmpI:Go.Proofs.SlLaysC2.n5 Tryz.prog Tryz.cmpI_ren:={
 mixed:=by kernel_rfl
 f5:=⟨Tryz.f95.name,by decide,Tryz.func95.trans (congrArg some (by kernel_rfl))⟩
 f7:=⟨Tryz.f169.name,by decide,Tryz.func169.trans (congrArg some (by kernel_rfl))⟩
 t3:=Tryz.underlying3
 a3:=Tryz.isAgg3
 z3:=Tryz.sizeOf3
 v3:=Tryz.zeroValue3
 t4:=Tryz.underlying4
 a4:=Tryz.isAgg4
 z4:=Tryz.sizeOf4
 v4:=Tryz.zeroValue4
 t22:=Tryz.underlying3
 a22:=Tryz.isAgg3
 z22:=Tryz.sizeOf3
 v22:=Tryz.zeroValue3}
def Tryz.sortE_ren:Go.Shelf.Ren:=⟨fun | 6=>92 | 15=>168 | 14=>167 | 28=>211 | 29=>212 | 20=>203 | 21=>204 | 22=>205 | 23=>206 | 24=>207 | 25=>208 | 26=>209 | 27=>210 | 46=>259 | 47=>260 | 48=>261 | 49=>262 | 50=>263 | 57=>281 | n=>n,fun | 22=>60 | 24=>70 | 25=>169 | 3=>3 | 39=>233 | 0=>0 | 53=>266 | 55=>268 | 4=>4 | 46=>259 | 45=>258 | 50=>263 | 5=>5 | 9=>9 | 66=>303 | 70=>198 | 76=>318 | 77=>319 | n=>n,fun | n=>n⟩
theorem Tryz.sortE:Go.Proofs.SlLaysF0.n6 Tryz.prog Tryz.sortE_ren:={
 mixed:=by kernel_rfl
 f6:=⟨Tryz.f92.name,by decide,Tryz.func92.trans (congrArg some (by kernel_rfl))⟩
 f14:=⟨Tryz.f167.name,by decide,Tryz.func167.trans (congrArg some (by kernel_rfl))⟩
 f15:=Tryz.func168.trans (congrArg some (by kernel_rfl))
 f20:=⟨Tryz.f203.name,by decide,Tryz.func203.trans (congrArg some (by kernel_rfl))⟩
 f21:=⟨Tryz.f204.name,by decide,Tryz.func204.trans (congrArg some (by kernel_rfl))⟩
 f22:=⟨Tryz.f205.name,by decide,Tryz.func205.trans (congrArg some (by kernel_rfl))⟩
 f23:=⟨Tryz.f206.name,by decide,Tryz.func206.trans (congrArg some (by kernel_rfl))⟩
 f24:=⟨Tryz.f207.name,by decide,Tryz.func207.trans (congrArg some (by kernel_rfl))⟩
 f25:=⟨Tryz.f208.name,by decide,Tryz.func208.trans (congrArg some (by kernel_rfl))⟩
 f26:=⟨Tryz.f209.name,by decide,Tryz.func209.trans (congrArg some (by kernel_rfl))⟩
 f27:=⟨Tryz.f210.name,by decide,Tryz.func210.trans (congrArg some (by kernel_rfl))⟩
 f28:=Tryz.func211.trans (congrArg some (by kernel_rfl))
 f29:=Tryz.func212.trans (congrArg some (by kernel_rfl))
 f46:=⟨Tryz.f259.name,by decide,Tryz.func259.trans (congrArg some (by kernel_rfl))⟩
 f47:=Tryz.func260.trans (congrArg some (by kernel_rfl))
 f48:=Tryz.func261.trans (congrArg some (by kernel_rfl))
 f49:=⟨Tryz.f262.name,by decide,Tryz.func262.trans (congrArg some (by kernel_rfl))⟩
 f50:=⟨Tryz.f263.name,by decide,Tryz.func263.trans (congrArg some (by kernel_rfl))⟩
 f57:=⟨Tryz.f281.name,by decide,Tryz.func281.trans (congrArg some (by kernel_rfl))⟩
 t0:=Tryz.underlying0
 a0:=Tryz.isAgg0
 z0:=Tryz.sizeOf0
 v0:=Tryz.zeroValue0
 t3:=Tryz.underlying3
 a3:=Tryz.isAgg3
 z3:=Tryz.sizeOf3
 v3:=Tryz.zeroValue3
 t4:=Tryz.underlying4
 a4:=Tryz.isAgg4
 z4:=Tryz.sizeOf4
 v4:=Tryz.zeroValue4
 t5:=Tryz.underlying5
 a5:=Tryz.isAgg5
 z5:=Tryz.sizeOf5
 v5:=Tryz.zeroValue5
 t9:=Tryz.underlying9
 a9:=Tryz.isAgg9
 z9:=Tryz.sizeOf9
 v9:=Tryz.zeroValue9
 t22:=Tryz.underlying60
 a22:=Tryz.isAgg60
 z22:=Tryz.sizeOf60
 v22:=Tryz.zeroValue60
 t25:=Tryz.underlying169
 a25:=Tryz.isAgg169
 z25:=Tryz.sizeOf169
 v25:=Tryz.zeroValue169
 t39:=Tryz.underlying233
 a39:=Tryz.isAgg233
 z39:=Tryz.sizeOf233
 v39:=Tryz.zeroValue233
 t45:=Tryz.underlying258
 a45:=Tryz.isAgg258
 z45:=Tryz.sizeOf258
 v45:=Tryz.zeroValue258
 t46:=Tryz.underlying259
 a46:=Tryz.isAgg259
 z46:=Tryz.sizeOf259
 v46:=Tryz.zeroValue259
 t50:=Tryz.underlying263
 a50:=Tryz.isAgg263
 z50:=Tryz.sizeOf263
 v50:=Tryz.zeroValue263
 t53:=Tryz.underlying266
 a53:=Tryz.isAgg266
 z53:=Tryz.sizeOf266
 v53:=Tryz.zeroValue266
 t55:=Tryz.underlying268
 a55:=Tryz.isAgg268
 z55:=Tryz.sizeOf268
 v55:=Tryz.zeroValue268
 t66:=Tryz.underlying303
 a66:=Tryz.isAgg303
 z66:=Tryz.sizeOf303
 v66:=Tryz.zeroValue303
 t70:=Tryz.underlying198
 a70:=Tryz.isAgg198
 z70:=Tryz.sizeOf198
 v70:=Tryz.zeroValue198
 t76:=Tryz.underlying318
 a76:=Tryz.isAgg318
 z76:=Tryz.sizeOf318
 v76:=Tryz.zeroValue318
 t77:=Tryz.underlying319
 a77:=Tryz.isAgg319
 z77:=Tryz.sizeOf319
 v77:=Tryz.zeroValue319}
def Tryz.eqE_ren:Go.Shelf.Ren:=⟨fun | 8=>34 | n=>n,fun | 22=>60 | 24=>70 | 4=>4 | 3=>3 | 0=>0 | n=>n,fun | n=>n⟩
theorem Tryz.eqE:Go.Proofs.SlLaysQ.n8 Tryz.prog Tryz.eqE_ren:={
 mixed:=by kernel_rfl
 f8:=⟨Tryz.f34.name,by decide,Tryz.func34.trans (congrArg some (by kernel_rfl))⟩
 t0:=Tryz.underlying0
 a0:=Tryz.isAgg0
 z0:=Tryz.sizeOf0
 v0:=Tryz.zeroValue0
 t3:=Tryz.underlying3
 a3:=Tryz.isAgg3
 z3:=Tryz.sizeOf3
 v3:=Tryz.zeroValue3
 t4:=Tryz.underlying4
 a4:=Tryz.isAgg4
 z4:=Tryz.sizeOf4
 v4:=Tryz.zeroValue4
 t22:=Tryz.underlying60
 a22:=Tryz.isAgg60
 z22:=Tryz.sizeOf60
 v22:=Tryz.zeroValue60}
end Go.Proofs
namespace Go.Proofs
open Go.Shelf Go.RowKit Go.Lib Go.Sort List
def encEc (x:Int×ByteArray×ByteArray):List Value:=[.int .i64 x.1,.string x.2.1,.string x.2.2]
theorem Tryz.clos276 (x y:Int×ByteArray×ByteArray) (W:World) (hx:0<=x.1/\x.1<4611686018427387904) (hy:0<=y.1/\y.1<4611686018427387904):
 Calls Tryz.prog 107 #[.agg #[.int .i64 x.1,.string x.2.1,.string x.2.2],.agg #[.int .i64 y.1,.string y.2.1,.string y.2.2]] W fun e w'=>e=.returned (.int .i64 (if x.1≠y.1 then x.1 - y.1 else Lib.compareBytes x.2.2.data.toList y.2.2.data.toList))/\∃q os',w'=grow (W.drewN q) os':=by
 have hcon:=fun W'=>Any.strings_Compare Tryz.cmpS x.2.2 y.2.2 W'
 change∀W',Calls Tryz.prog 96 _ _ _ at hcon;generalize Lib.compareBytes x.2.2.data.toList y.2.2.data.toList=r at hcon⊢;obtain⟨a,b,c⟩:=x;obtain⟨a',b',c'⟩:=y;simp only at*;by_cases wQ:a=a'
 ·subst wQ;rw[if_neg (by simp)];go_enter Tryz.func107,Tryz.ntmps107
  go_wp2_with (go_at_call 96;refine(hcon _).mono ?_;rintro e w' ⟨rfl,rfl⟩)
  go_ret
  exact⟨rfl,0,_,by rw[alloc_eq_grow,alloc_eq_grow,grow_grow];rfl⟩
 ·rw[if_pos wQ];go_enter Tryz.func107,Tryz.ntmps107
  go_wp2
  go_ret
  exact⟨rfl,0,_,by rw[alloc_eq_grow,alloc_eq_grow,grow_grow];rfl⟩
theorem Tryz.or263 (b cap:Nat) (x y z:Int) (Ri:x≠0->z=x) (Ff:x=0->z=y) (w:World) (h0:w.cell? ⟨b,0,none⟩=some (.int .i64 x)) (h1:w.cell? ⟨b,1,none⟩=some (.int .i64 y)):
 Calls Tryz.prog 94 #[.slice (some ⟨b,0,none⟩) 2 cap] w fun e w'=>e=.returned (.int .i64 z)/\∃q,w'=w.drewN q:=by
 go_enter Tryz.func94,Tryz.ntmps94
 go_wp2
 go_loopg [8] 2 (fun g s8 wr=>∃kk:Nat,kk<=2/\2 - kk<=g/\s8=.int .i64 kk/\wr=w/\(0<kk->x=0)/\(1<kk->y=0))
 case atStart=>exact⟨0,by omega,by omega,rfl,rfl,fun h=>absurd h (by decide),fun h=>absurd h (by decide)⟩
 case round=>
  obtain⟨kk,uk,hg,rfl,rfl,A1,A2⟩:=hrel;obtain rfl | rfl | rfl:kk=0\/kk=1\/kk=2:=by omega
  ·clear A1 A2;by_cases hx:x=0
   ·subst hx;go_wp2
    go_roundg 1
    case measure=>omega
    case rel=>exact⟨1,by omega,by omega,by go_num,rfl,by simp,by simp⟩
   ·go_wp2
    go_ret
    exact⟨congrArg (fun v=>Ending.returned (.int .i64 v)) (Ri hx).symm,0,rfl⟩
  ·have hx:=A1 (by decide);clear A1 A2;have hz:=Ff hx;clear Ri Ff;subst hx;by_cases hy:y=0
   ·subst hy;go_wp2
    go_roundg 0
    case measure=>omega
    case rel=>exact⟨2,by omega,by omega,by go_num,rfl,by simp,by simp⟩
   ·go_wp2
    go_ret
    exact⟨rfl,0,rfl⟩
  ·have hx:=A1 (by decide);have hy:=A2 (by decide);clear A1 A2;have hz:=Ff hx;clear Ri Ff;subst hx hy;go_wp2
   go_ret
   exact⟨rfl,0,rfl⟩
theorem Tryz.or263w (x y z:Int) (Ri:x≠0->z=x) (Ff:x=0->z=y) (W:World) (n:Nat) (hn:n=W.heap.size) (t:TypeId):
 Calls Tryz.prog 94 #[.slice (some ⟨n,0,none⟩) 2 2] (W.alloc (Obj.cells #[.int .i64 x,.int .i64 y] t)).drew fun e w'=>e=.returned (.int .i64 z)/\∃q,w'=((W.alloc (Obj.cells #[.int .i64 x,.int .i64 y] t)).drew).drewN q:=by
 subst hn;have hb:(W.alloc (Obj.cells #[.int .i64 x,.int .i64 y] t)).drew.heap[W.heap.size]? =some (Obj.cells #[.int .i64 x,.int .i64 y] t):=by
  show(W.heap.push _)[W.heap.size]? =_;simp
 exact Tryz.or263 _ _ _ _ _ Ri Ff _ (by simp only[World.cell?,hb];rfl) (by simp only[World.cell?,hb];rfl)
theorem Tryz.two_boxes (W:World) (a a':Int) (b c b' c':ByteArray) (t:TypeId) (W2:World) (h:W2=(W.alloc (Obj.cells #[.int .i64 a,.string b,.string c] t)).alloc (Obj.cells #[.int .i64 a',.string b',.string c'] t)):
 W2.heap.size=W.heap.size+2/\W2.cell? ⟨W.heap.size,0,none⟩=some (.int .i64 a)/\W2.cell? ⟨W.heap.size,2,none⟩=some (.string c)/\W2.cell? ⟨W.heap.size+1,0,none⟩=some (.int .i64 a')/\W2.cell? ⟨W.heap.size+1,2,none⟩=some (.string c'):=by
 subst h;have hb:((W.alloc (Obj.cells #[.int .i64 a,.string b,.string c] t)).alloc (Obj.cells #[.int .i64 a',.string b',.string c'] t)).heap[W.heap.size]? =some (Obj.cells #[.int .i64 a,.string b,.string c] t):=by
  show((W.heap.push _).push _)[W.heap.size]? =_;simp[Array.getElem?_push]
 have IY:((W.alloc (Obj.cells #[.int .i64 a,.string b,.string c] t)).alloc (Obj.cells #[.int .i64 a',.string b',.string c'] t)).heap[W.heap.size+1]? =some (Obj.cells #[.int .i64 a',.string b',.string c'] t):=
  (congrArg (fun i=>((W.heap.push (Obj.cells #[.int .i64 a,.string b,.string c] t)).push (Obj.cells #[.int .i64 a',.string b',.string c'] t))[i]?) (Array.size_push _).symm).trans Array.getElem?_push_size
 refine⟨?_,?_,?_,?_,?_⟩
 ·show((W.heap.push _).push _).size=_;simp
 all_goals (simp only[World.cell?,hb,IY];rfl)
theorem Tryz.clos262 (x y:Int×ByteArray×ByteArray) (W:World) (hx:0<=x.1/\x.1<4611686018427387904) (hy:0<=y.1/\y.1<4611686018427387904):
 Calls Tryz.prog 93 #[.agg #[.int .i64 x.1,.string x.2.1,.string x.2.2],.agg #[.int .i64 y.1,.string y.2.1,.string y.2.2]] W fun e w'=>e=.returned (.int .i64 (if Lib.compareInt x.1 y.1≠0 then Lib.compareInt x.1 y.1 else Lib.compareBytes x.2.2.data.toList y.2.2.data.toList))/\∃q os',w'=grow (W.drewN q) os':=by
 have hcon:=fun W'=>Any.strings_Compare Tryz.cmpS x.2.2 y.2.2 W'
 change∀W',Calls Tryz.prog 96 _ _ _ at hcon;generalize Lib.compareBytes x.2.2.data.toList y.2.2.data.toList=r at hcon⊢;have hcoi:=fun W'=>AnyG.cmp_Compare_int Tryz.cmpI x.1 y.1 W'
 change∀W',Calls Tryz.prog 95 _ _ _ at hcoi;generalize Lib.compareInt x.1 y.1=s at hcoi⊢;obtain⟨a,b,c⟩:=x;obtain⟨a',b',c'⟩:=y;simp only at*;obtain⟨z,hz⟩:∃z,z=if s≠0 then s else r:=⟨_,rfl⟩
 rw[<-hz];have Ri:s≠0->z=s:=fun h=>by rw[hz,if_pos h]
 have Ff:s=0->z=r:=fun h=>by rw[hz,if_neg (by simp[h])]
 clear hz;go_enter Tryz.func93,Tryz.ntmps93
 go_wp2
 have mixed:=Tryz.cmpI.mixed;obtain⟨eW,k1,k2,k3,k4⟩:=Tryz.two_boxes W a a' b c b' c' 70 _ rfl;have hgr:∃q os',(W.alloc (Obj.cells #[.int .i64 a,.string b,.string c] 70)).alloc (Obj.cells #[.int .i64 a',.string b',.string c'] 70)=grow (W.drewN q) os':=⟨0,_,by rw[alloc_eq_grow,alloc_eq_grow,grow_grow];rfl⟩;generalize (W.alloc (Obj.cells #[.int .i64 a,.string b,.string c] 70)).alloc (Obj.cells #[.int .i64 a',.string b',.string c'] 70)=W2 at*;go_region_held3 (fun w'=>w'.cell? ⟨W.heap.size,0,none⟩=some (.int .i64 a)/\w'.cell? ⟨W.heap.size,2,none⟩=some (.string c)/\w'.cell? ⟨W.heap.size+1,0,none⟩=some (.int .i64 a')/\w'.cell? ⟨W.heap.size+1,2,none⟩=some (.string c')) (go_keep) (first
  | (go_at_call 95;refine(hcoi _).mono ?_;rintro e w' ⟨rfl,rfl⟩)
  | (go_at_call 96;refine(hcon _).mono ?_;rintro e w' ⟨rfl,rfl⟩)
  | (go_at_call 94;refine(Tryz.or263w _ _ z Ri Ff _ _ eW.symm _).mono ?_;rintro e w' ⟨rfl,q,rfl⟩))
 go_wp2
 go_ret
 obtain⟨q0,os0,rfl⟩:=hgr;refine⟨rfl,q0+(1+q),os0++ #[Obj.cells #[Value.int IntKind.i64 s,Value.int IntKind.i64 r] 3],?_⟩;rw[alloc_eq_grow,grow_grow];show grow ((W.drewN q0).drewN (1+q)) _=_;rw[World.drewN_drewN]
end Go.Proofs
namespace Go.Proofs
open Go.Shelf Go.RowKit Go.Lib Go.Sort List
theorem cb_refl:∀a:List UInt8,compareBytes a a=0
 | []=>rfl
 | x::l=>by simp[compareBytes,cb_refl l]
theorem cb_eq:∀a b:List UInt8,compareBytes a b=0->a=b
 | [],[],_=>rfl
 | [],_::_,h=>by simp[compareBytes]at h
 | _::_,[],h=>by simp[compareBytes]at h
 | x::l,y::m,h=>by
  simp only[compareBytes]at h;split at h
  ·cases h
  ·split at h
   ·cases h
   ·rename_i h1 h2;have:x=y:=UInt8.le_antisymm (UInt8.not_lt.1 h2) (UInt8.not_lt.1 h1);rw[this,cb_eq l m h]
theorem cb_neg:∀a b:List UInt8,compareBytes a b= - compareBytes b a
 | [],[]=>rfl
 | [],_::_=>rfl
 | _::_,[]=>rfl
 | x::l,y::m=>by
  simp only[compareBytes];rw[cb_neg l m];by_cases h1:x<y
  ·have h2:¬y<x:=fun h=>absurd (UInt8.lt_trans h1 h) (UInt8.lt_irrefl _)
   simp[h1,h2]
  ·by_cases h2:y<x
   ·simp[h1,h2]
   ·simp[h1,h2]
theorem cb_trans:∀a b c:List UInt8,compareBytes a b<0->compareBytes b c<0->compareBytes a c<0
 | [],[],_,h,_=>by simp[compareBytes]at h
 | [],_::_,[],_,h=>by simp[compareBytes]at h
 | [],_::_,_::_,_,_=>by simp[compareBytes]
 | _::_,[],_,h,_=>by simp[compareBytes]at h
 | _::_,_::_,[],_,h=>by simp[compareBytes]at h
 | x::l,y::m,z::n,h1,h2=>by
  simp only[compareBytes]at h1 h2⊢;by_cases hxy:x<y
  ·by_cases hyz:y<z
   ·rw[if_pos (UInt8.lt_trans hxy hyz)];decide
   ·rw[if_neg hyz]at h2;by_cases hzy:z<y
    ·rw[if_pos hzy]at h2;exact absurd h2 (by decide)
    ·have:y=z:=UInt8.le_antisymm (UInt8.not_lt.1 hzy) (UInt8.not_lt.1 hyz);rw[<-this,if_pos hxy];decide
  ·rw[if_neg hxy]at h1;by_cases hyx:y<x
   ·rw[if_pos hyx]at h1;exact absurd h1 (by decide)
   ·rw[if_neg hyx]at h1;have:x=y:=UInt8.le_antisymm (UInt8.not_lt.1 hyx) (UInt8.not_lt.1 hxy);subst this;by_cases hyz:x<z
    ·rw[if_pos hyz];decide
    ·rw[if_neg hyz]at h2⊢;by_cases hzy:z<x
     ·rw[if_pos hzy]at h2;exact absurd h2 (by decide)
     ·rw[if_neg hzy]at h2⊢;exact cb_trans l m n h1 h2
def cbB (a b:ByteArray):Int:=compareBytes a.data.toList b.data.toList
theorem cbB_eq {a b:ByteArray} (h:cbB a b=0):a=b:=by
 have:=cb_eq _ _ h;cases a;cases b;simp only at this;rw[Array.toList_inj.1 this]
abbrev EaR:=Int×ByteArray×ByteArray
def ltE (x y:EaR):Bool:=decide (x.1<y.1\/(x.1=y.1/\cbB x.2.2 y.2.2<0))
theorem ltE_irrefl (x:EaR):ltE x x=false:=by
 simp[ltE,cbB,cb_refl]
theorem ltE_trans (x y z:EaR) (h1:ltE x y=true) (h2:ltE y z=true):ltE x z=true:=by
 simp only[ltE,decide_eq_true_eq]at*;rcases h1 with h1 | ⟨h1,h3⟩<;>rcases h2 with h2 | ⟨h2,h4⟩
 ·exact .inl (by omega)
 ·exact .inl (by omega)
 ·exact .inl (by omega)
 ·exact .inr ⟨by omega,cb_trans _ _ _ h3 h4⟩
theorem ltE_tri (x y:EaR):ltE x y=true\/ltE y x=true\/(x.1=y.1/\x.2.2=y.2.2):=by
 simp only[ltE,decide_eq_true_eq];by_cases h:x.1=y.1
 ·have hn:cbB x.2.2 y.2.2= - cbB y.2.2 x.2.2:=cb_neg _ _;by_cases h0:cbB x.2.2 y.2.2=0
  ·exact .inr (.inr ⟨h,cbB_eq h0⟩)
  ·by_cases h1:cbB x.2.2 y.2.2<0
   ·exact .inl (.inr ⟨h,h1⟩)
   ·exact .inr (.inl (.inr ⟨h.symm,by omega⟩))
 ·by_cases h1:x.1<y.1
  ·exact .inl (.inl h1)
  ·exact .inr (.inl (.inl (by omega)))
theorem ltE_same {x y z:EaR} (h:x.1=y.1/\x.2.2=y.2.2):ltE x z=ltE y z/\ltE z x=ltE z y:=by
 simp[ltE,h.1,h.2]
theorem ltE_swo:SWO ltE where
 irrefl:=ltE_irrefl
 trans:=ltE_trans
 ntrans x y z h1 h2:=by
  rcases ltE_tri x y with h | h | h
  ·rw[h1]at h;cases h
  ·rcases ltE_tri y z with g | g | g
   ·rw[h2]at g;cases g
   ·cases hxz:ltE x z with
    | false=>rfl
    | true=>have:=ltE_trans _ _ _ hxz (ltE_trans _ _ _ g h);rw[ltE_irrefl]at this;cases this
   ·cases hxz:ltE x z with
    | false=>rfl
    | true=>rw[<-(ltE_same (z:=x) g).2,h1]at hxz;cases hxz
  ·rw[(ltE_same (z:=z) h).1];exact h2
abbrev EaT:={x:EaR // 0<=x.1/\x.1<4611686018427387904}
instance instEaT:Inhabited EaT:=⟨⟨(0,⟨#[]⟩,⟨#[]⟩),by decide⟩⟩
def encEt (x:EaT):List Value:=encEc x.1
def cf262 (x y:EaT):Int:=if Lib.compareInt x.1.1 y.1.1≠0 then Lib.compareInt x.1.1 y.1.1 else Lib.compareBytes x.1.2.2.data.toList y.1.2.2.data.toList
def cf276 (x y:EaT):Int:=if x.1.1≠y.1.1 then x.1.1 - y.1.1 else Lib.compareBytes x.1.2.2.data.toList y.1.2.2.data.toList
theorem lt262:ltOf cf262=fun x y:EaT=>ltE x.1 y.1:=by
 funext x y
 simp only[ltOf,cf262,ltE,cbB,Lib.compareInt];by_cases h:x.1.1<y.1.1
 ·simp[h]
 ·by_cases h2:y.1.1<x.1.1
  ·have:¬x.1.1=y.1.1:=by omega
   simp[h,h2,this]
  ·have:x.1.1=y.1.1:=by omega
   simp[this]
theorem lt276:ltOf cf276=fun x y:EaT=>ltE x.1 y.1:=by
 funext x y
 simp only[ltOf,cf276,ltE,cbB];by_cases h:x.1.1=y.1.1
 ·simp[h]
 ·simp only[h,ne_eq,not_false_iff,if_true];refine decide_eq_decide.2 ?_;constructor
  ·intro g;exact .inl (by omega)
  ·rintro(g | ⟨g,_⟩)
   ·omega
   ·exact absurd g (by simp)
theorem swoT:SWO (fun x y:EaT=>ltE x.1 y.1):=⟨fun x=>ltE_swo.irrefl _,fun x y z=>ltE_swo.trans _ _ _,fun x y z=>ltE_swo.ntrans _ _ _⟩
theorem cmpLays262 (dI off size:Nat) (w:World):CmpLays Tryz.prog 93 #[] encEt 3 cf262 dI off size w:=
 fun _ _ _ _ x y=>Tryz.clos262 x.1 y.1 _ x.2 y.2
theorem cmpLays276 (dI off size:Nat) (w:World):CmpLays Tryz.prog 107 #[] encEt 3 cf276 dI off size w:=
 fun _ _ _ _ x y=>Tryz.clos276 x.1 y.1 _ x.2 y.2
end Go.Proofs
namespace Go.Proofs
open Go.Shelf Go.RowKit Go.Lib Go.Sort List
def eqEb (x y:EaR):Bool:=x.1==y.1 && (x.2.1.toList==y.2.1.toList && x.2.2.toList==y.2.2.toList)
theorem neq70:NeqAt Tryz.prog 70 (fun x:EaR=> .agg (encEc x).toArray) eqEb:=by
 refine⟨fun x y w=> ?_,GuardAt.agg _ (by kernel_rfl)⟩;have u3:=Tryz.underlying3;have u9:=Tryz.underlying9;have hS:Tryz.prog.underlying 70=some (.struct (Tryz.prog.fieldsOf 70)):=by kernel_rfl
 have hp:Tryz.prog.stoodInHeld 70=false:=by kernel_rfl
 simp only[encEc];rw[run_neq_struct,show(10000:Nat)=9999+1 from rfl,run_equalIn_agg w 9999 70 _ _ hS hp];simp only[Program.fieldsOf,Tryz.underlying70];go_simp
 unfold eqEb
 by_cases h1:x.fst=y.fst<;>by_cases h2:x.snd.fst.toList=y.snd.fst.toList<;>by_cases h3:x.snd.snd.toList=y.snd.snd.toList<;>simp[h1,h2,h3]
theorem Tryz.eq227z (a1 a2:Option Addr) (c d:Nat) (w:World):
 Calls Tryz.prog 34 #[.slice a1 0 c,.slice a2 0 d] w fun e w'=>e=.returned (.bool true)/\∃q,w'=w.drewN q:=by
 go_enter Tryz.func34,Tryz.ntmps34
 go_wp2
 refine wp_loop_rounds 1 ?_;rw[rounds_succ];go_wp2
 go_ret
 exact⟨rfl,0,rfl⟩
end Go.Proofs
namespace Go.Proofs.YtdgoeblpcnjlbaaGreatDoor.Av
open Go.RowKit Go.Lib Go.Sort List
def encEa (x:EaR):V:=.agg [.int .i64 x.1,.str x.2.1,.str x.2.2]
theorem below_drewN (w:World) (q:Nat):Below w.heap.size w (w.drewN q):=⟨rfl,rfl,rfl,Nat.le_refl _,fun _ _=>rfl⟩
theorem ea_cells {B:List Pl} {I:IM} {g:Nat->Option Value} {o sz:Nat} {l:List EaR} (h:bK B I (l.map encEa) g sz o) (i:Nat) (x:EaR) (hi:l[i]? =some x):
 sz=3/\(∀j v,(encEc x)[j]? =some v->g (o+i*3+j)=some v)/\x.2.1.size<=maxLen/\x.2.2.size<=maxLen:=by
 rw[ch]at h;obtain⟨h1,h2⟩:=h i (encEa x) (by rw[List.getElem?_map,hi];rfl);have hz:sz=3:=by rw[<-h1];rfl
 subst hz;obtain⟨v0,g0,r0⟩:=h2 0 (.int .i64 x.1) rfl;obtain⟨v1,g1,r1⟩:=h2 1 (.str x.2.1) rfl;obtain⟨v2,g2,r2⟩:=h2 2 (.str x.2.2) rfl;simp only[aU]at r0 r1 r2;refine⟨rfl,fun j v hj=> ?_,r1.2,r2.2⟩;have Ds:j<3:=(List.getElem?_eq_some_iff.1 hj).1;obtain rfl | rfl | rfl:j=0\/j=1\/j=2:=by omega
 ·simp only[encEc,List.getElem?_cons_zero]at hj;rw[g0,r0,<-hj]
 ·simp only[encEc,List.getElem?_cons_succ,List.getElem?_cons_zero]at hj;rw[g1,r1.1,<-hj]
 ·simp only[encEc,List.getElem?_cons_succ,List.getElem?_cons_zero]at hj;rw[g2,r2.1,<-hj]
theorem t227r (l:List EaR):af Tryz.prog 34 [.fs (l.map encEa),.fs (l.map encEa)] (·=.bool true):=by
 refine⟨by kernel_rfl,fun I w args l4 hr=> ?_⟩;simp only[aV,aU]at hr;obtain⟨v1,l1,eD,⟨a1,c1,rfl,cP,oM,h1⟩,v2,l2,rfl,⟨a2,c2,rfl,j8,hm2,h2⟩,rfl⟩:=hr;rw[List.length_map]at*;have gU:args= #[.slice a1 l.length c1,.slice a2 l.length c2]:=by cases args;simp_all
 subst gU;have key:Calls Tryz.prog 34 #[.slice a1 l.length c1,.slice a2 l.length c2] w fun e w'=>e=.returned (.bool true)/\∃q,w'=w.drewN q:=by
  by_cases hl:l=[]
  ·subst hl;exact Tryz.eq227z _ _ _ _ w
  ·have hl':l.map encEa≠ []:=by simpa using hl
   obtain⟨b1,o1,s1,rfl,e1⟩:=h1.resolve_left hl';obtain⟨b2,o2,s2,rfl,e2⟩:=h2.resolve_left hl';have cr:∀{b o s:Nat},bK [] I (l.map encEa) (jD I b) s o->∀j,j<l.length->∀i v,(encEc l[j]!)[i]? =some v->w.cell? ⟨b,o+j*3+i,none⟩=some v:=by
    intro b o s he j hj i v hv;obtain⟨_,hh,_⟩:=ea_cells he j l[j]! (by rw[getElem!_pos l j hj];exact List.getElem?_eq_getElem hj);have:=hh i v hv;unfold jD at this
    split at this
    ·rename_i c t z hI;have h1:=l4 _ _ hI;simp only[World.cell?,h1];exact this
    ·cases this
   have rX:l.length<=9223372036854775807:=by unfold maxLen at*;omega
   have:=AnyQ.slices_Equal Tryz.eqE 3 Tryz.isAgg70 Tryz.sizeOf70 encEc (fun _=>rfl) eqEb neq70 b1 o1 l.length c1 b2 o2 l.length c2 l l w (Nat.le_refl _) (Nat.le_refl _) rX rX (cr e1) (cr e2);rw[allEq_all eqEb _ _ rfl (fun j _=>by simp[eqEb])]at this;exact this
 refine key.mono ?_;rintro e w' ⟨rfl,q,rfl⟩;exact⟨.bool true,.bool true,I,rfl,rfl,dY.refl _,fun b o h=>l4 b o h,fun b h1 h2=>absurd h1 h2,rfl,below_drewN w q⟩
end Go.Proofs.YtdgoeblpcnjlbaaGreatDoor.Av
namespace Go.Proofs.YtdgoeblpcnjlbaaGreatDoor.Av
open Go.RowKit Go.Lib Go.Sort List
theorem flat_at (d:Array EaT) (i j:Nat) (hi:i<d.size) (hj:j<3):(flatK encEt 3 d)[i*3+j]! =(encEt d[i]!)[j]! :=by
 rw[get_flatK _ _ _ _ (by omega),show(i*3+j) / 3=i by omega,show(i*3+j) % 3=j by omega]
theorem lift_ea:∀{l:List EaR},(∀x∈l,0<=x.1/\x.1<4611686018427387904)->∃L:List EaT,L.map (·.1)=l
 | [],_=>⟨[],rfl⟩
 | x::l,h=>by
  obtain⟨L,hL⟩:=lift_ea (fun y hy=>h y (List.mem_cons_of_mem _ hy));exact⟨⟨x,h x (List.mem_cons_self ..)⟩::L,by simp[hL]⟩
theorem a261 (g:Nat) (cf:EaT->EaT->Int) (ct:ltOf cf=fun x y=>ltE x.1 y.1) (hcmp:∀dI off size w,CmpLays Tryz.prog g #[] encEt 3 cf dI off size w)
 (eg:∀args w,(callFunc g args).run Tryz.prog w=.ok (.enter g args) w) {H:List ak} {bi:Nat} {l:List EaR} (hb:∀x∈l,0<=x.1/\x.1<4611686018427387904)
 (hH:H[bi]? =some (.row (l.map encEa))) (hl:l.length<=1000000000000) (hn:l≠ []):
 av Tryz.prog 92 [.ms bi 0 l.length,.a6 g [] []] H (fun r H'=>r=.dJ []/\∃m:List EaR,m.Perm l/\m.Pairwise (fun x y=>ltE y x=false)/\H'=H.set bi (.row (m.map encEa))):=by
 obtain⟨L,rfl⟩:=lift_ea hb;refine⟨by kernel_rfl,fun f B I w args hs hr=> ?_⟩;simp only[aV,aU]at hr;obtain⟨v0,l0,eD,⟨p,a,cap,hp,rfl,ha,Ib,lA,VS⟩,v1,l1,rfl,⟨fs,cs,rfl,Ic,lI⟩,rfl⟩:=hr;have hfs':fs= #[]:=by cases fs;simp_all
 have hcs':cs= #[]:=by cases cs;simp_all
 subst hfs' hcs';rw[List.length_map]at*;have hLn:L≠ []:=by rintro rfl;exact hn rfl
 have gp:=List.length_pos_iff.2 hLn;have NW:=ha (by omega);subst NW;have gU:args= #[.slice (some ⟨p.dI,p.base,none⟩) L.length cap,.func (.func g) #[] #[]]:=by
  cases args;simp at eD;simp[eD]
 subst gU;obtain⟨carr,t,h1,h2,h3,h4⟩:=hs.ok bi p _ hp hH;obtain⟨UE,_,O4⟩:=hs.own bi p _ hp hH rfl;have hmz:∀(i:Nat) (x:EaT),L[i]? =some x->p.esz=3/\(∀j v,(encEc x.1)[j]? =some v->carr[p.base+i*3+j]? =some v)/\x.1.2.1.size<=maxLen/\x.1.2.2.size<=maxLen:=fun i x hi=>ea_cells h4 i x.1 (by rw[List.getElem?_map,hi];rfl)
 have hz:p.esz=3:=(hmz 0 L[0] (by simp[gp])).1;have eW:∀x∈L,x.1.2.1.size<=maxLen/\x.1.2.2.size<=maxLen:=fun x hx=>by
  obtain⟨i,hi⟩:=List.getElem?_of_mem hx;exact(hmz i x hi).2.2
 have hHo:HoldsK encEt 3 w p.dI p.base L.toArray:=by
  intro t ht;have Af:t<L.length*3:=by simpa using ht
  have e1:t=t / 3*3+t % 3:=by omega
  have e2:t / 3<L.length:=by omega
  rw[e1,flat_at _ _ _ (by simpa using e2) (by omega)];have Le:L[t / 3]? =some L[t / 3]:=List.getElem?_eq_getElem e2;have hv:(encEc L[t / 3].1)[t % 3]? =some (encEt L[t / 3])[t % 3]! :=by
   rw[getElem!_pos (encEt L[t / 3]) (t % 3) (by show t % 3<3;omega)];exact List.getElem?_eq_getElem _
  have:=(hmz _ _ Le).2.1 _ _ hv;have e3:L.toArray[t / 3]! =L[t / 3]:=by simp[e2]
  rw[e3];refine⟨?_,?_⟩
  ·simp only[World.cell?,h1,id];rw[<-Nat.add_assoc];exact this
  ·simp only[World.frozen?,h1];simp
 have hc:=AnyQ.slices_SortFunc Tryz.sortE 3 Tryz.isAgg70 Tryz.sizeOf70 encEt (fun _=>rfl) (fun x v hv=>by
  simp only[encEt,encEc,List.mem_cons,List.not_mem_nil,or_false]at hv;rcases hv with rfl | rfl | rfl<;>rfl) cf (by rw[ct];exact swoT) g #[] p.dI p.base cap L.toArray w eg (hcmp _ _ _ _) hHo O4 (by simp only[List.size_toArray];omega)
 rw[ct]at hc;refine hc.mono ?_;rintro e w' ⟨rfl,d',n,os,hperm,hsort,rfl⟩;obtain⟨q1,_,q3⟩:=hperm;have MJ:d'.size=L.length:=by simpa using q1
 have hP:d'.toList.Perm L:=by
  have e1:(d'.extract 0 L.toArray.size).toList=d'.toList:=by rw[show L.toArray.size=d'.size by rw[q1]];simp
  have e2:(L.toArray.extract 0 L.toArray.size).toList=L:=by simp
  rw[e1,e2]at q3;exact q3
 have da:∀i,i<L.length->d'[i]! ∈L:=fun i hi=>hP.mem_iff.1 (by rw[getElem!_pos d' i (by omega)];exact Array.getElem_mem_toList _)
 have hrr:=wm hs (id:Value->Value) (wz:=d'.toList.map fun x=>encEa x.1) hp hH (by simp[MJ]) (flatK encEt 3 d') (by
  rw[hz];intro i e hi;have dF:i<d'.size:=by have:=(List.getElem?_eq_some_iff.1 hi).1;simpa using this
  rw[List.getElem?_map,Array.getElem?_toList,Array.getElem?_eq_getElem dF]at hi;simp only[Option.map_some,Option.some.injEq]at hi;subst hi;have e1:d'[i]! =d'[i]:=getElem!_pos d' i dF;have hm:=eW _ (da i (by omega));rw[e1]at hm;refine⟨rfl,fun j c hj=> ?_⟩;have Ds:j<3:=(List.getElem?_eq_some_iff.1 hj).1;refine⟨by rw[size_flatK];omega,?_⟩;rw[flat_at _ _ _ dF Ds,e1];obtain rfl | rfl | rfl:j=0\/j=1\/j=2:=by omega
  ·obtain rfl:V.int .i64 d'[i].1.1=c:=by simpa[aw,encEa]using hj
   rfl
  ·obtain rfl:V.str d'[i].1.2.1=c:=by simpa[aw,encEa]using hj
   exact⟨rfl,hm.1⟩
  ·obtain rfl:V.str d'[i].1.2.2=c:=by simpa[aw,encEa]using hj
   exact⟨rfl,hm.2⟩) n os
 refine⟨.dJ [],_,_,B,I,rfl,⟨rfl,d'.toList.map (·.1),hP.map _,?_,rfl⟩,by rw[List.map_map];exact hrr,eA.refl _,dY.refl _,?_⟩
 ·rw[List.pairwise_map,List.pairwise_iff_getElem];intro i j hi hj rm;have:=hsort i j (Nat.zero_le _) rm (by simpa[MJ]using hj);simp only[Array.length_toList]at hi hj;rw[getElem!_pos d' i hi,getElem!_pos d' j hj]at this;simpa using this
 ·simp[aU,aV]
theorem a261n (g:Nat) {H:List ak}:av Tryz.prog 92 [.ag,.a6 g [] []] H (bX (.dJ []) H):=by
 refine⟨by kernel_rfl,fun f B I w args hs hr=> ?_⟩;simp only[aV,aU]at hr;obtain⟨v0,l0,eD,rfl,v1,l1,rfl,⟨fs,cs,rfl,Ic,lI⟩,rfl⟩:=hr;have gU:args= #[.slice none 0 0,.func (.func g) fs cs]:=by
  cases args;simp at eD;simp[eD]
 subst gU;refine(AnyF.slices_SortFunc_none Tryz.sortE none 0 _ w).mono ?_;rintro e w' ⟨rfl,rfl⟩;exact⟨.dJ [],_,H,B,I,rfl,⟨rfl,rfl⟩,hs,eA.refl _,dY.refl _,by simp[aU,aV]⟩
theorem eg262:∀args w,(callFunc 93 args).run Tryz.prog w=.ok (.enter 93 args) w:=enters_of Tryz.func93 (by kernel_rfl) rfl
theorem eg276:∀args w,(callFunc 107 args).run Tryz.prog w=.ok (.enter 107 args) w:=enters_of Tryz.func107 (by kernel_rfl) rfl
theorem a261o {H:List ak} {kv:V} {l:List EaR} (hb:∀x∈l,0<=x.1/\x.1<4611686018427387904) (bm:OV H kv (l.map encEa)) (hl:l.length<=1000000000000) (g:Nat) (hg:g=93\/g=107):
 av Tryz.prog 92 [kv,.a6 g [] []] H (fun r H'=>r=.dJ []/\∃m:List EaR,m.Perm l/\m.Pairwise (fun x y=>ltE y x=false)/\OV H' kv (m.map encEa)/\H.length<=H'.length/\∀j,a7 kv j->H'[j]? =H[j]?):=by
 rcases bm with⟨h1,rfl⟩ | ⟨h1,id,rfl,hid⟩
 ·refine(a261n g).mono ?_;rintro _ _ ⟨rfl,rfl⟩;have j5:l=[]:=by simpa using h1
  exact⟨rfl,[],by rw[j5],by simp,.inl ⟨rfl,rfl⟩,Nat.le_refl _,fun _ _=>rfl⟩
 ·rw[List.length_map]at*;have hn:l≠ []:=by rintro rfl;exact h1 rfl
  have key:av Tryz.prog 92 [.ms id 0 l.length,.a6 g [] []] H (fun r H'=>r=.dJ []/\∃m:List EaR,m.Perm l/\m.Pairwise (fun x y=>ltE y x=false)/\H'=H.set id (.row (m.map encEa))):=by
   rcases hg with rfl | rfl
   ·exact a261 93 cf262 lt262 cmpLays262 eg262 hb hid hl hn
   ·exact a261 107 cf276 lt276 cmpLays276 eg276 hb hid hl hn
  refine key.mono ?_;rintro r _ ⟨rfl,m,h2,h3,rfl⟩;refine⟨rfl,m,h2,h3,.inr ⟨?_,id,by rw[List.length_map,h2.length_eq],?_⟩,by simp,fun j hj=> ?_⟩
  ·intro h;have:m=[]:=by simpa using h
   subst this;exact hn h2.nil_eq.symm
  ·rw[List.getElem?_set_self (List.getElem?_eq_some_iff.1 hid).1]
  ·rw[List.getElem?_set_ne];intro e;exact(hj 0 l.length (by rw[e])).elim
def exOf:St->Ex
 | .mk _ _ _ _ _ e _ _ _ _=>e
def nmF (N:List ByteArray) (n pr:Int) (x:St):List ByteArray:=addGs N (exN (exOf x))
def nmL (l:List mV):List ByteArray:=l.flatMap fun y=>exN (exOf y.1)
mutual
theorem nmF_E1:∀(x:St) (pr:Int) (la:Bool) (N:List ByteArray) (n:Int),SR (fun st n x=>nmF st n pr x) N x n=addGs N (nmL (nu x pr la))
 | .mk k r t v l e a b p ps,pr,la,N,n=>by
  rw[SR,nmF_E a pr la,nmF_E b pr la,nu,nmF,<-addGs_app,<-addGs_app];simp[nmL,exOf]
theorem nmF_E:∀(l:List St) (pr:Int) (la:Bool) (N:List ByteArray) (n:Int),fE (fun st n x=>nmF st n pr x) N l n=addGs N (nmL (gC l pr la))
 | [],_,_,_,_=>rfl
 | x::l,pr,la,N,n=>by
  rw[fE,nmF_E1 x pr (la && l.isEmpty),nmF_E l pr la,gC,<-addGs_app];simp[nmL]
end
theorem nmF_P:∀(l:List Pr) (i:Nat) (N:List ByteArray) (n:Int),fP nmF N l i n=addGs N (nmL (spP l i))
 | [],_,_,_=>rfl
 | q::l,i,N,n=>by
  rw[fP,nmF_E q.steps i true,nmF_P l (i+1),spP,<-addGs_app];simp[nmL]
theorem nmF_EP (P:bH):NQ nmF [] P=addGs [] (nmL (cw P)):=by
 rw[NQ,nmF_E P.main (-1) true,nmF_P,cw,<-addGs_app];simp[nmL]
theorem addGs_len:∀(l N:List ByteArray),(addGs N l).length<=N.length+l.length
 | [],N=>Nat.le_refl _
 | y::l,N=>by
  have h:=addGs_len l (addG N y);have h2:(addG N y).length<=N.length+1:=by unfold addG;split<;>simp
  show(addGs (addG N y) l).length<=_;simp only[List.length_cons];omega
theorem addG_nd {α:Type} [DecidableEq α] {N:List α} (h:N.Nodup) (y:α):(addG N y).Nodup:=by
 unfold addG
 split
 ·exact h
 ·rename_i hn;refine List.nodup_append.2 ⟨h,by simp,fun a ha b hb=> ?_⟩;simp at hb;subst hb;rintro rfl;exact hn (by simpa using ha)
theorem addGs_nd:∀(l:List ByteArray) {N:List ByteArray},N.Nodup->(addGs N l).Nodup
 | [],N,h=>h
 | y::l,N,h=>addGs_nd l (addG_nd h y)
mutual
theorem exN_len:∀e:Ex,(exN e).length<=wE e
 | .mk k n s xs=>by
  have:=exNs_len xs;simp only[exN,wE,List.length_append];split<;>simp<;>omega
theorem exNs_len:∀l:List Ex,(exNs l).length<=sA l
 | []=>Nat.le_refl _
 | x::l=>by
  have h1:=exN_len x;have h2:=exNs_len l;simp only[exNs,sA,List.length_append];omega
end
theorem nmL_app (a b:List mV):nmL (a++b)=nmL a++nmL b:=by simp[nmL]
mutual
theorem nmS_len:∀(x:St) (pr:Int) (la:Bool),(nmL (nu x pr la)).length<=wS x
 | .mk k r t v l e a b p ps,pr,la=>by
  have h0:=exN_len e;have h1:=nmSs_len a pr la;have h2:=nmSs_len b pr la;rw[nu];show(exN e++nmL (gC a pr la++gC b pr la)).length<=_;rw[nmL_app];simp only[wS,List.length_append];omega
theorem nmSs_len:∀(l:List St) (pr:Int) (la:Bool),(nmL (gC l pr la)).length<=dn l
 | [],_,_=>Nat.le_refl _
 | x::l,pr,la=>by
  have h1:=nmS_len x pr (la && l.isEmpty);have h2:=nmSs_len l pr la;rw[gC,nmL_app];simp only[dn,List.length_append];omega
end
theorem nmP_len:∀(l:List Pr) (i:Nat),(nmL (spP l i)).length<=lM l
 | [],_=>Nat.le_refl _
 | q::l,i=>by
  have h1:=nmSs_len q.steps i true;have h2:=nmP_len l (i+1);rw[spP,nmL_app];simp only[lM,List.length_append];omega
theorem nm_len (P:bH):(nmL (cw P)).length<=iE P:=by
 have h1:=nmSs_len P.main (-1) true;have h2:=nmP_len P.procs 0;rw[cw,nmL_app];simp only[iE,List.length_append];omega
mutual
theorem vrS_in (X:List Pr) (C:Nat->Int->Bool) (nm role:ByteArray):∀(s:St) (n:Int),∀x∈vrS X C nm role s n,n<=x/\x<n+dA s
 | .mk k r t v l e a b p ps,n,x,h=>by
  have ha:=vrL_in X C nm role a (n+1) x;have hb:=vrL_in X C nm role b (n+1+ai a) x;simp only[vrS,List.mem_append]at h;simp only[dA];rcases h with h | h | h
  ·split at h
   ·simp at h;omega
   ·simp at h
  ·have:=ha h;omega
  ·have:=hb h;omega
theorem vrL_in (X:List Pr) (C:Nat->Int->Bool) (nm role:ByteArray):∀(l:List St) (n:Int),∀x∈vrL X C nm role l n,n<=x/\x<n+ai l
 | [],_,x,h=>by simp[vrL]at h
 | s::l,n,x,h=>by
  have h1:=vrS_in X C nm role s n x;have h2:=vrL_in X C nm role l (n+dA s) x;simp only[vrL,List.mem_append]at h;simp only[ai];rcases h with h | h
  ·have:=h1 h;omega
  ·split at h
   ·have:=h2 h;omega
   ·simp at h
end
theorem FO_in {P:bH} {C:Nat->Int->Bool} {nm:ByteArray} {R:List ByteArray} {x:Int} (h:FO P C nm R x):0<=x/\x<total P:=by
 have hT:total P=ai P.main+bD P.procs:=rfl;rcases h with⟨role,_,h⟩ | ⟨p,_,h⟩
 ·have:=vrL_in _ _ _ _ _ _ _ h;omega
 ·have:=vrL_in _ _ _ _ _ _ _ h;have hb:dc P p.1+ai (aK P.procs p.1)<=total P\/ai (aK P.procs p.1)=0:=by
   by_cases hi:p.1<P.procs.length
   ·left;obtain⟨pre,q,post,h1,hl⟩:∃pre q post,P.procs=pre++q::post/\pre.length=p.1:=⟨P.procs.take p.1,P.procs[p.1],P.procs.drop (p.1+1),by rw[<-List.drop_eq_getElem_cons hi,List.take_append_drop],by simp;omega⟩;have e1:aK P.procs p.1=q.steps:=by unfold aK;rw[h1,<-hl];simp
    have e2:dc P p.1=(ai P.main:Int)+bD pre:=by unfold dc;rw[h1,<-hl];simp
    rw[e1,e2,hT,h1,bE,bD];omega
   ·right;unfold aK
    rw[List.getElem?_eq_none (by omega)];rfl
  have h0:0<=dc P p.1:=by unfold dc;omega
  omega
theorem wkE_nd (P:bH) (C:Nat->Int->Bool) (nm:ByteArray):∀(f:Nat) (l:List St) (n:Int) (role:ByteArray) (w:EW),w.fo.Nodup->(wkE P C nm f l n role w).fo.Nodup
 | 0,l,n,role,w,h=>by cases l<;>exact h
 | f+1,[],n,role,w,h=>h
 | f+1,.mk k r t v lb e a b p ps::rest,n,role,w,h=>by
  have hI:=wkE_nd P C nm f;have h1:(if r=role/\inE nm e=true then(⟨w.se,addG w.fo (n,nm)⟩:EW)else w).fo.Nodup:=by
   split
   ·exact addG_nd h _
   ·exact h
  have h3:=hI b (n+1+ai a) role _ (hI a (n+1) role _ h1);rw[wkE];generalize wkE P C nm f b (n+1+ai a) role (wkE P C nm f a (n+1) role (if r=role/\inE nm e=true then⟨w.se,addG w.fo (n,nm)⟩else w))=w3 at*;have h4:(if k=5/\0<=ixR role ps/\((procI P.procs p).toNat,(ixR role ps).toNat)∉w3.se then wkE P C nm f (aK P.procs (procI P.procs p).toNat) (dc P (procI P.procs p).toNat) (roA P.procs (procI P.procs p).toNat (ixR role ps).toNat) ⟨w3.se++ [((procI P.procs p).toNat,(ixR role ps).toNat)],w3.fo⟩else w3).fo.Nodup:=by
   split
   ·exact hI _ _ _ _ h3
   ·exact h3
  split
  ·exact hI _ _ _ _ h4
  ·exact h4
theorem wkR_nd (P:bH) (C:Nat->Int->Bool) (nm:ByteArray):∀(R:List ByteArray) (w:EW),w.fo.Nodup->(wkR P C nm R w).fo.Nodup
 | [],w,h=>h
 | r::R,w,h=>wkR_nd P C nm R _ (wkE_nd P C nm _ _ _ _ _ h)
theorem eaF_nd (P:bH) (nm:ByteArray):(eaF P nm).Nodup:=wkR_nd P _ nm _ _ (by simp)
theorem eaF_mem {P:bH} (hd:DmP P) (nm:ByteArray) (x:Int×ByteArray):x∈eaF P nm↔x.2=nm/\FO P (ucC P.procs nm) nm (mainR P) x.1:=wkR_fo hd _ _ _ _
theorem nodup_bound:∀(n:Nat) (l:List Nat),l.Nodup->(∀x∈l,x<n)->l.length<=n:=by
 intro n l hn hl;have:=(List.Nodup.length_le_of_subset hn (fun x hx=>List.mem_range.2 (hl x hx)));simpa using this
theorem eaF_len {P:bH} (hd:DmP P) (nm:ByteArray):(eaF P nm).length<=total P:=by
 have h:=nodup_bound (total P) ((eaF P nm).map fun x=>x.1.toNat) ?_ ?_
 ·simpa using h
 ·rw[List.Nodup,List.pairwise_map];refine(eaF_nd P nm).imp_of_mem ?_;intro a b ha hb dr he;obtain⟨ha2,ha1⟩:=(eaF_mem hd nm a).1 ha;obtain⟨Dx,lC⟩:=(eaF_mem hd nm b).1 hb;have:=FO_in ha1;have:=FO_in lC;exact dr (Prod.ext (by omega) (ha2.trans Dx.symm))
 ·intro x hx;obtain⟨y,hy,rfl⟩:=List.mem_map.1 hx;have:=FO_in ((eaF_mem hd nm y).1 hy).2;omega
end Go.Proofs.YtdgoeblpcnjlbaaGreatDoor.Av
namespace Go.Proofs.YtdgoeblpcnjlbaaGreatDoor.Av
open Go.RowKit Go.Sort List
def TEy (p:V) (N:List ByteArray):List ak:=[.row [p],mpS N,.row [.map 1]]
theorem TEy_ok (p:V):me 3 (TEy p) where
 len st:=rfl
 row st Qy i b hi:=by
  rcases i with _ | _ | _ | i
  ·exact .inl hi
  ·right;simp[TEy,mpS]at hi;subst hi;simp only[ak.nr,aE,trG,Bool.and_true,Bool.true_and];exact bS (fun x=>rfl) _
  ·exact .inl hi
  ·simp[TEy]at hi
theorem t258 (p:V):W9 89 [] [.ptr 2 0 0] (TEy p) nmF (fun _=>True):=by
 intro N n pr x J _;rcases x with⟨k,r,t,v,l,⟨ek,en,es,aR⟩,a,b,pp,ps⟩
 have h259:=fun H=>t259 _ (.mk ek en es aR) (Nat.lt_succ_self _) H 1 N
 rw[bp]at h259;rw[ay];show av _ _ _ _ (bX (.dJ []) (TEy p (addGs N (exN (.mk ek en es aR)))++J));generalize addGs N (exN (.mk ek en es aR))=M at*;refine av.trim ?_;simp only[TEy,List.cons_append,List.nil_append];refine av.intro c258 100 (by simp) ?_;simp -implicitDefEqProofs only[s258,go_sem];refine av.mono (h259 _ rfl) ?_;rintro _ _ ⟨rfl,rfl⟩;simp -implicitDefEqProofs only[go_sem];simp -implicitDefEqProofs only[r258,push_cast,go_sem_proc];have hr:=((TEy_ok p).app J).row N M;simp only[TEy,List.cons_append,List.nil_append]at hr;exact⟨_,_,rfl,by simp,hr,rfl⟩
theorem mpS_fz (p:V) (N:List ByteArray):fz (cQ [1] (TEy p N)) 20 (.map 1)=some (.db (N.map .str) (trG N)):=by
 rw[fz_map,show(cQ [1] (TEy p N))[1]? =some (mpS N) from rfl,mpS,mw,dg _ _ (fun x=>dN _ _ x) N,fz_trG]
theorem fz_encEa (H:List ak) (n:Nat) (x:EaR):fz H (n+2) (encEa x)=some (encEa x):=by simp[encEa,ma,b7,cN,jZ,dN,dR]
noncomputable def eaO (P:bH) (RO:Int->ByteArray) (nm:ByteArray):List EaR:=(eaF P nm).map fun x=>(x.1,RO x.1,nm)
noncomputable def eaN (P:bH):List ByteArray:=addGs [] (nmL (cw P))
noncomputable def eaA (P:bH) (RO:Int->ByteArray):List EaR:=(eaN P).flatMap (eaO P RO)
theorem eaO_mem {P:bH} (hd:DmP P) (RO:Int->ByteArray) (nm:ByteArray) (y:EaR):y∈eaO P RO nm↔FO P (ucC P.procs nm) nm (mainR P) y.1/\y.2.1=RO y.1/\y.2.2=nm:=by
 obtain⟨n,r,m⟩:=y;simp only[eaO,List.mem_map,eaF_mem hd];constructor
 ·rintro⟨⟨a,b⟩,⟨h1,h2⟩,h3⟩;simp only[Prod.mk.injEq]at h3;obtain⟨rfl,rfl,rfl⟩:=h3;exact⟨h2,rfl,rfl⟩
 ·rintro⟨h1,rfl,rfl⟩;exact⟨(n,m),⟨rfl,h1⟩,rfl⟩
theorem flat_len {α β:Type} (f:α->List β) (k:Nat) (hf:∀x,(f x).length<=k):∀l:List α,(l.flatMap f).length<=l.length*k
 | []=>Nat.zero_le _
 | x::l=>by
  have:=flat_len f k hf l;have h1:=hf x;rw[List.flatMap_cons,List.length_append,List.length_cons,Nat.add_mul];omega
theorem perm_erase {α:Type} {r:List α} {j:Nat} {y:α} (h:r[j]? =some y):r.Perm (y::r.eraseIdx j):=by
 obtain⟨hj,rfl⟩:=List.getElem?_eq_some_iff.1 h;have h1:r=r.take j++r[j]::r.drop (j+1):=by rw[<-List.drop_eq_getElem_cons hj,List.take_append_drop]
 rw[List.eraseIdx_eq_take_drop_succ];conv=>lhs;rw[h1]
 exact List.perm_middle
theorem t221 (P:bH) (hc:total P<=1000000) (hw:iE P<=1000000) (ew:P.procs.length<=1000000) {RO:Int->ByteArray} (hP:lK P=0->PW P RO) (hd:lK P=0->DmP P) (V3:lK P=0->∀r∈mainR P,r≠⟨#[]⟩):
 af Tryz.prog 28 [aP P] (fun r=>∃m:List EaR,(rE P=0->m.Perm (eaA P RO)/\m.Pairwise (fun x y=>ltE y x=false))/\r=(if rE P=0 then .dJ [.fs (m.map encEa),.int .i64 0]else .dJ [.fs [],.int .i64 (rE P)])):=by
 have k9:=t229 P hc ew;rw[T9]at k9;have h22:=t22 (TEy_ok (aP P)) P hc trivial (fun _ _ _ _=>trivial) (t258 _) [];simp only[aP]at k9 h22⊢;by_cases h0:rE P=0
 ·simp only[if_pos h0]at k9⊢;have Ec:ae (fy P (bY P.procs))=true:=by
   simp[fy,lE,al,ae,aq,ah,aY,br,ee (eG _ _ _)]
  have cR:lK P=0:=by rw[<-yR];exact h0
  have sl:=hd cR;have h260:=t260 P hc hw cR ew (hP cR) sl (V3 cR);have Vq:(eaN P).length<=1000000:=by
   have h1:=addGs_len (nmL (cw P)) [];have h2:=nm_len P;simp only[List.length_nil,Nat.zero_add]at h1;rw[eaN];omega
  have hEl:∀nm,(eaF P nm).length<=1000000:=fun nm=>Nat.le_trans (eaF_len sl nm) hc
  have Kr:(eaA P RO).length<=1000000000000:=by
   have:=flat_len (eaO P RO) 1000000 (fun nm=>by rw[eaO,List.length_map];exact hEl nm) (eaN P);have h2:=Nat.mul_le_mul_right 1000000 Vq;rw[eaA];omega
  have hAb:∀x∈eaA P RO,0<=x.1/\x.1<4611686018427387904:=fun x hx=>by
   rw[eaA,List.mem_flatMap]at hx;obtain⟨nm,_,hx⟩:=hx;have:=FO_in ((eaO_mem sl RO nm x).1 hx).1;omega
  have hA:eaA P RO=(eaN P).flatMap (eaO P RO):=rfl;rw[nmF_EP]at h22;rw[show addGs [] (nmL (cw P))=eaN P from rfl]at h22;generalize hN:eaN P=N at*;generalize fy P (bY P.procs)=RV at*;refine af.intro c221 600 (by simp) 20 ?_;simp -implicitDefEqProofs only[s221,go_sem];repeat' (first | ((first | ((with_reducible refine bj k9 ?_ ?_);(·simp[ae,al,cm,aq,ah,Ec])) | ((with_reducible apply cj);(·simp -implicitDefEqProofs only[List.map_cons,List.map_nil,aq,ah,Ec,push_cast,go_sem_proc]<;>rfl);(with_reducible exact k9);(·rfl)) | (with_reducible refine aD ?_));simp -implicitDefEqProofs only[Int.reduceEq,go_sem]) | (with_reducible refine aA.mk ?_ ?_) | (with_reducible refine And.intro ?_ ?_) | ((with_reducible refine bz ?_);simp -implicitDefEqProofs only[r221,push_cast,go_sem_proc]) | intro _)
  refine av.mono h22 ?_;rintro _ _ ⟨rfl,rfl⟩;have lX:=mpS_fz (V.agg [V.fs (List.map aF P.procs),V.fs (List.map encS P.main)]) N;simp only[TEy]at lX⊢;simp -implicitDefEqProofs only[go_sem];refine⟨[1],_,lX,?_⟩;rw[show bO [1] [ak.row [V.agg [V.fs (List.map aF P.procs),V.fs (List.map encS P.main)]],mpS N,ak.row [V.map 1]]=[ak.row [V.agg [V.fs (List.map aF P.procs),V.fs (List.map encS P.main)]],.dead,ak.row [V.map 1]] from rfl];generalize ak.row [V.agg [V.fs (List.map aF P.procs),V.fs (List.map encS P.main)]]=c0;simp -implicitDefEqProofs only[go_sem];refine aL (fun m e H=>∃(R D:List ByteArray) (acc:List EaR) (kv:V) (cur:Option (V×V)),N.Perm (D++R)/\acc.Perm (D.flatMap (eaO P RO))/\m=R.length/\e 4=.bc RV/\e 7=kv/\e 24=.ptr 3 0 0/\H[3]? =some (.it (R.map .str) (trG R) cur)/\a7 kv 3/\OV H kv (acc.map encEa)) N.length
   ⟨N,[],[],.ag,none,by simp,by simp,rfl,by simp[az,aC],by simp[az,aC],by simp[az,aC],rfl,(fun a b h=>by cases h),.inl ⟨rfl,rfl⟩⟩ ?_
  rintro m e H ⟨R,D,acc,kv,cur,hND,yV,rfl,h4,h7,nK,hit,vn,bm⟩;simp -implicitDefEqProofs only[h4,h7,nK,hit,go_sem];refine⟨fun hr=> ?_,fun j kk vv uk hvv=> ?_⟩
  ·have hr:R=[]:=by simpa using hr
   subst hr;rw[List.append_nil]at hND;have JQ:acc.Perm (eaA P RO):=yV.trans (by rw[hA];exact(hND.flatMap_right _).symm);refine av.mono (a261o (fun x hx=>hAb x (JQ.mem_iff.1 hx)) bm (by rw[JQ.length_eq];exact Kr) 93 (.inl rfl)) ?_;rintro _ H' ⟨rfl,m,oM,hm2,bo,hle,cp⟩;have cP:=bo.one;have ba:=bo.cS;simp only[V.one]at ba;simp -implicitDefEqProofs only[h4,h7,nK,cP,ba,go_sem];have hz:=dw (f:=encEa) (n:=17) (fun H x=>fz_encEa H 16 x) bo;simp -implicitDefEqProofs only[r221,hz,push_cast,go_sem_proc];exact⟨m,fun _=>⟨oM.trans JQ,hm2⟩,rfl⟩
  ·rw[List.getElem?_map]at uk;cases hy:R[j]? with
   | none=>rw[hy]at uk;cases uk
   | some nm=>
   rw[hy]at uk;simp only[Option.map_some,Option.some.injEq]at uk;subst uk;have hvv':vv=.bool true:=by
    simp only[trG,List.getElem?_map,hy,Option.map_some,Option.some.injEq]at hvv;exact hvv.symm
   subst hvv';have hitl:=(List.getElem?_eq_some_iff.1 hit).1;have hte:(trG R).eraseIdx j=trG (R.eraseIdx j):=by simp only[trG,Go.ChangeMaps.map_eraseIdx]
   rw[<-Go.ChangeMaps.map_eraseIdx,hte];have hle:(R.eraseIdx j).length<R.length:=by
    have:=(List.getElem?_eq_some_iff.1 hy).1;rw[List.length_eraseIdx,if_pos this];omega
   have Ez:=perm_erase hy;have Eb:(H.set 3 (.it ((R.eraseIdx j).map .str) (trG (R.eraseIdx j)) (some (.str nm,.bool true))))[3]? =some (.it ((R.eraseIdx j).map .str) (trG (R.eraseIdx j)) (some (.str nm,.bool true))):=List.getElem?_set_self hitl;have bJ:OV (H.set 3 (.it ((R.eraseIdx j).map .str) (trG (R.eraseIdx j)) (some (.str nm,.bool true)))) kv (acc.map encEa):=bm.set vn;have MD:(H.set 3 (.it ((R.eraseIdx j).map .str) (trG (R.eraseIdx j)) (some (.str nm,.bool true)))).length=H.length:=by simp
   generalize H.set 3 (.it ((R.eraseIdx j).map .str) (trG (R.eraseIdx j)) (some (.str nm,.bool true)))=H2 at*;have h260:=h260 nm;simp -implicitDefEqProofs only[h4,h7,nK,Eb,go_sem];refine gJ (by simp[ae,al,Ec]) h260 ?_;rintro _ rfl;simp -implicitDefEqProofs only[h4,h7,nK,Eb,go_sem];have hacc2:D.length+(R.eraseIdx j).length+1=N.length:=by
    have h1:=hND.length_eq;have h2:=Ez.length_eq;simp only[List.length_append,List.length_cons]at h1 h2;omega
   have haccl:acc.length<=D.length*1000000:=by rw[yV.length_eq];exact flat_len (eaO P RO) 1000000 (fun nm=>by rw[eaO,List.length_map];exact hEl nm) D
   have hk3b:a7 kv H2.length:=fun x y hh=>by
    rcases bJ with⟨_,h⟩ | ⟨_,id,h,h'⟩
    ·rw[hh]at h;cases h
    ·rw[hh]at h;injection h with h;subst h;exact absurd (List.getElem?_eq_some_iff.1 h').1 (by omega)
   have hND2:N.Perm ((D++ [nm])++R.eraseIdx j):=hND.trans (by rw[List.append_assoc];exact Ez.append_left D);have hEl:=hEl nm;have hEo:eaO P RO nm=(eaF P nm).map fun x=>(x.1,RO x.1,nm):=rfl
   generalize eaF P nm=fo at*;have hitk:∀L:List ak,(H2++L)[3]? =some (.it ((R.eraseIdx j).map .str) (trG (R.eraseIdx j)) (some (.str nm,.bool true))):=fun L=>by rw[List.getElem?_append_left (List.getElem?_eq_some_iff.1 Eb).1];exact Eb
   have Gu:=(List.getElem?_eq_some_iff.1 Eb).1;obtain⟨it,Pu⟩:∃it,it=H2.length:=⟨_,rfl⟩;refine aL (fun m e H=>∃(r d:List (Int×ByteArray)) (acc1:List EaR) (kv1:V) (cur:Option (V×V)),fo.Perm (d++r)/\acc1.Perm (acc++d.map fun x=>(x.1,RO x.1,nm))/\m=r.length/\e 4=.bc RV/\e 7=kv1/\e 8=.str nm/\e 24=.ptr 3 0 0/\e 32=.ptr it 0 0/\
    H[3]? =some (.it ((R.eraseIdx j).map .str) (trG (R.eraseIdx j)) (some (.str nm,.bool true)))/\H[it]? =some (.it (r.map fun x=> .int .i64 x.1) (r.map fun x=> .str (RO x.1)) cur)/\a7 kv1 3/\a7 kv1 it/\OV H kv1 (acc1.map encEa)) fo.length
    ⟨fo,[],acc,kv,none,by simp,by simp,rfl,by simp[az,h4],by simp[az,h7],by simp[az],by simp[az,nK],by simp[az,Pu],hitk _,by rw[Pu];simp,vn,by rw[Pu];exact hk3b,bJ.app _⟩ ?_
   have dr:it≠3:=by omega
   clear h4 h7 nK Pu;rintro m1 e1 H1 ⟨r,d,acc1,kv1,cur1,hfo,hac1,rfl,h4,h7,h8,nK,yP,hi3,hit1,iT,ir,pK⟩;simp -implicitDefEqProofs only[h4,h7,h8,nK,yP,hit1,go_sem];refine⟨fun hr=> ?_,fun j2 kk vv uk hvv=> ?_⟩
   ·have hr:r=[]:=by simpa using hr
    subst hr;rw[List.append_nil]at hfo;refine⟨_,hle,R.eraseIdx j,D++ [nm],acc1,kv1,_,hND2,?_,rfl,rfl,hi3,iT,pK⟩;rw[List.flatMap_append,List.flatMap_cons,List.flatMap_nil,List.append_nil,hEo];exact hac1.trans ((yV.append_right _).trans (((hfo.symm).map _).append_left _))
   ·rw[List.getElem?_map]at uk hvv;cases hx:r[j2]? with
    | none=>rw[hx]at uk;cases uk
    | some x=>
    rw[hx]at uk hvv;simp only[Option.map_some,Option.some.injEq]at uk hvv;subst uk hvv;have hitl1:=(List.getElem?_eq_some_iff.1 hit1).1;rw[<-Go.ChangeMaps.map_eraseIdx,<-Go.ChangeMaps.map_eraseIdx];have AA:(r.eraseIdx j2).length<r.length:=by
     have:=(List.getElem?_eq_some_iff.1 hx).1;rw[List.length_eraseIdx,if_pos this];omega
    have ev:=perm_erase hx;have hit3:(H1.set it (.it ((r.eraseIdx j2).map fun x=> .int .i64 x.1) ((r.eraseIdx j2).map fun x=> .str (RO x.1)) (some (.int .i64 x.1,.str (RO x.1)))))[it]? =some (.it ((r.eraseIdx j2).map fun x=> .int .i64 x.1) ((r.eraseIdx j2).map fun x=> .str (RO x.1)) (some (.int .i64 x.1,.str (RO x.1)))):=List.getElem?_set_self hitl1;have hi33:(H1.set it (.it ((r.eraseIdx j2).map fun x=> .int .i64 x.1) ((r.eraseIdx j2).map fun x=> .str (RO x.1)) (some (.int .i64 x.1,.str (RO x.1)))))[3]? =some (.it ((R.eraseIdx j).map .str) (trG (R.eraseIdx j)) (some (.str nm,.bool true))):=by rw[List.getElem?_set_ne dr];exact hi3
    have nv:OV (H1.set it (.it ((r.eraseIdx j2).map fun x=> .int .i64 x.1) ((r.eraseIdx j2).map fun x=> .str (RO x.1)) (some (.int .i64 x.1,.str (RO x.1))))) kv1 (acc1.map encEa):=pK.set ir;generalize H1.set it (.it ((r.eraseIdx j2).map fun x=> .int .i64 x.1) ((r.eraseIdx j2).map fun x=> .str (RO x.1)) (some (.int .i64 x.1,.str (RO x.1))))=H3 at*;have cP:=nv.one;have ba:=nv.cS;simp only[V.one]at ba;have MR:=hfo.length_eq;have qK:=hac1.length_eq;have hpl2:=ev.length_eq;simp only[List.length_append,List.length_map,List.length_cons]at MR qK hpl2;simp -implicitDefEqProofs only[h4,h7,h8,nK,yP,hit3,cP,ba,go_sem];refine cu (src:=[encEa (x.1,RO x.1,nm)]) nv (fun i o l h=>by cases h) (cA _ _ (fun x=>by simp[aw,encEa]) _) (by simp only[List.length_map,List.length_cons,List.length_nil];omega) ?_;rintro bN H' bo hle' cp;obtain⟨ky,jO⟩:=cp 3 (List.getElem?_eq_some_iff.1 hi33).1 iT;obtain⟨F4,Dz⟩:=cp it (List.getElem?_eq_some_iff.1 hit3).1 ir;simp -implicitDefEqProofs only[h4,h7,h8,nK,yP,go_sem];refine⟨_,AA,r.eraseIdx j2,d++ [x],acc1++ [(x.1,RO x.1,nm)],bN,_,?_,?_,rfl,rfl,ky.trans hi33,F4.trans hit3,jO,Dz,by simpa using bo⟩
    ·exact hfo.trans (by rw[List.append_assoc];exact ev.append_left d)
    ·rw[List.map_append,<-List.append_assoc];exact hac1.append_right _
 ·simp only[if_neg h0]at k9⊢;refine af.intro c221 600 (by simp) 20 ?_;simp -implicitDefEqProofs only[s221,go_sem];repeat' (first | ((first | ((with_reducible refine bj k9 ?_ ?_);(·simp[ae,al,cm,aq,ah])) | ((with_reducible apply cj);(·simp -implicitDefEqProofs only[List.map_cons,List.map_nil,aq,ah,push_cast,go_sem_proc]<;>rfl);(with_reducible exact k9);(·rfl)) | (with_reducible refine aD ?_));simp -implicitDefEqProofs only[h0,go_sem]) | (with_reducible refine aA.mk ?_ ?_) | (with_reducible refine And.intro ?_ ?_) | ((with_reducible refine bz ?_);simp -implicitDefEqProofs only[r221,push_cast,go_sem_proc]) | intro _)
  exact⟨[],fun h=>absurd h (by simp)⟩
end Go.Proofs.YtdgoeblpcnjlbaaGreatDoor.Av
namespace Go.Proofs.YtdgoeblpcnjlbaaGreatDoor.Av
open Go.RowKit Go.Sort List
def exL (l:List mV):List ByteArray:=l.flatMap fun y=>exR (exOf y.1)
theorem exL_app (a b:List mV):exL (a++b)=exL a++exL b:=by simp[exL]
theorem exL_mem {x:ByteArray} {l:List mV}:x∈exL l↔x∈nmL l:=by
 simp only[exL,nmL,List.mem_flatMap,exR_mem]
theorem exR_lenN (e:Ex):(exR e).length<=(exN e).length:=by
 have hn:(exR e).Nodup:=by
  obtain⟨k,n,s,xs⟩:=e;rw[exR];exact nsort_nodup _
 exact hn.length_le_of_subset (fun x hx=>(exR_mem x e).1 hx)
theorem exL_len:∀l:List mV,(exL l).length<=(nmL l).length
 | []=>Nat.le_refl _
 | y::l=>by
  have h1:=exR_lenN (exOf y.1);have h2:=exL_len l;show(exR (exOf y.1)++exL l).length<=(exN (exOf y.1)++nmL l).length;simp only[List.length_append];omega
mutual
theorem spw1:∀(x:St) (pr:Int) (la:Bool),∀y∈nu x pr la,wS y.1<=wS x
 | .mk k r t v l e a b p ps,pr,la,y,h=>by
  simp only[nu,List.mem_cons,List.mem_append]at h;rcases h with rfl | h | h
  ·exact Nat.le_refl _
  ·have:=spwL a pr la y h;simp only[wS];omega
  ·have:=spwL b pr la y h;simp only[wS];omega
theorem spwL:∀(l:List St) (pr:Int) (la:Bool),∀y∈gC l pr la,wS y.1<=dn l
 | [],_,_,y,h=>by simp[gC]at h
 | x::l,pr,la,y,h=>by
  simp only[gC,List.mem_append]at h;simp only[dn];rcases h with h | h
  ·have:=spw1 x pr _ y h;omega
  ·have:=spwL l pr la y h;omega
end
theorem spwP:∀(l:List Pr) (i:Nat),∀y∈spP l i,wS y.1<=lM l
 | [],_,y,h=>by simp[spP]at h
 | q::l,i,y,h=>by
  simp only[spP,List.mem_append]at h;simp only[lM];rcases h with h | h
  ·have:=spwL q.steps i true y h;omega
  ·have:=spwP l (i+1) y h;omega
theorem spw (P:bH):∀y∈cw P,wE (exOf y.1)<=iE P:=fun y h=>by
 have h1:wE (exOf y.1)<=wS y.1:=by
  obtain⟨⟨k,r,t,v,l,e,a,b,p,ps⟩,pr,la⟩:=y;simp only[exOf,wS];omega
 simp only[cw,List.mem_append]at h;simp only[iE];rcases h with h | h
 ·have:=spwL P.main (-1) true y h;omega
 ·have:=spwP P.procs 0 y h;omega
theorem srt_nil':zV []=[]:=List.eq_nil_of_length_eq_zero (by rw[m6];rfl)
theorem a270o {H:List ak} {kv:V} {l:List ByteArray} (bm:OV H kv (l.map .str)) (hl:l.length<=1000000000):
 av Tryz.prog 101 [kv] H (fun r H'=>r=.dJ []/\OV H' kv ((zV l).map .str)/\H'.length=H.length/\∀j,a7 kv j->H'[j]? =H[j]?):=by
 rcases bm with⟨h1,rfl⟩ | ⟨h1,id,rfl,hid⟩
 ·refine Mg.mono ?_;rintro _ _ ⟨rfl,rfl⟩;have j5:l=[]:=by simpa using h1
  subst j5;exact⟨rfl,.inl ⟨by rw[srt_nil'];rfl,rfl⟩,rfl,fun _ _=>rfl⟩
 ·rw[List.length_map]at*;have hn:l≠ []:=by rintro rfl;exact h1 rfl
  refine(VR hid hl hn).mono ?_;rintro _ _ ⟨rfl,rfl⟩;refine⟨rfl,.inr ⟨fun h=> ?_,id,by rw[List.length_map,m6],?_⟩,by simp,fun j hj=> ?_⟩
  ·have h2:=congrArg List.length h;simp only[List.length_map,m6,List.length_nil]at h2;exact hn (List.eq_nil_of_length_eq_zero h2)
  ·rw[List.getElem?_set_self (List.getElem?_eq_some_iff.1 hid).1]
  ·rw[List.getElem?_set_ne];intro e;exact(hj 0 l.length (by rw[e])).elim
theorem a271o {H:List ak} {kv:V} {l:List ByteArray} (bm:OV H kv ((zV l).map .str)) (hl:l.length<=1000000000):
 av Tryz.prog 102 [kv] H (fun r H'=>∃D,fz (cQ D H') 20 r=some (.fs ((iB l).map .str))/\H'.length=H.length/\∀j,a7 kv j->(bO D H')[j]? =H[j]?):=by
 rcases bm with⟨h1,rfl⟩ | ⟨h1,id,rfl,hid⟩
 ·refine Mh.mono ?_;rintro _ _ ⟨rfl,rfl⟩;have j5:l=[]:=by
   have h2:=congrArg List.length h1;simp only[List.length_map,m6,List.length_nil]at h2;exact List.eq_nil_of_length_eq_zero h2
  subst j5;refine⟨[],?_,rfl,fun j _=> ?_⟩
  ·rw[fQ,wu];rfl
  ·rw[de];simp
 ·rw[List.length_map,m6]at*;have jl:=(List.getElem?_eq_some_iff.1 hid).1;have qJ:l≠ []:=by rintro rfl;exact h1 (by rw[srt_nil'];rfl)
  have hb:=VT hid (by rw[m6];omega) (Hw qJ);rw[m6]at hb;refine hb.mono ?_;rintro _ _ ⟨rfl,rfl⟩;obtain⟨tl,Rr⟩:∃tl,zp (zV l)=iB l++tl:=⟨_,rfl⟩;rw[Rr];change∃D,fz _ 20 (.ms id 0 (iB l).length)=_/\_;generalize iB l=nl at*;refine⟨[id],?_,by simp,fun j hj=> ?_⟩
  ·have e4:∀(H:List ak) (l:List ByteArray),eI (fz H 19) (l.map V.str)=some (l.map V.str):=fun H l=>dg _ _ (fun x=>dN _ _ x) l
   rw[iu,cg,List.getElem?_set_self (by simpa using jl)];simp only[List.contains_cons,List.contains_nil,beq_self_eq_true,Bool.true_or,Bool.or_false,if_true];simp only[Option.map_some];rw[ef];have e2:(((nl++tl).map V.str).drop 0).take nl.length=nl.map V.str:=by simp
   rw[e2,e4,if_pos (by simp)];rfl
  ·rw[de,if_neg,List.getElem?_set_ne]
   ·intro e;exact(hj 0 l.length (by rw[e])).elim
   ·rintro⟨hc,_⟩;have:j=id:=by simpa using hc
    exact(hj 0 l.length (by rw[this])).elim
end Go.Proofs.YtdgoeblpcnjlbaaGreatDoor.Av
namespace Go.Proofs.YtdgoeblpcnjlbaaGreatDoor.Av
open Go.RowKit Go.Sort List
def C274:Prop:=∀l:List EaR,(∀x∈l,0<=x.1/\x.1<4611686018427387904)->l.length<=1000000000000->
 af Tryz.prog 105 [.a6 178 [] [.bc [.db (l.map encEa) (trG l)]],.a6 107 [] []] (fun r=>∃m:List EaR,m.Perm l/\m.Pairwise (fun x y=>ltE y x=false)/\r=.fs (m.map encEa))
theorem fzL_encEa (H:List ak) (n:Nat) (l:List EaR):eI (fz H (n+2)) (l.map encEa)=some (l.map encEa):=dg _ _ (fun x=>fz_encEa H n x) l
theorem norefL_encEa (l:List EaR):ae (l.map encEa)=true:=bS (fun x=>by simp[al,ae,encEa]) l
theorem t275 (l:List EaR):af Tryz.prog 106 [.db (l.map encEa) (trG l)] (·=.a6 178 [] [.bc [.db (l.map encEa) (trG l)]]):=by
 have hn:ae (trG l)=true:=bS (fun x=>rfl) l;refine af.intro c275 200 (by simp) 20 ?_;simp -implicitDefEqProofs only[s275,norefL_encEa,hn,go_sem];simp -implicitDefEqProofs only[r275,norefL_encEa,hn,push_cast,go_sem_proc]
theorem wkQ_nd (P:bH) (C:Nat->Int->Bool) (nm:ByteArray):∀(R:List ByteArray) (fo:List (Int×ByteArray)),fo.Nodup->(wkQ P C nm R fo).Nodup
 | [],fo,h=>h
 | r::R,fo,h=>wkQ_nd P C nm R _ (wkE_nd P C nm _ _ _ _ _ h)
theorem wkN_nd (P:bH) (C:ByteArray->Nat->Int->Bool) (R:List ByteArray):∀(N:List ByteArray) (fo:List (Int×ByteArray)),fo.Nodup->(wkN P C R N fo).Nodup
 | [],fo,h=>h
 | nm::N,fo,h=>wkN_nd P C R N _ (wkQ_nd P (C nm) nm R fo h)
theorem wkN_len {P:bH} (hd:DmP P) (C:ByteArray->Nat->Int->Bool) (R:List ByteArray) (N:List ByteArray):(wkN P C R N []).length<=N.length*total P:=by
 have h:=(wkN_nd P C R N [] (by simp)).length_le_of_subset (l₂:=N.flatMap fun nm=>(List.range (total P)).map fun(n:Nat)=>((n:Int),nm)) (fun x hx=>by
  rcases(wkN_fo hd C R x N []).1 hx with h | ⟨h1,h2⟩
  ·simp at h
  ·have:=FO_in h2;exact List.mem_flatMap.2 ⟨x.2,h1,List.mem_map.2 ⟨x.1.toNat,List.mem_range.2 (by omega),Prod.ext (by simp;omega) rfl⟩⟩)
 exact Nat.le_trans h (flat_len _ _ (fun nm=>by simp) N)
theorem mpO_fz {H:List ak} {RO:Int->ByteArray} {mo:Nat} {O:List (Int×ByteArray)} (h:H[mo]? =some (mpO RO O)):fz (cQ [mo] H) 20 (.map mo)=some (.db ((O.map fun x=>((x.1,RO x.1,x.2):EaR)).map encEa) (trG (O.map fun x=>((x.1,RO x.1,x.2):EaR)))):=by
 have hk:(cQ [mo] H)[mo]? =some (mpO RO O):=by rw[cg,h];simp
 rw[fz_map,hk,mpO,mw,fz_encO,fz_trG,List.map_map];simp[trG,encEa,encO,Function.comp_def]
theorem t224 (h274:C274) (P:bH) (hc:total P<=1000000) (hw:iE P<=1000000) (hmrl:(rR (cw P)).length<=1000000000) (cR:lK P=0) (ew:P.procs.length<=1000000) {RO:Int->ByteArray} (hP:PW P RO) (hd:DmP P) (V3:∀r∈mainR P,r≠⟨#[]⟩):
 af Tryz.prog 31 [aP P] (fun r=>∃m:List EaR,m.Perm ((wkN P (ucC P.procs) (mainR P) (iB (exL (cw P))) []).map fun x=>(x.1,RO x.1,x.2))/\m.Pairwise (fun x y=>ltE y x=false)/\r=.fs (m.map encEa)):=by
 have jP:=t25 P hc;have P1:=t253 P hc hmrl;have Iq:=wU P;have kD:(exL (cw P)).length<=1000000:=by have:=exL_len (cw P);have:=nm_len P;omega
 have hsw:=spw P;have hnL:ae ((cw P).map encSp)=true:=bS (fun x=>by
  rcases x with⟨⟨k,r,t,v,l,⟨ek,en,es,aR⟩,a,b,p,ps⟩,pr,la⟩
  rw[iw];simp[al,ae,bf,ah,aE]) (cw P)
 simp only[aP]at jP P1⊢;refine af.intro c224 1200 (by simp) 20 ?_;simp -implicitDefEqProofs only[s224,go_sem];repeat' (first | ((first | ((with_reducible refine bj jP ?_ ?_);(·simp[ae,al,cm,aq,ah,hnL])) | ((with_reducible apply cj);(·simp -implicitDefEqProofs only[List.map_cons,List.map_nil,aq,ah,hnL,push_cast,go_sem_proc]<;>rfl);(with_reducible exact jP);(·rfl)) | (with_reducible refine aD ?_));simp -implicitDefEqProofs only[go_sem]) | (with_reducible refine aA.mk ?_ ?_) | (with_reducible refine And.intro ?_ ?_) | ((with_reducible refine bz ?_);simp -implicitDefEqProofs only[r224,push_cast,go_sem_proc]) | intro _)
 rename_i Cy;generalize zJ:ak.row [V.agg [.fs (P.procs.map aF),.fs (P.main.map encS)]]=c0;refine aL (fun m e H=>∃pre post kv,cw P=pre++post/\m=post.length/\e 1=.ptr 0 0 0/\e 3=kv/\e 13=.fs ((cw P).map encSp)/\e 14=.int .i64 (cw P).length/\e 15=.int .i64 pre.length/\H[0]? =some c0/\a7 kv 0/\OV H kv ((exL pre).map .str)) (cw P).length
  ⟨[],cw P,.ag,rfl,rfl,by simp[az,aC],by simp[az,aC],by simp[az,aC],by simp[az,aC],by simp[az,aC],by simp[zJ],(fun a b h=>by cases h),.inl ⟨rfl,rfl⟩⟩ ?_
 rintro m e H ⟨pre,post,kv,ao,rfl,h1,h3,eV,dG,gy,mq,dW,bm⟩;have cP:=bm.one;have ba:=bm.cS;simp only[V.one]at ba;have hgl0:=(List.getElem?_eq_some_iff.1 mq).1;cases post with
 | cons q post=>
  have hg:=aO encSp ao;have hee:exL (cw P)=exL pre++(exR (exOf q.1)++exL post):=by rw[ao,exL_app];rfl
  have hep:exL (pre++ [q])=exL pre++exR (exOf q.1):=by rw[exL_app];simp[exL]
  have hell:(exL pre).length+(exR (exOf q.1)).length<=1000000:=by rw[hee]at kD;simp only[List.length_append]at kD;omega
  have Xr:=hsw q (by rw[ao];simp);obtain⟨⟨k,r,t,v,l,⟨ek,en,es,aR⟩,a,b,p,ps⟩,pr,la⟩:=q;simp only[exOf]at hep hell Xr;have h269:=t269 _ (.mk ek en es aR) (Nat.lt_succ_self _) (by omega);rw[iw]at hg;rw[bp]at h269;generalize exR (.mk ek en es aR)=rl at*;simp -implicitDefEqProofs only[h1,h3,eV,dG,gy,an ao,aa ao Cy,hg,go_sem];repeat' (first | ((first | ((with_reducible refine bj h269 ?_ ?_);(·simp[ae,al,cm,bf,ah,aE])) | ((with_reducible apply cj);(·simp -implicitDefEqProofs only[List.map_cons,List.map_nil,bf,ah,aE,push_cast,go_sem_proc]<;>rfl);(with_reducible exact h269);(·rfl)) | (with_reducible refine aD ?_));simp -implicitDefEqProofs only[h1,h3,eV,dG,gy,aa ao Cy,cP,ba,go_sem]) | (with_reducible refine aA.mk ?_ ?_) | (with_reducible refine And.intro ?_ ?_) | ((with_reducible refine bz ?_);simp -implicitDefEqProofs only[r224,push_cast,go_sem_proc]) | intro _)
  ·simp[List.all_eq_true,aw,V.one]
  refine cu (bm.app _) (fun i o l h=>by cases h) (bV _) (by simp only[List.length_map];omega) ?_;rintro kv1 H2 pK AA Ef;obtain⟨pO,lV⟩:=Ef 0 (by simp) dW;rw[List.getElem?_append_left hgl0]at pO;simp -implicitDefEqProofs only[h1,h3,eV,dG,gy,aa ao Cy,go_sem];exact⟨post.length,Nat.lt_succ_self _,pre++ [_],post,kv1,by simp[ao];rfl,rfl,rfl,by simp,pO.trans mq,lV,by rw[hep,List.map_append];exact pK⟩
 | nil=>
  have ev:pre=cw P:=by rw[ao];simp
  rw[ev]at bm;subst zJ;have hwf:∀(i:Nat) (q:Pr),P.procs[i]? =some q->wfEs P.procs q.steps=true:=fun i q hq=>by
   have:=(hP.body i (List.getElem?_eq_some_iff.1 hq).1).wf;rw[aK,hq]at this;exact this
  have lA:ai P.main<=1000000:=by have:total P=ai P.main+bD P.procs:=rfl;omega
  have QY:dn P.main<=1000000:=by have:iE P=dn P.main+lM P.procs:=rfl;omega
  generalize hmR:mainR P=mr at*;generalize exL (cw P)=NL at*;simp -implicitDefEqProofs only[h1,h3,eV,dG,gy,aI ao,cP,ba,go_sem];refine av.mono (a270o bm (by omega)) ?_;rintro _ H1 ⟨rfl,pK,uN,ky⟩;simp -implicitDefEqProofs only[h1,h3,eV,dG,gy,go_sem];have hl1p:0<H1.length:=by omega
  have DW:a7 kv H1.length:=fun x y hh=>by
   rcases pK with⟨_,h⟩ | ⟨_,id,h,h'⟩
   ·rw[hh]at h;cases h
   ·rw[hh]at h;injection h with h;subst h;exact absurd (List.getElem?_eq_some_iff.1 h').1 (by omega)
  refine av.mono (a271o (pK.app [.mp [] []]) (by omega)) ?_;rintro fH H2 ⟨D,lX,jf,jO⟩;simp -implicitDefEqProofs only[h1,h3,eV,dG,gy,go_sem];refine⟨D,_,lX,?_⟩;have hK0:(bO D H2)[0]? =some (.row [V.agg [.fs (P.procs.map aF),.fs (P.main.map encS)]]):=by rw[jO 0 dW,List.getElem?_append_left hl1p,ky 0 dW];exact mq
  obtain⟨mo,hmo⟩:∃mo,mo=H1.length:=⟨_,rfl⟩;have hKm:(bO D H2)[mo]? =some (mpO RO []):=by rw[hmo,jO _ DW];simp[mpO,trG]
  have hmo0:mo≠0:=by omega
  rw[<-hmo]at*;clear lX jf jO pK ky uN DW hl1p bm hgl0 mq;generalize bO D H2=HK at*;have Vq:(iB NL).length<=1000000:=by have:=nsort_len NL;omega
  generalize hNN:iB NL=N at*;simp -implicitDefEqProofs only[h1,h3,eV,dG,gy,go_sem];intro hlenN;refine aL (fun m e H=>∃pre post O,N=pre++post/\m=post.length/\O=wkN P (ucC P.procs) mr pre []/\e 1=.ptr 0 0 0/\e 6=.map mo/\e 30=.fs (N.map .str)/\e 31=.int .i64 N.length/\e 32=.int .i64 pre.length/\H[0]? =some (.row [V.agg [.fs (P.procs.map aF),.fs (P.main.map encS)]])/\H[mo]? =some (mpO RO O)) N.length
   ⟨[],N,[],rfl,rfl,rfl,by simp[az,h1],by simp[az],by simp[az],by simp[az],by simp[az],hK0,hKm⟩ ?_
  clear h1 h3 eV dG gy hK0 hKm;rintro m e H ⟨pre,post,O,hNs,rfl,hO,h1,h6,gO,EM,yP,mq,hHm⟩;cases post with
  | nil=>
   have ev:pre=N:=by rw[hNs];simp
   rw[ev]at hO;simp -implicitDefEqProofs only[h1,h6,gO,EM,yP,aI hNs,go_sem];refine⟨[mo],_,mpO_fz hHm,?_⟩;have hOb:∀x∈(O.map fun x=>((x.1,RO x.1,x.2):EaR)),0<=x.1/\x.1<4611686018427387904:=fun x hx=>by
    obtain⟨y,hy,rfl⟩:=List.mem_map.1 hx;rw[hO]at hy;rcases(wkN_fo hd _ mr y N []).1 hy with h | ⟨_,h2⟩
    ·simp at h
    ·have:=FO_in h2;show 0<=y.1/\y.1<_;omega
   have hOl:(O.map fun x=>((x.1,RO x.1,x.2):EaR)).length<=1000000000000:=by
    have h1:=wkN_len hd (ucC P.procs) mr N;have h2:=Nat.mul_le_mul Vq hc;rw[List.length_map,hO];omega
   have h275:=t275 (O.map fun x=>((x.1,RO x.1,x.2):EaR));have h274:=h274 _ hOb hOl;rw[<-hO];generalize (O.map fun x=>((x.1,RO x.1,x.2):EaR))=l at*;have hnt:ae (trG l)=true:=bS (fun x=>rfl) l;refine gJ (by simp[ae,al,norefL_encEa,hnt]) h275 ?_;rintro _ rfl;simp -implicitDefEqProofs only[h1,h6,gO,EM,yP,go_sem];refine gJ (by simp[ae,al,norefL_encEa,hnt]) h274 ?_;rintro _ ⟨m,oM,hm2,rfl⟩;simp -implicitDefEqProofs only[h1,h6,gO,EM,yP,go_sem];simp -implicitDefEqProofs only[r224,fzL_encEa,push_cast,go_sem_proc];rw[if_pos (norefL_encEa m)];exact⟨_,rfl,m,oM,hm2,rfl⟩
  | cons nm post=>
   have hg:=aO V.str hNs;simp -implicitDefEqProofs only[h1,h6,gO,EM,yP,an hNs,aa hNs hlenN,hg,mq,go_sem];repeat' (first | ((first | ((with_reducible refine bj P1 ?_ ?_);(·simp[ae,al,cm,aq,ah])) | ((with_reducible apply cj);(·simp -implicitDefEqProofs only[List.map_cons,List.map_nil,aq,ah,push_cast,go_sem_proc]<;>rfl);(with_reducible exact P1);(·rfl)) | (with_reducible refine aD ?_));simp -implicitDefEqProofs only[h1,h6,gO,EM,yP,aa hNs hlenN,go_sem]) | (with_reducible refine aA.mk ?_ ?_) | (with_reducible refine And.intro ?_ ?_) | ((with_reducible refine bz ?_);simp -implicitDefEqProofs only[r224,push_cast,go_sem_proc]) | intro _)
   rename_i hlenR;refine aL (fun m e H=>∃pr po O1,mr=pr++po/\m=po.length/\O1=wkQ P (ucC P.procs nm) nm pr O/\e 1=.ptr 0 0 0/\e 6=.map mo/\e 8=.str nm/\e 30=.fs (N.map .str)/\e 31=.int .i64 N.length/\e 32=.int .i64 pre.length/\
    e 37=.fs (mr.map .str)/\e 38=.int .i64 mr.length/\e 39=.int .i64 pr.length/\H[0]? =some (.row [V.agg [.fs (P.procs.map aF),.fs (P.main.map encS)]])/\H[mo]? =some (mpO RO O1)) mr.length
    ⟨[],mr,O,rfl,rfl,rfl,by simp[az,h1],by simp[az,h6],by simp[az],by simp[az,gO],by simp[az,EM],by simp[az,yP],by simp[az],by simp[az],by simp[az],mq,hHm⟩ ?_
   clear h1 h6 gO EM yP mq hHm;rintro m1 e H ⟨pr,po,O1,Ml,rfl,hO1,h1,h6,h8,gO,EM,yP,wh,h38,Qz,mq,hHm⟩;cases po with
   | nil=>
    have ev:pr=mr:=by rw[Ml];simp
    rw[ev]at hO1;simp -implicitDefEqProofs only[h1,h6,h8,gO,EM,yP,wh,h38,Qz,aI Ml,aa hNs hlenN,go_sem];have hO2:O1=wkN P (ucC P.procs) mr (pre++ [nm]) []:=by rw[wkN_append,<-hO,hO1];rfl
    exact⟨post.length,Nat.lt_succ_self _,pre++ [nm],post,O1,by simp[hNs],rfl,hO2,by simp,mq,hHm⟩
   | cons role po=>
    have hg:=aO V.str Ml;simp -implicitDefEqProofs only[h1,h6,h8,gO,EM,yP,wh,h38,Qz,an Ml,aa Ml hlenR,hg,mq,go_sem];have j5:=(List.getElem?_eq_some_iff.1 mq).1;have hlm:=(List.getElem?_eq_some_iff.1 hHm).1;have hRM:RM P RO nm (H.length+2) H.length (H.length+1) mo [] [] O1 (H++ [ak.mp [] [],ak.mp [] [],ak.row [V.agg [V.fs (List.map aF P.procs),V.fs (List.map encS P.main),V.str nm,V.map H.length,V.map (H.length+1),V.map mo]]]):=
     ⟨by rw[List.getElem?_append_right (by omega),Nat.add_sub_cancel_left];rfl,by rw[List.getElem?_append_right (by omega),Nat.sub_self];rfl,by rw[List.getElem?_append_right (by omega),Nat.add_sub_cancel_left];rfl,by rw[List.getElem?_append_left hlm];exact hHm,by omega,by omega,by omega,by omega,by omega,by omega⟩
    refine av.mono (t272 P cR ew hwf hRM) ?_;rintro _ _ ⟨rfl,S,hS,rfl⟩;have hRM2:=hRM.setc S;have hG0:((H++ [ak.mp [] [],ak.mp [] [],ak.row [V.agg [V.fs (List.map aF P.procs),V.fs (List.map encS P.main),V.str nm,V.map H.length,V.map (H.length+1),V.map mo]]]).set H.length (mpC S))[0]? =some (.row [V.agg [.fs (P.procs.map aF),.fs (P.main.map encS)]]):=by
     rw[List.getElem?_set_ne (by omega),List.getElem?_append_left j5];exact mq
    generalize XG:H.length=mc at*;generalize (H++ [ak.mp [] [],ak.mp [] [],ak.row [V.agg [V.fs (List.map aF P.procs),V.fs (List.map encS P.main),V.str nm,V.map mc,V.map (mc+1),V.map mo]]]).set mc (mpC S)=H3 at*;simp -implicitDefEqProofs only[h1,h6,h8,gO,EM,yP,wh,h38,Qz,hG0,go_sem];have h273:=t273 hP hc hw ew _ _ (Nat.le_refl (muE P ⟨[],O1⟩ P.main+1)) P.main 0 role ⟨[],O1⟩ H3 hRM2 hP.main (Int.le_refl _) (by omega) QY (V3 role (by rw[Ml];simp)) (Nat.lt_succ_self _);refine av.mono h273 ?_;rintro _ _ ⟨rfl,rfl⟩;rw[hS];have hRM3:=RM.step (w:=⟨[],O1⟩) hRM2 (wkE P (ucC P.procs nm) nm (muE P ⟨[],O1⟩ P.main+1) P.main 0 role ⟨[],O1⟩);have hG3:(rH RO (mc+1) mo (wkE P (ucC P.procs nm) nm (muE P ⟨[],O1⟩ P.main+1) P.main 0 role ⟨[],O1⟩) H3)[0]? =some (.row [V.agg [.fs (P.procs.map aF),.fs (P.main.map encS)]]):=by
     rw[rH,List.getElem?_set_ne hmo0,List.getElem?_set_ne (by omega)];exact hG0
    have hO2:wk1 P (ucC P.procs nm) nm role O1=wkQ P (ucC P.procs nm) nm (pr++ [role]) O:=by rw[wkQ_append,<-hO1];rfl
    have hG4:=hRM3.o;change _=some (mpO RO (wk1 P (ucC P.procs nm) nm role O1))at hG4;rw[hO2]at hG4;generalize rH RO (mc+1) mo (wkE P (ucC P.procs nm) nm (muE P ⟨[],O1⟩ P.main+1) P.main 0 role ⟨[],O1⟩) H3=H4 at*;simp -implicitDefEqProofs only[h1,h6,h8,gO,EM,yP,wh,h38,Qz,aa Ml hlenR,go_sem];exact⟨po.length,Nat.lt_succ_self _,pr++ [role],po,wkQ P (ucC P.procs nm) nm (pr++ [role]) O,by simp[Ml],rfl,rfl,by simp,hG3,hG4⟩
end Go.Proofs.YtdgoeblpcnjlbaaGreatDoor.Av
namespace Go.Proofs
open Go.RowKit Go.Maps Go.Sort Go.Shelf List
structure ItE (b r:Nat) (es:Array MapEntry) (clock:Nat) (seen:Array Nat) (W:World):Prop where
 hb:W.heap[b]? =some (.map es clock)
 hr:W.heap[r]? =some (.mapIter (some b) clock seen clock)
theorem ItE.of_walks {b r:Nat} {es:Array MapEntry} {clock:Nat} {seen:Array Nat} {W W':World} (h:ItE b r es clock seen W) (hk:KeepsWalks W W'):ItE b r es clock seen W':=
 ⟨hk.same b _ h.hb rfl,hk.same r _ h.hr rfl⟩
section
variable {F:Fence} {n:Nat} {P:Program} {w:World} {ops:Array Oper} {rest:List Oper} {o:Oper} {a:Act} {Q:Exit->Act->World->Prop}
theorem wpListIn_range_raw (hg:o.guard=none) (m:Operand) (t:TypeId) (xR:o.op=Op.range t m) (k e:TypeId) (ht:P.underlying t=some (.map k e)) (b:Nat) (es:Array MapEntry) (clock:Nat)
 (hm:a.eval m=.map (some b)) (hb:w.heap[b]? =some (.map es clock))
 (hK:wpListIn F n P ops Q rest (a.put o.dst (.pointer (some ⟨w.heap.size,0,none⟩))) (w.alloc (.mapIter (some b) clock #[] clock))):
 wpListIn F n P ops Q (o::rest) a w:=by
 refine wpListIn_plain hg fun K' hK'=> ?_
 unfold Oper.wpIn
 refine⟨?_,?_⟩
 ·simp[Oper.about,xR]
 ·rw[Oper.semAt_plain F _ _ (by rw[xR];intro c zI;cases zI)];simp[execOp,xR,hm,run_range_map w t k e b es clock ht hb,Result.andThen];exact hK' _ _ hK
theorem wpListIn_next_raw (hg:o.guard=none) (it:Operand) (xR:o.op=Op.next it false) (b r:Nat) (es:Array MapEntry) (clock:Nat) (seen:Array Nat) (hold:∀x∈es.toList,x.born<clock)
 (hit:a.eval it=.pointer (some ⟨r,0,none⟩)) (h:ItE b r es clock seen w)
 (hDone:(leftOf es seen).toList=[]->wpListIn F n P ops Q rest (a.put o.dst (.tuple #[.bool false])) w)
 (hMore:∀(e:MapEntry) (w':World),e∈(leftOf es seen).toList->ItE b r es clock (seen.push e.born) w'->w.grownBy w' (some r)->w'.heap.size=w.heap.size->wpListIn F n P ops Q rest (a.put o.dst (.tuple #[.bool true,e.key,e.val])) w'):
 wpListIn F n P ops Q (o::rest) a w:=by
 refine wpListIn_plain hg fun K' hK'=> ?_
 unfold Oper.wpIn
 refine⟨by simp[Oper.about,xR],?_⟩;rw[Oper.semAt_plain F _ _ (by rw[xR];intro c zI;cases zI)];rcases run_next_at (P:=P) w o.type r b clock clock seen es clock h.hr h.hb hold (Nat.le_refl _)with⟨h0,cV⟩ | ⟨e,hem,w1,zL,cV⟩
 ·simp[execOp,xR,hit,cV,Result.andThen];have:leftOf es seen= #[]:=Array.eq_empty_of_size_eq_zero h0;exact hK' _ _ (hDone (by rw[this]))
 ·simp[execOp,xR,hit,cV,Result.andThen];have Da:r<w.heap.size:=(Array.getElem?_eq_some_iff.1 h.hr).1;have dr:b≠r:=fun e=>by have:=h.hb;rw[e,h.hr]at this;cases this
  have hw:w1.heap=w.heap/\w1.os=w.os/\w1.tape=w.tape/\w1.output=w.output:=by rcases zL with rfl | rfl<;>exact⟨rfl,rfl,rfl,rfl⟩
  refine hK' _ _ (hMore e _ hem ⟨?_,?_⟩ ⟨?_,?_,?_,?_,?_⟩ ?_)
  ·show(w1.heap.setIfInBounds _ _)[_]? =_;rw[hw.1,Array.getElem?_setIfInBounds_ne dr.symm];exact h.hb
  ·show(w1.heap.setIfInBounds _ _)[_]? =_;rw[hw.1];simp[Da]
  ·exact hw.2.1
  ·exact hw.2.2.1
  ·exact hw.2.2.2
  ·show _<=(w1.heap.setIfInBounds _ _).size;simp[hw.1]
  ·intro k hk j7;show(w1.heap.setIfInBounds _ _)[_]? =_;rw[hw.1,Array.getElem?_setIfInBounds_ne (fun e=>j7 (by rw[e]))]
  ·show(w1.heap.setIfInBounds _ _).size=_;simp[hw.1]
end
end Go.Proofs
namespace Go.Proofs
open Go.RowKit Go.Maps Go.Sort Go.Shelf List
def encK (x:Int×ByteArray×ByteArray):Value:=.agg #[.int .i64 x.1,.string x.2.1,.string x.2.2]
def itLeft (es:Array MapEntry):Option Obj->Nat
 | some (.mapIter _ _ seen _)=>(leftOf es seen).toList.length
 | _=>0
theorem perm_eraseE {α:Type} {r:List α} {j:Nat} {y:α} (h:r[j]? =some y):r.Perm (y::r.eraseIdx j):=by
 obtain⟨hj,rfl⟩:=List.getElem?_eq_some_iff.1 h;have h1:r=r.take j++r[j]::r.drop (j+1):=by rw[<-List.drop_eq_getElem_cons hj,List.take_append_drop]
 rw[List.eraseIdx_eq_take_drop_succ];conv=>lhs;rw[h1]
 exact List.perm_middle
theorem leftOf_nil (es:Array MapEntry):leftOf es #[]=es:=by simp[leftOf]
theorem Tryz.keysE_in (F:Fence) (n:Nat) (eb:F.fn 178) (hro:F.round=none) (hn:1<=n) (l Bm o b:Nat) (es:Array MapEntry) (clock:Nat) (xs:List (Int×ByteArray×ByteArray)) (Cw:es.toList.map (·.key)=xs.map encK)
 (hold:∀x∈es.toList,x.born<clock) (AQ:(es.toList.map (·.born)).Nodup) (J:List (Int×ByteArray×ByteArray)->World->Prop)
 (hY:∀pre x W,J pre W->pre.length<xs.length->YieldAt F (n - 1) Tryz.prog l #[encK x] W fun e W'=>e=.returned (.bool true)/\J (pre++ [x]) W'/\KeepsWalks W W')
 (W:World) (hJ:AbidesFrom W.heap.size J) (hm:W.cell? ⟨Bm,o,none⟩=some (.map (some b))) (hb:W.heap[b]? =some (.map es clock)) (h0:J [] W):
 CallsIn F n Tryz.prog 178 #[.func (.yield l) #[] #[],.pointer (some ⟨Bm,o,none⟩)] W fun e W'=>(∃v,e=.returned v)/\∃ss:List (Int×ByteArray×ByteArray),ss.Perm xs/\J ss W':=by
 have mixed:=Tryz.cmpI.mixed;have u177:=Tryz.underlying177;have u70:=Tryz.underlying70;refine callsIn_of_wp Tryz.func178 rfl eb ?_ hro;simp only[Tryz.ntmps178,List.size_toArray,List.length_cons,List.length_nil,Nat.reduceAdd,Nat.reduceSub,Array.replicate_succ,Array.replicate_zero,List.push_toArray,List.append_toArray,List.nil_append,List.cons_append];gi_wp2_with (first
  | (gi_at_range;refine wpListIn_range_raw rfl _ 177 rfl 70 4 Tryz.underlying177 b es clock rfl hb ?_)
  | gi_in)
 go_frame
 gi_loopw [3] (fun _ wr=>∃(seen:Array Nat) (ss rest:List (Int×ByteArray×ByteArray)),ItE b W.heap.size es clock seen wr/\xs.Perm (ss++rest)/\(leftOf es seen).toList.map (·.key)=rest.map encK/\J ss wr)
  (fun _ wr=>itLeft es (wr.heap[W.heap.size]?))
 case atStart=>
  refine⟨#[],[],xs,⟨?_,?_⟩,by simp,?_,hJ [] W _ none h0 (World.grownBy_alloc _ _ none) (fun r e=>by cases e)⟩
  ·show(W.heap.push _)[_]? =_;rw[Array.getElem?_push_lt (Array.getElem?_eq_some_iff.1 hb).1,<-Array.getElem?_eq_getElem];exact hb
  ·show(W.heap.push _)[_]? =_;simp
  ·rw[leftOf_nil];exact Cw
 case round=>
  obtain⟨seen,ss,rest,hit,hp,hk,pJ⟩:=hrel;gi_wp2_with (first
   | (gi_at_next;refine wpListIn_next_raw rfl _ rfl b W.heap.size es clock seen hold rfl hit ?_ ?_)
   | gi_in)
  ·intro j5;gi_wp2
   go_end0
   have hr0:rest=[]:=by
    rw[j5]at hk;simpa using hk.symm
   subst hr0;rw[List.append_nil]at hp;exact⟨⟨_,rfl⟩,ss,hp.symm,pJ⟩
  ·intro e w2 hem Eb gB lz;obtain⟨i,hi⟩:=List.getElem?_of_mem (show e∈(leftOf es seen).toList by simpa using hem);obtain⟨x,hx,hkx⟩:∃x,rest[i]? =some x/\e.key=encK x:=by
    have:=congrArg (fun l=>l[i]?) hk;simp only[List.getElem?_map,hi,Option.map_some]at this;cases hr:rest[i]? with
    | none=>rw[hr]at this;cases this
    | some x=>rw[hr]at this;exact⟨x,rfl,by simpa using this⟩
   have zK:=run_entry_at (P:=Tryz.prog) w2 W.heap.size b clock seen es clock e Eb.hr Eb.hb (Go.mem_left (show e∈(leftOf es seen).toList by simpa using hem)).1 AQ;have xS:=YtdgoeblpcnjlbaaGreatDoor.Av.Dc ⟨hold,AQ⟩ hi;rw[hkx]at zK⊢;have vg:J ss w2:=hJ ss wr w2 (some W.heap.size) pJ gB (fun r e=>by cases e;exact⟨Nat.le_refl _,_,hit.hr,rfl⟩);have hlen:ss.length<xs.length:=by
    have h1:=hp.length_eq;have h2:=(List.getElem?_eq_some_iff.1 hx).1;simp only[List.length_append]at h1;omega
   have hkI:(leftOf es (seen.push e.born)).toList.map (·.key)=(rest.eraseIdx i).map encK:=by
    rw[xS,Go.ChangeMaps.map_eraseIdx,hk,Go.ChangeMaps.map_eraseIdx]
   have hxs2:xs.Perm ((ss++ [x])++rest.eraseIdx i):=hp.trans (by
    rw[List.append_assoc];exact(perm_eraseE hx).append_left ss)
   have ct:(leftOf es (seen.push e.born)).toList.length<(leftOf es seen).toList.length:=by
    rw[xS,List.length_eraseIdx,if_pos (List.getElem?_eq_some_iff.1 hi).1];have:=(List.getElem?_eq_some_iff.1 hi).1;omega
   have hg3:w2.grownBy (w2.alloc (Obj.cells #[.int .i64 x.1,.string x.2.1,.string x.2.2] 70)) none:=World.grownBy_alloc _ _ none;have Dt:=hJ ss w2 _ none vg hg3 (fun r e=>by cases e);have hit3:ItE b W.heap.size es clock (seen.push e.born) (w2.alloc (Obj.cells #[.int .i64 x.1,.string x.2.1,.string x.2.2] 70)):=
    ⟨(hg3.block b (Array.getElem?_eq_some_iff.1 Eb.hb).1 (by simp)).trans Eb.hb,(hg3.block _ (Array.getElem?_eq_some_iff.1 Eb.hr).1 (by simp)).trans Eb.hr⟩
   obtain⟨fn,tmps,assign,body,hy,hR⟩:=hY ss x _ Dt hlen;have oM:itLeft es (wr.heap[W.heap.size]?)=(leftOf es seen).toList.length:=by rw[hit.hr];rfl
   unfold encK at zK hy⊢
   clear hem hi hk hp hx xS;gi_wp2
   refine hR.mono ?_;rintro e4 W4 ⟨rfl,hJ4,Iu⟩;have hit4:=hit3.of_walks Iu;have hm2:itLeft es (W4.heap[W.heap.size]?)=(leftOf es (seen.push e.born)).toList.length:=by rw[hit4.hr];rfl
   gi_wp2
   go_roundw
   case rel=>exact⟨_,ss++ [x],rest.eraseIdx i,hit4,hxs2,hkI,hJ4⟩
   case measure=>rw[oM,hm2];exact ct
end Go.Proofs
namespace Go.Proofs
open Go.RowKit Go.Maps Go.Sort Go.Shelf List
abbrev EaR3:=Int×ByteArray×ByteArray
def apAssignE:Code:=(Code.region 2 #[{dst:=some 5,op:=Op.alloc 70,type:=0,pos:= "iter.go:51",after:= #[],guard:=none},{dst:=none,op:=Op.store 70 (Operand.tmp 5) (Operand.tmp 7),type:=0,pos:= "iter.go:51",after:= #[{on:=0,ground:=Ground.data},{on:=0,ground:=Ground.phase}],guard:=none}] false)
def apBodyE:Code:=(Code.block 1 (Code.region 3 #[{dst:=some 8,op:=Op.load 60 (Operand.tmp 2),type:=60,pos:= "iter.go:52",after:= #[],guard:=none},{dst:=some 9,op:=Op.load 70 (Operand.tmp 5),type:=70,pos:= "iter.go:52",after:= #[],guard:=none},{dst:=some 10,op:=Op.buildSlice 60 1 #[(0,Operand.tmp 9)],type:=60,pos:= "iter.go:52",after:= #[{on:=1,ground:=Ground.data}],guard:=none},{dst:=some 11,op:=Op.call {callee:=Callee.builtin Builtin.append,args:= #[Operand.tmp 8,Operand.tmp 10],argTypes:= #[60,60]},type:=60,pos:= "iter.go:52",after:= #[{on:=0,ground:=Ground.data},{on:=2,ground:=Ground.data}],guard:=none},{dst:=none,op:=Op.store 60 (Operand.tmp 2) (Operand.tmp 11),type:=0,pos:= "iter.go:52",after:= #[{on:=3,ground:=Ground.data},{on:=3,ground:=Ground.chain},{on:=0,ground:=Ground.phase},{on:=1,ground:=Ground.phase},{on:=2,ground:=Ground.phase},{on:=3,ground:=Ground.phase}],guard:=none}] false))
def apRecE (fn:FuncId) (sv:Value) (Bs D:Nat) (st:LoopState) (pend:Option Code):Loop:=
 {state:=st,pending:=pend,fn,tmps:= #[.slice none 0 0,sv,.pointer (some ⟨Bs,0,none⟩),undef,.slice none 0 0,undef,sv,undef,undef,undef,undef,undef,undef],params:= #[7],assign:=apAssignE,body:=apBodyE,defers:=D}
structure ApE (w0:World) (fn:FuncId) (sv:Value) (Bs l D:Nat) (ss:List EaR3) (W:World):Prop where
 box:∃v,W.heap[Bs]? =some (.cells #[v] 60 (0,0))/\W.ownsRow w0.heap.size 70 3 v ss.length (ss.flatMap encEc)/\(v=.slice none 0 0↔ss=[])
 L:W.heap[l]? =some (.loop (apRecE fn sv Bs D .ready none))
 K:W.heap[D]? =some (.deferred (some []))
 below:Below w0.heap.size w0 W
theorem apE_abides (w0:World) (fn:FuncId) (sv:Value) (Bs l D B:Nat) (hB:w0.heap.size<=B):AbidesFrom B (ApE w0 fn sv Bs l D):=fun s W W' row h hg nj=>by
 have hrow':∀r,row=some r->∃o:Obj,W.heap[r]? =some o/\o.isWalk=true:=fun r e=>(nj r e).2
 obtain⟨v,hv,hr,hn⟩:=h.box;exact⟨⟨v,(grownBy_keeps hg hrow' hv rfl).trans hv,ownsRow_abides_a hr hg hrow',hn⟩,(grownBy_keeps hg hrow' h.L rfl).trans h.L,(grownBy_keeps hg hrow' h.K rfl).trans h.K,
  h.below.grown hg h.below.size (fun k e=>Nat.le_trans hB (nj k e).1)⟩
theorem ea_new (W:World) (x:EaR3) (j:Nat) (u:Value) (hj:(encEc x)[j]? =some u):(W.alloc (Obj.cells #[.int .i64 x.1,.string x.2.1,.string x.2.2] 70)).cell? ((⟨W.heap.size,0,none⟩:Addr).add j)=some u:=by
 have hb:(W.alloc (Obj.cells #[.int .i64 x.1,.string x.2.1,.string x.2.2] 70)).heap[W.heap.size]? =some (Obj.cells #[.int .i64 x.1,.string x.2.1,.string x.2.2] 70):=World.alloc_heap_new W _;rw[Addr.add_lit];simp only[World.cell?,hb,Nat.zero_add];rw[<-hj];simp[encEc]
theorem ea_one (x:EaR3):∀u∈encEc x,u.oneCell'=true:=fun v hv=>by
 simp only[encEc,List.mem_cons,List.not_mem_nil,or_false]at hv;rcases hv with rfl | rfl | rfl<;>rfl
theorem apYieldE (F:Fence) (m:Nat) (w0:World) (fn:FuncId) (RD:F.fn fn) (sv:Value) (Bs l D:Nat) (R2:Bs≠l) (hDl:D≠l) (hDB:D≠Bs) (h0B:w0.heap.size<=Bs) (h0l:w0.heap.size<=l)
 (N:Nat) (hN:N<=maxLen) (hNb:N*40<=140737488355328) (ss:List EaR3) (x:EaR3) (W:World) (h:ApE w0 fn sv Bs l D ss W) (hlen:ss.length<N):
 YieldAt F m Tryz.prog l #[encK x] W fun e W'=>e=.returned (.bool true)/\ApE w0 fn sv Bs l D (ss++ [x]) W'/\KeepsWalks W W':=by
 have mixed:=Tryz.cmpI.mixed;have dr:(60:Nat)≠70:=by decide
 have u60:=Tryz.underlying60;have u70:=Tryz.underlying70;have i70:(Tryz.prog.info? 70).map (fun i=>(i.zero,i.size,i.bytes))=some (some (.agg #[.int .i64 0,.string ⟨#[]⟩,.string ⟨#[]⟩]),3,40):=by kernel_rfl
 obtain⟨i0,hi,Ri,Ff,Jj⟩:=info_parts i70;unfold encK
 refine⟨fn,#[.slice none 0 0,sv,.pointer (some ⟨Bs,0,none⟩),undef,.slice none 0 0,undef,sv,.agg #[.int .i64 x.1,.string x.2.1,.string x.2.2],undef,undef,undef,undef,undef],apAssignE,apBodyE,by simpa[apRecE]using run_yield (P:=Tryz.prog) (args:= #[.agg #[.int .i64 x.1,.string x.2.1,.string x.2.2]]) h.L rfl,roundIn_of_wpIn RD ?_⟩;have hlW:l<W.heap.size:=(Array.getElem?_eq_some_iff.1 h.L).1;have Ec:=h.below.size;obtain⟨W1,hW1⟩:∃W1,W.alloc (Obj.cells #[.int .i64 x.1,.string x.2.1,.string x.2.2] 70)=W1:=⟨_,rfl⟩;have tN:W.grownBy W1 none:=by rw[<-hW1];exact World.grownBy_alloc _ _ none
 have iT:KeepsWalks W W1:=by rw[<-hW1];exact KeepsWalks.alloc _ _
 have h1:ApE w0 fn sv Bs l D ss W1:=apE_abides w0 fn sv Bs l D _ (Nat.le_refl _) ss W W1 none h tN (fun r e=>by cases e);have hx1:W1.heap[W.heap.size]? =some (Obj.cells #[.int .i64 x.1,.string x.2.1,.string x.2.2] 70 (0,0)):=by rw[<-hW1];exact World.alloc_heap_new W _
 obtain⟨v,hv,nj,_⟩:=h1.box;have hl:l<W1.heap.size:=(Array.getElem?_eq_some_iff.1 h1.L).1;have hbr:=run_beginRound (P:=Tryz.prog) h1.L rfl;obtain⟨W2,hW2⟩:∃W2,W1.putObj l (.loop {apRecE fn sv Bs D .ready none with state:=.busy})=W2:=⟨_,rfl⟩
 rw[hW2]at hbr;have gB:W1.grownBy W2 (some l):=by rw[<-hW2];exact grownBy_putObj_a _ _ _
 have ir:KeepsWalks W W2:=iT.trans (by rw[<-hW2];exact KeepsWalks.putObj _ h1.L rfl);have I4:W2.heap[Bs]? =some (.cells #[v] 60 (0,0)):=by rw[<-hW2];exact(World.putObj_heap_other R2).trans hv
 have hx2:W2.heap[W.heap.size]? =some (Obj.cells #[.int .i64 x.1,.string x.2.1,.string x.2.2] 70 (0,0)):=by rw[<-hW2];exact(World.putObj_heap_other (by omega)).trans hx1
 have hK2:W2.heap[D]? =some (.deferred (some [])):=by rw[<-hW2];exact(World.putObj_heap_other hDl).trans h1.K
 have hL2:W2.heap[l]? =some (.loop {apRecE fn sv Bs D .ready none with state:=.busy}):=by rw[<-hW2];exact World.putObj_heap_same hl
 have hrow2:W2.ownsRow w0.heap.size 70 3 v ss.length (ss.flatMap encEc):=nj.kept gB (ownsRow_ne_a nj h1.L (fun cur e=>by first | cases e | exact dr (Obj.cells.inj e).2.1))
 have Dx:Below w0.heap.size w0 W2:=h1.below.grown gB h1.below.size (fun k e=>by cases e;exact h0l);obtain⟨j8,jO⟩:=cell_of_box_a I4;have q0:W2.cell? ⟨W.heap.size,0,none⟩=some (.int .i64 x.1):=by simp[World.cell?,hx2]
 have q1:W2.cell? ⟨W.heap.size,1,none⟩=some (.string x.2.1):=by simp[World.cell?,hx2]
 have q2:W2.cell? ⟨W.heap.size,2,none⟩=some (.string x.2.2):=by simp[World.cell?,hx2]
 have hBlt:Bs<W2.heap.size:=(Array.getElem?_eq_some_iff.1 I4).1;have jf:l<W2.heap.size:=(Array.getElem?_eq_some_iff.1 hL2).1;have hDlt:D<W2.heap.size:=(Array.getElem?_eq_some_iff.1 hK2).1;have mB:∀{j:Nat} {o:Obj},W2.heap[j]? =some o->(∀cur,o≠ .cells cur 70 (0,0))->some j≠v.ownBlock:=fun hj RH=>by
  rcases ownsRow_ne_a hrow2 hj RH with e | e
  ·rw[e];simp
  ·exact fun e'=>e e'.symm
 clear hW2;unfold apAssignE
 gi_wp2_with gi_round_op_a
 clear hW1;unfold apBodyE
 gi_wp2_with (first
  | (gi_at_builtin;refine wpListIn_append_own _ rfl _ _ 60 rfl w0.heap.size 70 i0 (.agg #[.int .i64 0,.string ⟨#[]⟩,.string ⟨#[]⟩]) 3 40 Tryz.underlying60 hi Ri Ff Jj rfl (by decide) _ _ _ rfl (hrow2.alloc _) ⟨W2.heap.size,0,none⟩ 1 1 (encEc x) rfl rfl (ea_new W2 x) (ea_one x) (by omega) (by omega) (by have:=Dx.size;simp;omega) ?_;intro v' w3 UD hg3 hnil3
     have hv3:w3.heap[Bs]? =some (.cells #[v] 60 (0,0)):=(hg3.block Bs (by simp;omega) (mB I4 (fun cur e=>by first | cases e | exact dr (Obj.cells.inj e).2.1))).trans ((Below.heap_alloc _ _ Bs hBlt).trans I4)
     obtain⟨LD,F4⟩:=cell_of_box_a hv3;obtain⟨g',cap',cur',rfl,hbase',hgb',Bu,lJ,hr3,hr4⟩:∃g' cap' cur',v'=.slice (some ⟨g',0,none⟩) (ss.length+1) cap'/\w0.heap.size<=g'/\w3.heap[g']? =some (.cells cur' 70 (0,0))/\ss.length+1<=cap'/\cap'<=maxLen/\cur'.size=cap'*3/\cur'.toList.take ((ss.length+1)*3)=ss.flatMap encEc++encEc x:=by
      rcases UD.2 with⟨_,h0⟩ | h'
      ·exact absurd h0 (by omega)
      ·exact h'
     go_frame)
  | gi_round_op_a)
 have hg3':(W2.alloc (Obj.cells #[.int .i64 x.1,.string x.2.1,.string x.2.2] 70)).grownBy w3 v.ownBlock:=hg3;have hL3:w3.heap[l]? =some (.loop {apRecE fn sv Bs D .ready none with state:=.busy}):=(hg3'.block l (by simp;omega) (mB hL2 (fun cur e=>by first | cases e | exact dr (Obj.cells.inj e).2.1))).trans ((Below.heap_alloc _ _ l jf).trans hL2)
 have hK3:w3.heap[D]? =some (.deferred (some [])):=(hg3'.block D (by simp;omega) (mB hK2 (fun cur e=>by first | cases e | exact dr (Obj.cells.inj e).2.1))).trans ((Below.heap_alloc _ _ D hDlt).trans hK2)
 obtain⟨w4,hw4⟩:∃w4,w3.setCell ⟨Bs,0,none⟩ (.slice (some ⟨g',0,none⟩) (ss.length+1) cap')=w4:=⟨_,rfl⟩;rw[hw4];have hg4:w3.grownBy w4 (some Bs):=by rw[<-hw4];exact grownBy_setCell0_a _ _ _
 have hv4:w4.heap[Bs]? =some (.cells #[.slice (some ⟨g',0,none⟩) (ss.length+1) cap'] 60 (0,0)):=by rw[<-hw4];exact heap_setCell_box_a _ hv3
 have hL4:w4.heap[l]? =some (.loop {apRecE fn sv Bs D .ready none with state:=.busy}):=(hg4.block l (Array.getElem?_eq_some_iff.1 hL3).1 (fun e=>R2 (by cases e;rfl))).trans hL3
 have hK4:w4.heap[D]? =some (.deferred (some [])):=(hg4.block D (Array.getElem?_eq_some_iff.1 hK3).1 (fun e=>hDB (by cases e;rfl))).trans hK3;have hrow4:=UD.kept hg4 (ownsRow_ne_a UD hv3 (fun cur e=>by first | cases e | exact dr (Obj.cells.inj e).2.1))
 have Xi:l<w4.heap.size:=(Array.getElem?_eq_some_iff.1 hL4).1;have hb3:Below w0.heap.size w0 w3:=(Dx.alloc Dx.size _).grown hg3' (by have:=Dx.size;simp;omega) (fun k e=>(hrow2.lt k e).1);have hb4:Below w0.heap.size w0 w4:=hb3.grown hg4 hb3.size (fun k e=>by cases e;exact h0B);have Iu:KeepsWalks W w4:=((ir.trans (KeepsWalks.alloc _ _)).trans (KeepsWalks.of_grownBy hg3' (ownsRow_not_walk_a (hrow2.alloc _)))).trans (by rw[<-hw4];exact KeepsWalks.setCell _ _ _);clear hw4;refine⟨_,_,run_endRound none hL4,rfl,⟨⟨_,(World.putObj_heap_other R2).trans hv4,?_,by simp⟩,World.putObj_heap_same Xi,(World.putObj_heap_other hDl).trans hK4,hb4.grown (grownBy_putObj_a _ _ _) hb4.size (fun k e=>by cases e;exact h0l)⟩,Iu.trans (KeepsWalks.putObj _ hL4 rfl)⟩;have:=hrow4.kept (grownBy_putObj_a w4 l (.loop {{apRecE fn sv Bs D .ready none with state:=.busy}with state:=if(none:Option Code).isNone then .ready else .done,pending:=none})) (ownsRow_ne_a hrow4 hL4 (fun cur e=>by first | cases e | exact dr (Obj.cells.inj e).2.1))
 simpa[List.flatMap_append]using this
end Go.Proofs
namespace Go.Proofs
open Go.RowKit Go.Maps Go.Sort Go.Shelf List
theorem Tryz.appendSeqE_in (F:Fence) (n:Nat) (ez:F.fn 235) (hro:F.round=none) (hn:2<=n) (g:Nat) (lb:Array Value) (hFg:F.fn g) (eg:∀args w,(callFunc g args).run Tryz.prog w=.ok (.enter g args) w)
 (S:List EaR3->Prop) (N:Nat) (hN:N<=maxLen) (hNb:N*40<=140737488355328) (w:World) (wN:SeqGives F (n - 1) Tryz.prog g lb encK S N w):
 CallsIn F n Tryz.prog 235 #[.slice none 0 0,.func (.func g) #[] lb] w fun e w'=>∃(v:Value) (ss:List EaR3),e=.returned v/\S ss/\w'.ownsRow w.heap.size 70 3 v ss.length (ss.flatMap encEc)/\(v=.slice none 0 0↔ss=[])/\Below w.heap.size w w':=by
 have h1:1<=n:=by omega
 have mixed:=Tryz.cmpI.mixed;have dr:(60:Nat)≠70:=by decide
 have u60:=Tryz.underlying60;have u70:=Tryz.underlying70;refine callsIn_of_wp_marks Tryz.func235 rfl ez ?_ hro;simp only[Tryz.ntmps235,List.size_toArray,List.length_cons,List.length_nil,Nat.reduceAdd,Nat.reduceSub,Array.replicate_succ,Array.replicate_zero,List.push_toArray,List.append_toArray,List.nil_append,List.cons_append];gi_wp2
 refine wpIn_rangeFunc ?_;intro fn RD;rw[hro];obtain⟨W0,hW0⟩:∃W0,w.alloc (.cells #[.slice none 0 0] 60)=W0:=⟨_,rfl⟩;have z8:W0.heap.size=w.heap.size+1:=by rw[<-hW0];simp
 have QX:W0.heap[w.heap.size]? =some (.cells #[.slice none 0 0] 60 (0,0)):=by rw[<-hW0];exact World.alloc_heap_new w _
 have Ec:Below w.heap.size w W0:=by rw[<-hW0];exact(Below.refl _ w).alloc (Nat.le_refl _) _
 rw[hW0];obtain⟨W1,hW1⟩:∃W1,(W0.alloc (.deferred (some []))).alloc (.loop (apRecE fn (.func (.func g) #[] lb) w.heap.size W0.heap.size .ready none))=W1:=⟨_,rfl⟩;have hold:∀k,k<W0.heap.size->W1.heap[k]? =W0.heap[k]? :=fun k hk=>by
  rw[<-hW1];exact(Below.heap_alloc _ _ k (by simp;omega)).trans (Below.heap_alloc _ _ k hk)
 have lC:Below w.heap.size w W1:=by rw[<-hW1];exact(Ec.alloc Ec.size _).alloc (by have:=Ec.size;simp;omega) _
 have u5:W1.heap.size=W0.heap.size+2:=by rw[<-hW1];simp
 have hM:ApE w fn (.func (.func g) #[] lb) w.heap.size (W0.heap.size+1) W0.heap.size [] W1:=
  ⟨⟨_,(hold w.heap.size (by omega)).trans QX,⟨rfl,.inl ⟨rfl,rfl⟩⟩,by simp⟩,
   by rw[<-hW1];have:=World.alloc_heap_new (W0.alloc (.deferred (some []))) (.loop (apRecE fn (.func (.func g) #[] lb) w.heap.size W0.heap.size .ready none));rwa[World.size_alloc]at this,
   by rw[<-hW1];exact(Below.heap_alloc _ _ _ (by simp)).trans (World.alloc_heap_new W0 _),lC⟩
 refine⟨W0.heap.size+1,[{target:=.collected W0.heap.size,args:= #[]}],W1,{target:=.fn (.func g) lb,args:= #[.func (.yield (W0.heap.size+1)) #[] #[]]},W1,g,
  #[.func (.yield (W0.heap.size+1)) #[] #[]]++lb,W1,?_,?_,?_,?_,fun _=>h1,?_⟩
 ·rw[<-hW1];exact run_enterLoop_outer _ _ _ _ _
 ·simp[resolve,go_sem]
 ·intro f' JK;simp[Target.leads]at JK;subst JK;exact hFg
 ·simp[invoke,go_sem,eg]
 ·refine(wN (W0.heap.size+1) (ApE w fn (.func (.func g) #[] lb) w.heap.size (W0.heap.size+1) W0.heap.size) W1 lC (apE_abides _ _ _ _ _ _ _ lC.size)
   (fun pre x W hJ hl=>apYieldE F (n - 1 - 1) w fn RD _ w.heap.size (W0.heap.size+1) W0.heap.size (by omega) (by omega) (by omega) (Nat.le_refl _) (by omega) N hN hNb pre x W hJ hl) hM).mono ?_
  rintro e W2 ⟨⟨v0,rfl⟩,ss,hS,h2⟩;obtain⟨v,hv,nj,Zk⟩:=h2.box;have hend:=run_endLoop (P:=Tryz.prog) h2.L (by simp[apRecE]);obtain⟨W3,hW3⟩:∃W3,W2.putObj (W0.heap.size+1) (.loop {apRecE fn (.func (.func g) #[] lb) w.heap.size W0.heap.size .ready none with state:=.exhausted})=W3:=⟨_,rfl⟩
  rw[hW3]at hend;have hg3:W2.grownBy W3 (some (W0.heap.size+1)):=by rw[<-hW3];exact grownBy_putObj_a _ _ _
  have hv3:W3.heap[w.heap.size]? =some (.cells #[v] 60 (0,0)):=by rw[<-hW3];exact(World.putObj_heap_other (by omega)).trans hv
  have hK3:W3.heap[W0.heap.size]? =some (.deferred (some [])):=by rw[<-hW3];exact(World.putObj_heap_other (by omega)).trans h2.K
  have hrow3:=nj.kept hg3 (ownsRow_ne_a nj h2.L (fun cur e=>by first | cases e | exact dr (Obj.cells.inj e).2.1))
  have hb3:Below w.heap.size w W3:=h2.below.grown hg3 h2.below.size (fun k e=>by cases e;omega);obtain⟨LD,F4⟩:=cell_of_box_a hv3;clear hW3;refine⟨none,W3,hend,?_⟩;gi_wp2
  rw[<-z8];refine⟨by simp,.inl ⟨_,_,rfl,run_takeDeferred hK3,?_⟩⟩;exact⟨_,results_tmp rfl _ _ _,v,ss,rfl,hS,hrow3.kept (grownBy_putObj_a _ _ _) (ownsRow_ne_a hrow3 hK3 (fun cur e=>by first | cases e | exact dr (Obj.cells.inj e).2.1)),Zk,hb3.grown (grownBy_putObj_a _ _ _) hb3.size (fun k e=>by cases e;omega)⟩
end Go.Proofs

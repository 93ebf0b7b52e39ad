/- ReadsFound. Text 15 of 17. -/
import Derived.Test.YtdgoeblpcnjlbaaGreatDoorM14
set_option linter.all false
set_option maxRecDepth 100000
set_option maxHeartbeats 64000000
namespace Go.Proofs.YtdgoeblpcnjlbaaGreatDoor.Av
open Go.RowKit List
def sbF (k:Int) (r t v:ByteArray):ByteArray×ByteArray:=if k=3 then(r,v)else if k=1 then(t,v)else(⟨#[]⟩,⟨#[]⟩)
theorem t361 (k:Int) (r t v l:ByteArray) (ek en:Int) (es:ByteArray) (aR:List Ex) (a b:List St) (p:ByteArray) (ps:List ByteArray):
 af Tryz.prog 234 [encS (.mk k r t v l (.mk ek en es aR) a b p ps)] (·=.dJ [.str (sbF k r t v).1,.str (sbF k r t v).2]):=by
 rw[ay,sbF];refine af.intro c361 400 (by simp) 20 ?_;by_cases h3:k=3
 ·rw[if_pos h3];simp -implicitDefEqProofs only[s361,h3,decide_true,go_sem];repeat' (first | ((with_reducible refine aD ?_);simp -implicitDefEqProofs only[h3,go_sem]) | (with_reducible refine aA.mk ?_ ?_) | (with_reducible refine And.intro ?_ ?_) | ((with_reducible refine bz ?_);simp -implicitDefEqProofs only[r361,push_cast,go_sem_proc]) | intro _)
 ·rw[if_neg h3];by_cases h1:k=1
  ·rw[if_pos h1];simp -implicitDefEqProofs only[s361,h1,decide_true,decide_false,Int.reduceEq,go_sem];repeat' (first | ((with_reducible refine aD ?_);simp -implicitDefEqProofs only[h1,Int.reduceEq,go_sem]) | (with_reducible refine aA.mk ?_ ?_) | (with_reducible refine And.intro ?_ ?_) | ((with_reducible refine bz ?_);simp -implicitDefEqProofs only[r361,push_cast,go_sem_proc]) | intro _)
  ·rw[if_neg h1];simp -implicitDefEqProofs only[s361,h3,h1,decide_false,go_sem];repeat' (first | ((with_reducible refine aD ?_);simp -implicitDefEqProofs only[h3,h1,go_sem]) | (with_reducible refine aA.mk ?_ ?_) | (with_reducible refine And.intro ?_ ?_) | ((with_reducible refine bz ?_);simp -implicitDefEqProofs only[r361,push_cast,go_sem_proc]) | intro _)
def rVV (P:bH) (nm:ByteArray) (S:List (Int×Int)) (x4 x5:V):V:=.bc [.fs (P.procs.map aF),.fs (P.main.map encS),.str nm,.db (S.map enc2) (trG S),x4,x5]
def CS (S:List (Int×Int)) (i:Nat) (k:Int):Bool:=decide (((i:Int),k)∈S)
section
variable (P:bH) (nm:ByteArray) (S:List (Int×Int)) (x4 x5:V) (hx4:al x4=true) (hx5:al x5=true)
include hx4 hx5
theorem t314 (role:ByteArray) (k:Int) (r t v l:ByteArray) (ek en:Int) (es:ByteArray) (aR:List Ex) (a b:List St) (p:ByteArray) (ps:List ByteArray):
 af Tryz.prog 176 [rVV P nm S x4 x5,encS (.mk k r t v l (.mk ek en es aR) a b p ps),.str role] (·=.agg [.int .i64 (procI P.procs p),.int .i64 (ixR role ps)]):=by
 have gO:=t30 P p;have oU:=t58 ps role;rw[<-ixR]at oU;simp only[aP]at gO;rw[ay];unfold rVV
 refine af.intro c314 400 (by simp) 20 ?_;simp -implicitDefEqProofs only[s314,go_sem];repeat' (first | ((first | ((with_reducible first | refine bj gO ?_ ?_ | refine bj oU ?_ ?_);(·simp[ae,al,cm,aq,ah,aE])) | ((with_reducible apply cj);(·simp -implicitDefEqProofs only[List.map_cons,List.map_nil,aq,ah,aE,push_cast,go_sem_proc]<;>rfl);(with_reducible first | exact gO | exact oU);(·rfl)) | (with_reducible refine aD ?_));simp -implicitDefEqProofs only[go_sem]) | (with_reducible refine aA.mk ?_ ?_) | (with_reducible refine And.intro ?_ ?_) | ((with_reducible refine bz ?_);simp -implicitDefEqProofs only[r314,push_cast,go_sem_proc]) | intro _)
theorem t359 (role:ByteArray) (k:Int) (r t v l:ByteArray) (ek en:Int) (es:ByteArray) (aR:List Ex) (a b:List St) (p:ByteArray) (ps:List ByteArray):
 af Tryz.prog 232 [encS (.mk k r t v l (.mk ek en es aR) a b p ps),.bc [rVV P nm S x4 x5],.bc [.str role]] (·=.bool (decide ((procI P.procs p,ixR role ps)∈S))):=by
 have h314:=t314 P nm S x4 x5 hx4 hx5 role k r t v l ek en es aR a b p ps;rw[ay]at h314⊢;unfold rVV at*
 refine af.intro c359 400 (by simp) 20 ?_;simp -implicitDefEqProofs only[s359,go_sem];repeat' (first | ((first | ((with_reducible refine bj h314 ?_ ?_);(·simp[ae,al,cm,aq,ah,aE,norefL_enc2,norefL_trG,hx4,hx5])) | ((with_reducible apply cj);(·simp -implicitDefEqProofs only[List.map_cons,List.map_nil,aq,ah,aE,norefL_enc2,norefL_trG,hx4,hx5,push_cast,go_sem_proc]<;>rfl);(with_reducible exact h314);(·rfl)) | (with_reducible refine aD ?_));simp -implicitDefEqProofs only[kOk2,mres2,go_sem]) | (with_reducible refine aA.mk ?_ ?_) | (with_reducible refine And.intro ?_ ?_) | ((with_reducible refine bz ?_);simp -implicitDefEqProofs only[r359,push_cast,go_sem_proc]) | intro _)
theorem t360 (role:ByteArray) (k:Int) (r t v l:ByteArray) (ek en:Int) (es:ByteArray) (aR:List Ex) (a b:List St) (p:ByteArray) (ps:List ByteArray):
 af Tryz.prog 233 [encS (.mk k r t v l (.mk ek en es aR) a b p ps),.bc [.str role],.bc [rVV P nm S x4 x5]] (·=.bool (decide (role≠⟨#[]⟩) && seF k r t v nm role)):=by
 have h361:=t361 k r t v l ek en es aR a b p ps;have hv:(decide (role≠⟨#[]⟩) && seF k r t v nm role)=(decide (role≠⟨#[]⟩) && (decide ((sbF k r t v).1=role) && decide ((sbF k r t v).2=nm))):=by
  by_cases hr:role=⟨#[]⟩
  ·simp[hr]
  ·have rV:(⟨#[]⟩:ByteArray)≠role:=Ne.symm hr;rw[decide_eq_true hr,Bool.true_and,Bool.true_and,seF,sbF];by_cases h3:k=3
   ·simp[h3,Bool.and_comm]
   ·by_cases h1:k=1
    ·simp[h1,Bool.and_comm]
    ·simp[h3,h1,rV]
 rw[hv];generalize (sbF k r t v).1=A at*;generalize (sbF k r t v).2=B at*;rw[ay]at h361⊢;unfold rVV
 refine af.intro c360 400 (by simp) 20 ?_;simp -implicitDefEqProofs only[s360,go_sem];by_cases hr:role=⟨#[]⟩
 ·repeat' (first | ((first | ((with_reducible refine bj h361 ?_ ?_);(·simp[ae,al,cm])) | ((with_reducible apply cj);(·simp -implicitDefEqProofs only[List.map_cons,List.map_nil,push_cast,go_sem_proc]<;>rfl);(with_reducible exact h361);(·rfl)) | (with_reducible refine aD ?_));simp -implicitDefEqProofs only[hr,decide_true,decide_false,go_sem]) | (with_reducible refine aA.mk ?_ ?_) | (with_reducible refine And.intro ?_ ?_) | ((with_reducible refine bz ?_);simp -implicitDefEqProofs only[r360,push_cast,go_sem_proc]) | intro _)
  all_goals (try simp)
 ·by_cases hA:A=role
  ·repeat' (first | ((first | ((with_reducible refine bj h361 ?_ ?_);(·simp[ae,al,cm])) | ((with_reducible apply cj);(·simp -implicitDefEqProofs only[List.map_cons,List.map_nil,push_cast,go_sem_proc]<;>rfl);(with_reducible exact h361);(·rfl)) | (with_reducible refine aD ?_));simp -implicitDefEqProofs only[hr,hA,decide_true,decide_false,go_sem]) | (with_reducible refine aA.mk ?_ ?_) | (with_reducible refine And.intro ?_ ?_) | ((with_reducible refine bz ?_);simp -implicitDefEqProofs only[r360,push_cast,go_sem_proc]) | intro _)
   all_goals (try simp[hr])
  ·repeat' (first | ((first | ((with_reducible refine bj h361 ?_ ?_);(·simp[ae,al,cm])) | ((with_reducible apply cj);(·simp -implicitDefEqProofs only[List.map_cons,List.map_nil,push_cast,go_sem_proc]<;>rfl);(with_reducible exact h361);(·rfl)) | (with_reducible refine aD ?_));simp -implicitDefEqProofs only[hr,hA,decide_true,decide_false,go_sem]) | (with_reducible refine aA.mk ?_ ?_) | (with_reducible refine And.intro ?_ ?_) | ((with_reducible refine bz ?_);simp -implicitDefEqProofs only[r360,push_cast,go_sem_proc]) | intro _)
   all_goals (try simp[hr])
end
theorem t285g (P:bH) (C:Nat->Int->Bool) (nm role:ByteArray) (g g2:FuncId) (bB caps2:List V) (hn:ae bB=true) (nY:ae caps2=true)
 (k:Int) (r t v l:ByteArray) (ek en:Int) (es:ByteArray) (aR:List Ex) (a b:List St) (p:ByteArray) (ps:List ByteArray)
 (hg:k=5->af Tryz.prog g (encS (.mk k r t v l (.mk ek en es aR) a b p ps)::bB) (·=.bool (C (procI P.procs p).toNat (ixR role ps))))
 (gB:af Tryz.prog g2 (encS (.mk k r t v l (.mk ek en es aR) a b p ps)::caps2) (·=.bool (decide (role≠⟨#[]⟩) && seF k r t v nm role)))
 (ha:af Tryz.prog 54 [aP P,.fs (a.map encS),.a6 g [] bB,.a6 g2 [] caps2] (·=.bool (ulL P.procs C nm role a)))
 (hb:af Tryz.prog 54 [aP P,.fs (b.map encS),.a6 g [] bB,.a6 g2 [] caps2] (·=.bool (ulL P.procs C nm role b))):
 af Tryz.prog 133 [encS (.mk k r t v l (.mk ek en es aR) a b p ps),.bc [.a6 g2 [] caps2],.bc [.fs (P.procs.map aF),.fs (P.main.map encS)],.bc [.a6 g [] bB]] (·=.bool (!ulS P.procs C nm role (.mk k r t v l (.mk ek en es aR) a b p ps))):=by
 simp only[aP]at ha hb;simp only[ulS];generalize ulL P.procs C nm role a=A at*;generalize ulL P.procs C nm role b=B at*;generalize C (procI P.procs p).toNat (ixR role ps)=D at*;have hE:(k=4\/k=5)->(decide (role≠⟨#[]⟩) && seF k r t v nm role)=false:=by
  rintro(rfl | rfl)<;>simp[seF]
 generalize (decide (role≠⟨#[]⟩) && seF k r t v nm role)=E at*;rw[ay]at hg gB⊢;refine af.intro aac 400 (by simp) 20 ?_;by_cases h5:k=5
 ·have hg:=hg h5;subst h5;simp -implicitDefEqProofs only[TP,Int.reduceEq,go_sem];repeat' (first | ((first | ((with_reducible first | refine bj gB ?_ ?_ | refine bj hg ?_ ?_);(·simp[ae,al,cm,hn,nY])) | ((with_reducible apply cj);(·simp -implicitDefEqProofs only[List.map_cons,List.map_nil,hn,nY,push_cast,go_sem_proc]<;>rfl);(with_reducible first | exact gB | exact hg);(·rfl)) | (with_reducible refine aD ?_));simp -implicitDefEqProofs only[go_sem]) | (with_reducible refine aA.mk ?_ ?_) | (with_reducible refine And.intro ?_ ?_) | ((with_reducible refine bz ?_);simp -implicitDefEqProofs only[TQ,push_cast,go_sem_proc]) | intro _)
  all_goals (try simp_all)
 ·clear hg;simp -implicitDefEqProofs only[TP,h5,go_sem];repeat' (first | ((first | ((with_reducible first | refine bj gB ?_ ?_ | refine bj ha ?_ ?_ | refine bj hb ?_ ?_);(·simp[ae,al,cm,hn,nY])) | ((with_reducible apply cj);(·simp -implicitDefEqProofs only[List.map_cons,List.map_nil,hn,nY,push_cast,go_sem_proc]<;>rfl);(with_reducible first | exact gB | exact ha | exact hb);(·rfl)) | (with_reducible refine aD ?_));simp -implicitDefEqProofs only[h5,go_sem]) | (with_reducible refine aA.mk ?_ ?_) | (with_reducible refine And.intro ?_ ?_) | ((with_reducible refine bz ?_);simp -implicitDefEqProofs only[TQ,push_cast,go_sem_proc]) | intro _)
  all_goals (try simp_all)
theorem t234sg (P:bH) (C:Nat->Int->Bool) (nm role:ByteArray) (g g2:FuncId) (bB caps2:List V) (hn:ae bB=true) (nY:ae caps2=true) (hf:∀H n,eI (fz H (n+1)) bB=some bB) (jO:∀H n,eI (fz H (n+1)) caps2=some caps2) (l:List St)
 (h:∀x∈l,af Tryz.prog 133 [encS x,.bc [.a6 g2 [] caps2],.bc [.fs (P.procs.map aF),.fs (P.main.map encS)],.bc [.a6 g [] bB]] (·=.bool (!ulS P.procs C nm role x))):
 af Tryz.prog 54 [aP P,.fs (l.map encS),.a6 g [] bB,.a6 g2 [] caps2] (·=.bool (ulL P.procs C nm role l)):=by
 have JV:=t284 l 133 [] [.bc [.a6 g2 [] caps2],.bc [.fs (P.procs.map aF),.fs (P.main.map encS)],.bc [.a6 g [] bB]] (fun x=> !ulS P.procs C nm role x) rfl (by simp[ae,al,hn,nY,aq,ah]) (fun x hx=>by simpa using h x hx);have ey:l.any (fun x=> !ulS P.procs C nm role x)= !ulL P.procs C nm role l:=by
  rw[ulL_all];clear h JV;induction l with
  | nil=>rfl
  | cons s l ih=>simp only[List.any_cons,List.all_cons,ih,Bool.not_and]
 rw[ey]at JV;simp only[aP];refine af.intro Z1 100 (by simp) 20 ?_;simp -implicitDefEqProofs only[TA,go_sem];repeat' (first | ((first | ((with_reducible refine bj JV ?_ ?_);(·simp[ae,al,cm,hn,nY,hf,jO,aq,ah])) | ((with_reducible apply cj);(·simp -implicitDefEqProofs only[List.map_cons,List.map_nil,hn,nY,hf,jO,aq,ah,push_cast,go_sem_proc]<;>rfl);(with_reducible exact JV);(·rfl)) | (with_reducible refine aD ?_));simp -implicitDefEqProofs only[go_sem]) | (with_reducible refine aA.mk ?_ ?_) | (with_reducible refine And.intro ?_ ?_) | ((with_reducible refine bz ?_);simp -implicitDefEqProofs only[TB,push_cast,go_sem_proc]) | intro _)
 all_goals (try simp)
section
variable (P:bH) (nm:ByteArray) (S:List (Int×Int)) (x4 x5:V) (hx4:al x4=true) (hx5:al x5=true)
include hx4 hx5
theorem t234g (role:ByteArray):∀(m:Nat) (l:List St),SizeOf.sizeOf l<m->wfEs P.procs l=true->
 af Tryz.prog 54 [aP P,.fs (l.map encS),.a6 232 [] [.bc [rVV P nm S x4 x5],.bc [.str role]],.a6 233 [] [.bc [.str role],.bc [rVV P nm S x4 x5]]] (·=.bool (ulL P.procs (CS S) nm role l))
 | 0,l,h=>absurd h (Nat.not_lt_zero _)
 | m+1,l,hm=>fun hw=>by
  have MT:al (rVV P nm S x4 x5)=true:=by simp[rVV,al,ae,aq,ah,hx4,hx5]
  have cP:ae [.bc [rVV P nm S x4 x5],.bc [.str role]]=true:=by simp[ae,al,MT]
  have j8:ae [.bc [.str role],.bc [rVV P nm S x4 x5]]=true:=by simp[ae,al,MT]
  refine t234sg P (CS S) nm role 232 233 _ _ cP j8 (fun H n=>by simp[b7,cN,pC,dR,ae,al,MT]) (fun H n=>by simp[b7,cN,pC,dR,ae,al,MT]) l (fun x hx=> ?_);have hs:=List.sizeOf_lt_of_mem hx;have hwx:wfE P.procs x=true:=by
   clear hs hm;induction l with
   | nil=>simp at hx
   | cons y l ih=>
    simp only[wfEs,Bool.and_eq_true]at hw;rcases List.mem_cons.1 hx with rfl | hx
    ·exact hw.1
    ·exact ih hw.2 hx
  rcases x with⟨k,r,t,v,lb,⟨ek,en,es,aR⟩,a,b,p,ps⟩
  simp only[St.mk.sizeOf_spec]at hs;have hwx':=hwx;simp only[wfE,Bool.and_eq_true,Bool.or_eq_true,decide_eq_true_eq]at hwx';have hg:=t359 P nm S x4 x5 hx4 hx5 role k r t v lb ek en es aR a b p ps;have gB:=t360 P nm S x4 x5 hx4 hx5 role k r t v lb ek en es aR a b p ps;refine t285g P (CS S) nm role 232 233 _ _ cP j8 k r t v lb ek en es aR a b p ps (fun h5=> ?_) gB (t234g role m a (by omega) hwx'.2.1) (t234g role m b (by omega) hwx'.2.2);have h0:0<=procI P.procs p:=(hwx'.1.2.resolve_left (fun h=>h h5)).2.2;have lI:CS S (procI P.procs p).toNat (ixR role ps)=decide ((procI P.procs p,ixR role ps)∈S):=by
   rw[CS];congr 3;omega
  rw[lI];exact hg
theorem t311 (role:ByteArray) (l:List St) (hw:wfEs P.procs l=true):
 af Tryz.prog 173 [rVV P nm S x4 x5,.fs (l.map encS),.str role] (·=.bool (ulL P.procs (CS S) nm role l)):=by
 have DQ:=t234g P nm S x4 x5 hx4 hx5 role _ l (Nat.lt_succ_self _) hw;simp only[aP]at DQ;unfold rVV at*
 refine af.intro c311 400 (by simp) 20 ?_;simp -implicitDefEqProofs only[s311,go_sem];repeat' (first | ((first | ((with_reducible refine bj DQ ?_ ?_);(·simp[ae,al,cm,aq,ah,aE,norefL_enc2,norefL_trG,hx4,hx5])) | ((with_reducible apply cj);(·simp -implicitDefEqProofs only[List.map_cons,List.map_nil,aq,ah,aE,norefL_enc2,norefL_trG,hx4,hx5,push_cast,go_sem_proc]<;>rfl);(with_reducible exact DQ);(·rfl)) | (with_reducible refine aD ?_));simp -implicitDefEqProofs only[go_sem]) | (with_reducible refine aA.mk ?_ ?_) | (with_reducible refine And.intro ?_ ?_) | ((with_reducible refine bz ?_);simp -implicitDefEqProofs only[r311,push_cast,go_sem_proc]) | intro _)
theorem t312 (i:Nat) (q:Pr) (k:Int) (hq:P.procs[i]? =some q) (hk:k<q.au.length):
 af Tryz.prog 174 [rVV P nm S x4 x5,.agg [.int .i64 i,.int .i64 k]] (·=.str (roA P.procs i k)):=by
 have hi:=(List.getElem?_eq_some_iff.1 hq).1;unfold rVV
 by_cases dW:k<0
 ·rw[show roA P.procs i k=⟨#[]⟩ from by rw[roA,if_pos dW]];refine af.intro c312 400 (by simp) 20 ?_;simp -implicitDefEqProofs only[s312,dW,decide_true,go_sem];repeat' (first | ((with_reducible refine aD ?_);simp -implicitDefEqProofs only[dW,decide_true,go_sem]) | (with_reducible refine aA.mk ?_ ?_) | (with_reducible refine And.intro ?_ ?_) | ((with_reducible refine bz ?_);simp -implicitDefEqProofs only[r312,push_cast,go_sem_proc]) | intro _)
 ·obtain⟨n,rfl⟩:∃n:Nat,k=n:=⟨k.toNat,by omega⟩;have hn:n<q.au.length:=by omega
  have hr:q.au[n]? =some q.au[n]:=List.getElem?_eq_getElem hn;rw[roA_of hq hr];have DX:(P.procs.map aF).getD i .any=.agg [.str q.name,.fs (q.au.map .str),.fs (q.steps.map encS)]:=by
   rw[List.getD_eq_getElem?_getD,List.getElem?_map,hq];rfl
  have hgr:(q.au.map V.str).getD n .any=.str q.au[n]:=by
   rw[List.getD_eq_getElem?_getD,List.getElem?_map,hr];rfl
  refine af.intro c312 400 (by simp) 20 ?_;simp -implicitDefEqProofs only[s312,dW,decide_false,go_sem];repeat' (first | ((with_reducible refine aD ?_);simp -implicitDefEqProofs only[dW,decide_false,DX,hgr,hi,hn,go_sem]) | (with_reducible refine aA.mk ?_ ?_) | (with_reducible refine And.intro ?_ ?_) | ((with_reducible refine bz ?_);simp -implicitDefEqProofs only[r312,push_cast,go_sem_proc]) | intro _)
end
open Classical in
noncomputable def ucC (X:List Pr) (nm:ByteArray) (i:Nat) (k:Int):Bool:=decide (∀D,UCl X nm D->D i k=true)
theorem ucC_of {X:List Pr} {nm:ByteArray} {C:Nat->Int->Bool} (h1:UCl X nm C) (h2:ULo X nm C):C=ucC X nm:=by
 funext i k
 cases h:ucC X nm i k
 ·cases hM:C i k
  ·rfl
  ·have:ucC X nm i k=true:=by simp only[ucC,decide_eq_true_eq];exact fun D hD=>h2 D hD i k hM
   rw[h]at this;cases this
 ·simp only[ucC,decide_eq_true_eq]at h;exact h C h1
theorem TLo.set {X:List Pr} {nm:ByteArray} {E:List Bool} {K:List (List Bool)} (h:TLo X nm E (MK K)) {i k:Nat} {l:List Bool} {q:Pr} {r:ByteArray} (hl:K[i]? =some l) (hk:k<l.length) (hq:X[i]? =some q) (hr:q.au[k]? =some r) (hp:ulL X (CT E (MK K)) nm r q.steps=true):
 TLo X nm E (MK (K.set i (l.set k true))):=fun C hC a b wQ=>by
 rw[MK_set hl hk]at wQ;split at wQ
 ·rename_i he;obtain⟨rfl,rfl⟩:=he;exact hC a q b r hq hr (ulL_mono (CT_mono (h C hC)) nm r _ hp)
 ·exact h C hC a b wQ
theorem eR_nil (X:List Pr):eR X []=K0 X:=by
 apply List.ext_getElem?
 intro i;by_cases hi:i<X.length
 ·rw[eR_get hi];simp only[K0,List.getElem?_map,List.getElem?_eq_getElem hi,Option.map_some];congr 1
  apply List.ext_getElem?
  intro k;have PA:rolesN X i=X[i].au.length:=by simp[rolesN,hi]
  by_cases hk:k<rolesN X i
  ·rw[eRow_get hk];simp[<-PA,hk]
  ·rw[List.getElem?_eq_none (by rw[eRow_len];omega),List.getElem?_eq_none (by simp;omega)]
 ·rw[List.getElem?_eq_none (by rw[eR_len];omega),List.getElem?_eq_none (by simp[K0];omega)]
theorem t304 {P:bH} {RO:Int->ByteArray} {nm:ByteArray} {a:Nat} {jp je:List Nat} {kp ke:V} {m:Nat} {T:List (List Bool)} (hP:PW P RO) (hS:KS P.procs T):∀(f k:Nat),k<=f->I304 P RO nm a jp je kp ke m T k
 | 0,k,hk=>fun l n role w H _ _ _ _ hmu=>by omega
 | f+1,k,hk=>by
  by_cases h:k<=f
  ·exact t304 hP hS f k h
  ·have:k=f+1:=by omega
   subst this;exact t304s hP hS (t304 hP hS f)
noncomputable def eaF (P:bH) (nm:ByteArray):List (Int×ByteArray):=(wkR P (ucC P.procs nm) nm (mainR P) ⟨[],[]⟩).fo
theorem t260 (P:bH) (hc:total P<=1000000) (hw:iE P<=1000000) (cR:lK P=0) (ew:P.procs.length<=1000000) {RO:Int->ByteArray} (hP:PW P RO) (hd:DmP P) (V3:∀r∈mainR P,r≠⟨#[]⟩) (nm:ByteArray):
 af Tryz.prog 91 [.bc (fy P (bY P.procs)),.str nm] (·=.db ((eaF P nm).map fun x=> .int .i64 x.1) ((eaF P nm).map fun x=> .str (RO x.1))):=by
 have Cu:=sJ cR;have h302:=t302 P (bY P.procs) ew (fun q hq=>(Cu q hq).2.2.2);have A3:=t245r P hc hw cR;have hEl:=(vZ P.procs).1;have gi:ae (eF P.procs P.procs (ai P.main))=true:=ee (eG _ _ _);have QT:=cT P.procs P.procs (ai P.main);have hbG:=mX P;simp only[aP]at A3;have hzb:∀(H:List ak) (n:Nat),fz H (n+1) (.bc (fy P (bY P.procs)))=some (.bc (fy P (bY P.procs))):=fun H n=>by
  rw[pC,if_pos];simp[fy,lE,ae,al,aq,ah,gi]
 have hwf:∀(i:Nat) (q:Pr),P.procs[i]? =some q->wfEs P.procs q.steps=true:=fun i q hq=>by
  have:=(hP.body i (List.getElem?_eq_some_iff.1 hq).1).wf;rwa[show aK P.procs i=q.steps from by simp[aK,hq]]at this
 simp only[fy,lE]at h302 hzb⊢;refine af.intro c260 1200 (by simp) 20 ?_;simp -implicitDefEqProofs only[s260,go_sem];refine av.mono (h302 []) ?_;rintro kp H1 ⟨jp,hrp,-,-,-,-⟩;simp -implicitDefEqProofs only[go_sem];refine av.mono (h302 H1) ?_;rintro ke H2 ⟨je,On,hle,cp,hje,It⟩;have iT:=hrp.ov.one;have ir:=hrp.ov.cS;have vn:=On.ov.one;have Iu:=On.ov.cS;simp only[V.one]at ir Iu;simp -implicitDefEqProofs only[iT,ir,vn,Iu,go_sem];have RJ:V.isAny kp=false:=by rcases hrp.ov with⟨_,rfl⟩ | ⟨_,_,rfl,_⟩<;>rfl
 have hkb:V.isAny ke=false:=by rcases On.ov with⟨_,rfl⟩ | ⟨_,_,rfl,_⟩<;>rfl
 refine⟨RJ,hkb,?_⟩;have ED:∀id o n,kp=.ms id o n->id<H1.length:=fun id o n e=>by
  rcases hrp.ov with⟨_,h⟩ | ⟨_,ph,h,h'⟩
  ·rw[e]at h;cases h
  ·rw[e]at h;injection h with h;subst h;exact(List.getElem?_eq_some_iff.1 h').1
 have hkel:∀id o n,ke=.ms id o n->id<H2.length:=fun id o n e=>by
  rcases On.ov with⟨_,h⟩ | ⟨_,ph,h,h'⟩
  ·rw[e]at h;cases h
  ·rw[e]at h;injection h with h;subst h;exact(List.getElem?_eq_some_iff.1 h').1
 have hAM:AM P.procs RO (.bc (fy P (bY P.procs))) nm (H2.length+1) jp je kp ke H2.length (K0 P.procs) ⟨[],[]⟩ (H2++ [ak.mp [] [],ak.row [.agg [.bc (fy P (bY P.procs)),.str nm,kp,ke,.map H2.length]]]):={
  box:=by rw[List.getElem?_append_right (by omega)];simp
  rp:=(hrp.congr (fun j hj=>cp j (hrp.lt hj)) (fun id o n e=>cp id (ED id o n e))).app _
  re:=by rw[eR_nil];exact On.app _
  mp:=by rw[List.getElem?_append_right (by omega)];simp[foM]
  am:=by omega
  ej:=fun j hj=>by
   have h1:=On.lt hj;have h2:=hje j hj;refine⟨by omega,by omega,fun h3=> ?_,fun o n e=> ?_⟩
   ·have:=hrp.lt h3;omega
   ·have:=ED j o n e;omega
  pm:=fun h=>by have:=hrp.lt h;omega
  km:=fun o n e=>by have:=ED _ o n e;omega
  kn:=fun o n e=>by have:=hkel _ o n e;omega
  ap:=fun h=>by have:=hrp.lt h;omega
  pe:=fun j hj o n e=>by have h1:=hrp.lt hj;have h2:=It _ o n e;omega}
 have Zo:=okP2uof cR;simp only[fy,lE]at hAM;generalize H2.length+1=a at*;generalize H2.length=mi at*;generalize H2++_=H0 at*;clear hrp On hle cp hje It ED hkel h302 RJ hkb;refine aL (fun mm e H=>∃T mo,KS P.procs T/\TLo P.procs nm (bY P.procs) (MK T)/\(mo=false->TCl P.procs nm (bY P.procs) (MK T))/\mm=2*flsK T+(if mo then 1 else 0)/\
  AM P.procs RO (.bc [.fs (P.procs.map aF),.fs (P.main.map encS),.fs ((num P.main 0).map (cb P.procs)),.fs (eF P.procs P.procs (ai P.main)),.fs ((bY P.procs).map .bool)]) nm a jp je kp ke mi T ⟨[],[]⟩ H/\e 0=(.bc [.fs (P.procs.map aF),.fs (P.main.map encS),.fs ((num P.main 0).map (cb P.procs)),.fs (eF P.procs P.procs (ai P.main)),.fs ((bY P.procs).map .bool)])/\e 5=.ptr a 0 0/\e 6=.bool mo) (2*flsK (K0 P.procs)+1)
  ⟨K0 P.procs,true,K0uS _,by rw[K0uM];exact TLo.empty _ _ _,(fun h=>by cases h),rfl,hAM,by simp[az,aC],by simp[az],by simp[az]⟩ ?_
 clear hAM H0;rintro mm e H ⟨T,mo,hS,yj,eT,rfl,hA,h0,h5,h6⟩;cases mo with
 | false=>
  have hC:=ucC_of (CT_cl hwf (eT rfl)) (CT_lo hwf yj);rw[eaF];rw[<-hC];have h304:=fun f=>t304 (nm:=nm) (a:=a) (jp:=jp) (je:=je) (kp:=kp) (ke:=ke) (m:=mi) hP hS f f (Nat.le_refl _)
  simp -implicitDefEqProofs only[h0,h5,h6,go_sem];repeat' (first | ((first | ((with_reducible refine bj A3 ?_ ?_);(·simp[ae,al,cm,aq,ah])) | ((with_reducible apply cj);(·simp -implicitDefEqProofs only[List.map_cons,List.map_nil,aq,ah,push_cast,go_sem_proc]<;>rfl);(with_reducible exact A3);(·rfl)) | (with_reducible refine aD ?_));simp -implicitDefEqProofs only[h0,h5,h6,go_sem]) | (with_reducible refine aA.mk ?_ ?_) | (with_reducible refine And.intro ?_ ?_) | ((with_reducible refine bz ?_);simp -implicitDefEqProofs only[r260,push_cast,go_sem_proc]) | intro _)
  rename_i hlen;refine aL (fun mm e H=>∃pre post w,mainR P=pre++post/\mm=post.length/\wkR P (CT (bY P.procs) (MK T)) nm (mainR P) ⟨[],[]⟩=wkR P (CT (bY P.procs) (MK T)) nm post w/\(∀y∈w.fo,y.2=nm)/\AM P.procs RO (.bc [.fs (P.procs.map aF),.fs (P.main.map encS),.fs ((num P.main 0).map (cb P.procs)),.fs (eF P.procs P.procs (ai P.main)),.fs ((bY P.procs).map .bool)]) nm a jp je kp ke mi T w H/\
   e 0=(.bc [.fs (P.procs.map aF),.fs (P.main.map encS),.fs ((num P.main 0).map (cb P.procs)),.fs (eF P.procs P.procs (ai P.main)),.fs ((bY P.procs).map .bool)])/\e 5=.ptr a 0 0/\e 80=.fs ((mainR P).map .str)/\e 81=.int .i64 (mainR P).length/\e 82=.int .i64 pre.length) (mainR P).length
   ⟨[],mainR P,⟨[],[]⟩,rfl,rfl,rfl,(fun y h=>by simp at h),hA,by simp[az,h0],by simp[az,h5],by simp[az],by simp[az],by simp[az]⟩ ?_
  clear hA h0 h5 h6 H e;rintro mm e H ⟨pre,post,w,ao,rfl,hw,Jx,hA,h0,h5,h80,sw,wT⟩;have hbox:=hA.box;have V4:H[mi]? =some (.mp (w.fo.map fun x=> .int .i64 x.1) (w.fo.map fun x=> .str (RO x.1))):=hA.mp;cases post with
  | nil=>
   rw[wkR]at hw;rw[hw];have hfk:eI (fz H 19) (w.fo.map fun x=>V.int .i64 x.1)=some (w.fo.map fun x=>V.int .i64 x.1):=dg _ _ (fun x=>jZ _ _ _ _) _;have Iv:eI (fz H 19) (w.fo.map fun x=>V.str (RO x.1))=some (w.fo.map fun x=>V.str (RO x.1)):=dg _ _ (fun x=>dN _ _ _) _;simp -implicitDefEqProofs only[h0,h5,h80,sw,wT,aI ao,hbox,go_sem];simp -implicitDefEqProofs only[r260,V4,hfk,Iv,push_cast,go_sem_proc]
  | cons role post=>
   have hg:=aO V.str ao;have hro:=V3 role (by rw[ao];simp);have cH:=h304 (muE P w P.main+1) P.main 0 role w H hA hP.main hro Jx (Nat.lt_succ_self _);have hA':=hA.step (wkE P (CT (bY P.procs) (MK T)) nm (muE P w P.main+1) P.main 0 role w);have hpost:=wkE_post P (CT (bY P.procs) (MK T)) nm hd.body (muE P w P.main+1) P.main 0 role w (Nat.lt_succ_self _) hd.main;have hnm':=hpost.nm Jx;rw[wkR]at hw;simp -implicitDefEqProofs only[h0,h5,h80,sw,wT,an ao,aa ao hlen,hg,go_sem];repeat' (first | ((first | (with_reducible refine bR cH ?_) | (with_reducible refine aD ?_));simp -implicitDefEqProofs only[h0,h5,h80,sw,wT,aa ao hlen,go_sem]) | (with_reducible refine aA.mk ?_ ?_) | (with_reducible refine And.intro ?_ ?_) | ((with_reducible refine bz ?_);simp -implicitDefEqProofs only[r260,push_cast,go_sem_proc]) | intro _)
   exact⟨post.length,Nat.lt_succ_self _,pre++ [role],post,_,by simp[ao],rfl,hw,hnm',hA',by simp⟩
 | true=>
  simp -implicitDefEqProofs only[h0,h5,h6,go_sem];intro hlen;refine aL (fun mm e H=>∃pre post K' mo,P.procs=pre++post/\mm=post.length/\KS P.procs K'/\TLo P.procs nm (bY P.procs) (MK K')/\(mo=true->flsK K'<flsK T)/\
   (mo=false->K'=T/\∀(i:Nat) q (k:Nat) r,pre[i]? =some q->q.au[k]? =some r->ulL P.procs (CT (bY P.procs) (MK T)) nm r q.steps=true->MK T i k=true)/\AM P.procs RO (.bc [.fs (P.procs.map aF),.fs (P.main.map encS),.fs ((num P.main 0).map (cb P.procs)),.fs (eF P.procs P.procs (ai P.main)),.fs ((bY P.procs).map .bool)]) nm a jp je kp ke mi K' ⟨[],[]⟩ H/\
   e 0=(.bc [.fs (P.procs.map aF),.fs (P.main.map encS),.fs ((num P.main 0).map (cb P.procs)),.fs (eF P.procs P.procs (ai P.main)),.fs ((bY P.procs).map .bool)])/\e 5=.ptr a 0 0/\e 6=.bool mo/\e 27=.fs (P.procs.map aF)/\e 28=.int .i64 P.procs.length/\e 29=.int .i64 pre.length) P.procs.length
   ⟨[],P.procs,T,false,rfl,rfl,hS,yj,(fun h=>by cases h),(fun _=>⟨rfl,fun i q k r h=>by simp at h⟩),hA,by simp[az,h0],by simp[az,h5],by simp[az],by simp[az],by simp[az],by simp[az]⟩ ?_
  clear hA h0 h5 h6 e H;rintro mm e H ⟨pre,post,K',mo,ao,rfl,Ue,r7,DN,xW,hA,h0,h5,h6,j0,vT,oR⟩;cases post with
  | nil=>
   have ev:pre=P.procs:=by rw[ao];simp
   simp -implicitDefEqProofs only[h0,h5,h6,j0,vT,oR,aI ao,go_sem];refine⟨2*flsK K'+(if mo then 1 else 0),?_,K',mo,Ue,r7,(fun h=> ?_),rfl,hA,rfl⟩
   ·cases mo with
    | true=>have:=DN rfl;simp;omega
    | false=>have:=(xW rfl).1;subst this;simp
   ·obtain⟨rfl,h'⟩:=xW h;exact fun i q k r hq hr hp=>h' i q k r (by rw[ev];exact hq) hr hp
  | cons q post=>
   have hg:=aO aF ao;simp only[aF]at hg;simp -implicitDefEqProofs only[h0,h5,h6,j0,vT,oR,an ao,aa ao hlen,hg,go_sem];intro Qs;have cR:pre.length<P.procs.length:=by rw[ao];simp
   have hqx:P.procs[pre.length]? =some q:=by rw[ao];simp
   refine aL (fun mm e H=>∃rp rq K2 mo2,q.au=rp++rq/\mm=rq.length/\KS P.procs K2/\TLo P.procs nm (bY P.procs) (MK K2)/\(mo2=true->flsK K2<flsK T)/\
    (mo2=false->K2=T/\(∀(i:Nat) q (k:Nat) r,pre[i]? =some q->q.au[k]? =some r->ulL P.procs (CT (bY P.procs) (MK T)) nm r q.steps=true->MK T i k=true)/\∀(k:Nat) r,rp[k]? =some r->ulL P.procs (CT (bY P.procs) (MK T)) nm r q.steps=true->MK T pre.length k=true)/\
    AM P.procs RO (.bc [.fs (P.procs.map aF),.fs (P.main.map encS),.fs ((num P.main 0).map (cb P.procs)),.fs (eF P.procs P.procs (ai P.main)),.fs ((bY P.procs).map .bool)]) nm a jp je kp ke mi K2 ⟨[],[]⟩ H/\e 0=(.bc [.fs (P.procs.map aF),.fs (P.main.map encS),.fs ((num P.main 0).map (cb P.procs)),.fs (eF P.procs P.procs (ai P.main)),.fs ((bY P.procs).map .bool)])/\e 5=.ptr a 0 0/\e 6=.bool mo2/\e 27=.fs (P.procs.map aF)/\e 28=.int .i64 P.procs.length/\e 29=.int .i64 pre.length/\
    e 7=.int .i64 pre.length/\e 35=.fs (q.au.map .str)/\e 36=.int .i64 q.au.length/\e 37=.int .i64 rp.length) q.au.length
    ⟨[],q.au,K',mo,rfl,rfl,Ue,r7,DN,(fun h=>⟨(xW h).1,(xW h).2,fun k r h=>by simp at h⟩),hA.app _,by simp[az,h0],by simp[az,h5],by simp[az,h6],by simp[az,j0],by simp[az,vT],by simp[az,oR],by simp[az],by simp[az],by simp[az],by simp[az]⟩ ?_
   clear hA h0 h5 h6 j0 vT oR e H DN xW Ue r7 K' mo;rintro mm e H ⟨rp,rq,K',mo,hrs,rfl,Ue,r7,DN,xW,hA,h0,h5,h6,j0,vT,oR,h7,gL,hU,wh⟩;cases rq with
   | nil=>
    have Bo:rp=q.au:=by rw[hrs];simp
    simp -implicitDefEqProofs only[h0,h5,h6,j0,vT,oR,h7,gL,hU,wh,aI hrs,aa ao hlen,go_sem];refine⟨_,Nat.lt_succ_self _,pre++ [q],post,K',mo,by simp[ao],rfl,Ue,r7,DN,(fun h=> ?_),hA,rfl,by simp⟩;obtain⟨rfl,ha,hb⟩:=xW h;refine⟨rfl,fun i q' k r ln hr hp=> ?_⟩;by_cases hi:i<pre.length
    ·rw[List.getElem?_append_left hi]at ln;exact ha i q' k r ln hr hp
    ·rw[List.getElem?_append_right (by omega)]at ln;have:i - pre.length=0:=by have:=(List.getElem?_eq_some_iff.1 ln).1;simp at this;omega
     have:i=pre.length:=by omega
     subst this;simp at ln;subst ln;exact hb k r (by rw[Bo];exact hr) hp
   | cons r rq=>
    have hgr:=aO V.str hrs;have hKl:=Ue.1;have hbox:=hA.box;have hzp:=hA.rp.fz 16;have hze:=hA.re.fz 16;have hzm:fz H 19 (.map mi)=some (.db [] []):=by rw[fz_map,hA.mp];simp[foM,mw,cN]
    obtain⟨id,j,l,eJ,hid,hj,hl,W6,hjr⟩:=hA.rp.get (i:=pre.length) (by omega);have MD:l.length=q.au.length:=by
     have:=Ue.2 _ _ hqx;rw[List.getD_eq_getElem?_getD,hl]at this;exact this
    have Da:=an hrs;have hix1:iD (pre.length:Int) K'.length:=⟨by omega,by simp;omega⟩;have T6:iD (rp.length:Int) l.length:=⟨by omega,by simp;omega⟩;have ED:=ksE_len hA.rp.len;have hgb:(l.map V.bool).getD rp.length .any=.bool (l.getD rp.length false):=by
     simp[List.getD,List.getElem?_map,List.getElem?_eq_getElem (show rp.length<l.length by omega)]
    have EN:l[rp.length]? =some (l.getD rp.length false):=by rw[List.getD_eq_getElem?_getD,List.getElem?_eq_getElem (by omega)];rfl
    have hMK:MK K' pre.length rp.length=l.getD rp.length false:=by simp[MK,List.getD_eq_getElem?_getD,hl]
    have hrr:q.au[rp.length]? =some r:=by rw[hrs];simp
    have hro:=hP.role _ q _ r hqx hrr;generalize hbv:l.getD rp.length false=bv at*;have hbt:aK P.procs pre.length=q.steps:=by simp[aK,hqx]
    have hBG:=hbG pre.length cR;rw[hbt]at hBG;have h303:=t303 P.procs (bY P.procs) hEl K' Ue nm (.fs (P.procs.map aF)) (.fs (P.main.map encS)) (.fs ((num P.main 0).map (cb P.procs))) (.fs (eF P.procs P.procs (ai P.main))) (.fs ((eR P.procs []).map encB)) (.db [] []) (by simp[al,aq]) (by simp[al,ah]) (by simp[al]) (by simp[al,gi]) (by simp[al,norefL_encB]) (by simp[al,ae]) r hro _ q.steps (Nat.lt_succ_self _) (Zo.2 q (by rw[ao];simp)) (dc P pre.length);simp only[aVV,lE]at h303;have T4:ae ((num q.steps (dc P pre.length)).map (cb P.procs))=true:=aY _ _;have hKl2:pre.length<K'.length:=by omega
    have hrl2:rp.length<l.length:=by omega
    generalize T5:(num q.steps (dc P pre.length)).map (cb P.procs)=qt at*;generalize LQ:ulL P.procs (CT (bY P.procs) (MK K')) nm r q.steps=pa at*;simp -implicitDefEqProofs only[h0,h5,h6,j0,vT,oR,h7,gL,hU,wh,an hrs,aa hrs Qs,hgr,hbox,eJ,hid,W6,hjr,hix1,T6,ED,hgb,Nat.le_refl,hKl2,hrl2,hBG,QT,cR,go_sem];repeat' (first | ((first | ((with_reducible refine bj h303 ?_ ?_);(·simp[ae,al,cm,hbox,hzp,hze,hzm,hzb,T4,norefL_encB])) | ((with_reducible apply cj);(·simp -implicitDefEqProofs only[List.map_cons,List.map_nil,hbox,hzp,hze,hzm,hzb,T4,norefL_encB,push_cast,go_sem_proc]<;>rfl);(with_reducible exact h303);(·rfl)) | (with_reducible refine aD ?_));simp -implicitDefEqProofs only[h0,h5,h6,j0,vT,oR,h7,gL,hU,wh,an hrs,aa hrs Qs,hgr,hbox,eJ,hid,W6,hjr,hix1,T6,ED,hgb,Nat.le_refl,hKl2,hrl2,hBG,QT,cR,go_sem]) | (with_reducible refine aA.mk ?_ ?_) | (with_reducible refine And.intro ?_ ?_) | ((with_reducible refine bz ?_);simp -implicitDefEqProofs only[r260,push_cast,go_sem_proc]) | intro _)
    ·rename_i lC AO;have lC:bv=false:=by simpa using lC
     have AO:pa=true:=by simpa using AO
     subst lC AO;have MR:=flsK_set hl EN;refine⟨_,Nat.lt_succ_self _,rp++ [r],rq,K'.set pre.length (l.set rp.length true),true,by simp[hrs],rfl,Ue.set hl,r7.set hl hrl2 hqx hrr LQ,(fun _=> ?_),(fun h=>by cases h),?_,rfl,by simp⟩
     ·cases mo with
      | true=>have:=DN rfl;omega
      | false=>have:=(xW rfl).1;subst this;omega
     ·have:=hA.putp (l':=l.set rp.length true) hj hl (by simp);rw[List.map_set,eJ]at this;exact this
    ·rename_i lC AO;have lC:bv=false:=by simpa using lC
     have AO:pa=false:=by simpa using AO
     subst lC AO;refine⟨_,Nat.lt_succ_self _,rp++ [r],rq,K',mo,by simp[hrs],rfl,Ue,r7,DN,(fun h=> ?_),(by rw[<-eJ];exact hA),rfl,by simp⟩;obtain⟨rfl,ha,hb⟩:=xW h;refine⟨rfl,ha,fun k r' rV hp=> ?_⟩;by_cases hk:k<rp.length
     ·rw[List.getElem?_append_left hk]at rV;exact hb k r' rV hp
     ·rw[List.getElem?_append_right (by omega)]at rV;have:k - rp.length=0:=by have:=(List.getElem?_eq_some_iff.1 rV).1;simp at this;omega
      rw[this]at rV;simp at rV;subst rV;rw[LQ]at hp;cases hp
    ·rename_i lC;have lC:bv=true:=by simpa using lC
     subst lC;refine⟨_,Nat.lt_succ_self _,rp++ [r],rq,K',mo,by simp[hrs],rfl,Ue,r7,DN,(fun h=> ?_),(by rw[<-eJ];exact hA),rfl,by simp⟩;obtain⟨rfl,ha,hb⟩:=xW h;refine⟨rfl,ha,fun k r' rV hp=> ?_⟩;by_cases hk:k<rp.length
     ·rw[List.getElem?_append_left hk]at rV;exact hb k r' rV hp
     ·rw[List.getElem?_append_right (by omega)]at rV;have:k - rp.length=0:=by have:=(List.getElem?_eq_some_iff.1 rV).1;simp at this;omega
      have:k=rp.length:=by omega
      subst this;exact hMK
mutual
def exR:Ex->List ByteArray
 | .mk k n s xs=>iB ((if k=2 then[s]else[])++exRs xs)
def exRs:List Ex->List ByteArray
 | []=> []
 | x::l=>exR x++exRs l
end
theorem exRs_app:∀(a b:List Ex),exRs (a++b)=exRs a++exRs b
 | [],b=>rfl
 | x::a,b=>by rw[List.cons_append,exRs,exRs,exRs_app a b,List.append_assoc]
mutual
theorem exR_mem (x:ByteArray):∀e,x∈exR e↔x∈exN e
 | .mk k n s xs=>by rw[exR,nsort_mem,exN,List.mem_append,List.mem_append,exRs_mem x xs]
theorem exRs_mem (x:ByteArray):∀l,x∈exRs l↔x∈exNs l
 | []=>by simp[exRs,exNs]
 | e::l=>by rw[exRs,exNs,List.mem_append,List.mem_append,exR_mem x e,exRs_mem x l]
end
theorem nsort_len (l:List ByteArray):(iB l).length<=l.length:=by
 have:=Hq (zV l);rw[m6]at this;exact this
mutual
theorem exR_len:∀e,(exR e).length<=wE e
 | .mk k n s xs=>by
  have h1:=nsort_len ((if k=2 then[s]else[])++exRs xs);have h2:=exRs_len xs;rw[exR,wE];rw[List.length_append]at h1;split at h1<;>simp at h1<;>simp_all<;>omega
theorem exRs_len:∀l,(exRs l).length<=sA l
 | []=>Nat.le_refl _
 | e::l=>by
  have h1:=exR_len e;have h2:=exRs_len l;rw[exRs,sA,List.length_append];omega
end
theorem wEs_app:∀(a b:List Ex),sA (a++b)=sA a+sA b
 | [],b=>by simp[sA]
 | x::a,b=>by rw[List.cons_append,sA,sA,wEs_app a b];omega
theorem t269s (k n:Int) (s:ByteArray) (xs:List Ex) (hx:wE (.mk k n s xs)<=1000000) (ih:∀x∈xs,af Tryz.prog 100 [bu x] (·=.fs ((exR x).map .str))):
 af Tryz.prog 100 [bu (.mk k n s xs)] (·=.fs ((exR (.mk k n s xs)).map .str)):=by
 rw[wE]at hx;rw[bp,exR];refine af.intro c269 600 (by simp) 20 ?_;have fi:∀(acc:List ByteArray) (H:List ak) (id:Nat),acc≠ []->acc.length<=1000000000->H[id]? =some (.row (acc.map .str))->
  ∃H1 H2,av Tryz.prog 101 [.ms id 0 acc.length] H (bX (.dJ []) H1)/\av Tryz.prog 102 [.ms id 0 acc.length] H1 (bX (.ms id 0 (iB acc).length) H2)/\fz H2 20 (.ms id 0 (iB acc).length)=some (.fs ((iB acc).map .str)):=by
  intro acc H id qJ hl hid;have jl:=(List.getElem?_eq_some_iff.1 hid).1;have ha:=VR hid hl qJ;have hb:=VT (H:=H.set id (.row ((zV acc).map .str))) (id:=id) (by rw[List.getElem?_set_self jl]) (by rw[m6];omega) (Hw qJ);rw[m6]at hb;change av Tryz.prog 102 [.ms id 0 acc.length] _ (bX (.ms id 0 (iB acc).length) _)at hb;obtain⟨tl,Rr⟩:∃tl,zp (zV acc)=iB acc++tl:=⟨_,rfl⟩;rw[Rr]at hb;refine⟨_,_,ha,hb,?_⟩;have e4:∀(H:List ak) (l:List ByteArray),eI (fz H 19) (l.map V.str)=some (l.map V.str):=fun H l=>dg _ _ (fun x=>dN _ _ x) l
  rw[iu,List.getElem?_set_self (by simpa using jl),ef];have e2:(((iB acc++tl).map V.str).drop 0).take (iB acc).length=(iB acc).map V.str:=by simp
  rw[e2,e4,if_pos (by simp)];rfl
 have lV:=wu;have Mo:=exRs_len xs;by_cases h2:k=2
 ·rw[if_pos h2];simp -implicitDefEqProofs only[s269,h2,decide_true,go_sem];intro hlen;refine aL (fun m e H=>∃pre post kv,xs=pre++post/\m=post.length/\e 3=kv/\e 13=.fs (xs.map bu)/\e 14=.int .i64 xs.length/\e 15=.int .i64 pre.length/\OV H kv (([s]++exRs pre).map .str)) xs.length
   ⟨[],xs,_,rfl,rfl,by simp[az,aC];rfl,by simp[az,aC],by simp[az,aC],by simp[az,aC],.inr ⟨by simp,1,by simp[exRs],by simp[exRs]⟩⟩ ?_
  rintro m e H ⟨pre,post,kv,ao,rfl,h3,eV,dG,gy,bm⟩;have cP:=bm.one;have ba:=bm.cS;simp only[V.one]at ba;cases post with
  | cons y post=>
   have hg:=aO bu ao;have hy:=ih y (by rw[ao];simp);have lZ:=exRs_len pre;have ZC:=exR_len y;have hwx:sA xs=sA pre+(wE y+sA post):=by rw[ao,wEs_app];rfl
   have hsn:exRs (pre++ [y])=exRs pre++exR y:=by rw[exRs_app];simp[exRs]
   generalize exR y=ry at*;rcases y with⟨yk,yn,ys,yx⟩
   rw[bp]at hg hy;simp -implicitDefEqProofs only[h3,eV,dG,gy,an ao,aa ao hlen,hg,decide_true,go_sem];repeat' (first | ((first | ((with_reducible refine bj hy ?_ ?_);(·simp[ae,al,cm,bf])) | ((with_reducible apply cj);(·simp -implicitDefEqProofs only[List.map_cons,List.map_nil,bf,push_cast,go_sem_proc]<;>rfl);(with_reducible exact hy);(·rfl)) | (with_reducible refine aD ?_));simp -implicitDefEqProofs only[h3,eV,dG,gy,aa ao hlen,hg,cP,ba,go_sem]) | (with_reducible refine aA.mk ?_ ?_) | (with_reducible refine And.intro ?_ ?_) | ((with_reducible refine bz ?_);simp -implicitDefEqProofs only[r269,push_cast,go_sem_proc]) | intro _)
   ·simp[List.all_eq_true,aw,V.one]
   refine cu (bm.app _) (fun i o l h=>by cases h) (bV _) (by simp only[List.length_map,List.length_append,List.length_cons,List.length_nil];omega) ?_;rintro kv1 H1 pK AA Ef;simp -implicitDefEqProofs only[h3,eV,dG,gy,aa ao hlen,go_sem];exact⟨post.length,Nat.lt_succ_self _,pre++ [_],post,kv1,by simp[ao];rfl,rfl,rfl,by simp,by rw[hsn];simpa[List.append_assoc]using pK⟩
  | nil=>
   have ev:pre=xs:=by rw[ao];simp
   rw[ev]at bm;have qK:([s]++exRs xs).length<=1000000000:=by simp only[List.length_append,List.length_cons,List.length_nil];omega
   have hane:[s]++exRs xs≠ []:=by simp
   have hcons:[s]++exRs xs=s::exRs xs:=rfl;rw[hcons]at bm qK hane;clear hcons;generalize s::exRs xs=acc at*;rcases bm with⟨hz,rfl⟩ | ⟨hz,id,rfl,hid⟩
   ·exact absurd (by simpa using hz) hane
   ·obtain⟨Ha,Hb,ha,hb,lX⟩:=fi acc H id hane qK hid;simp only[List.length_map]at h3 cP ba⊢;generalize iB acc=nl at*;simp -implicitDefEqProofs only[h3,eV,dG,gy,aI ao,go_sem];repeat' (first | ((first | (with_reducible first | refine bR ha ?_ | refine bR hb ?_) | (with_reducible refine aD ?_));simp -implicitDefEqProofs only[h3,eV,dG,gy,go_sem]) | (with_reducible refine aA.mk ?_ ?_) | (with_reducible refine And.intro ?_ ?_) | ((with_reducible refine bz ?_);simp -implicitDefEqProofs only[r269,push_cast,go_sem_proc]) | intro _)
    rw[iu]at lX;exact⟨_,lX,rfl⟩
 ·rw[if_neg h2];simp -implicitDefEqProofs only[s269,h2,decide_false,go_sem];intro hlen;refine aL (fun m e H=>∃pre post kv,xs=pre++post/\m=post.length/\e 3=kv/\e 13=.fs (xs.map bu)/\e 14=.int .i64 xs.length/\e 15=.int .i64 pre.length/\OV H kv ((exRs pre).map .str)) xs.length
   ⟨[],xs,.ag,rfl,rfl,by simp[az,aC],by simp[az,aC],by simp[az,aC],by simp[az,aC],.inl ⟨rfl,rfl⟩⟩ ?_
  rintro m e H ⟨pre,post,kv,ao,rfl,h3,eV,dG,gy,bm⟩;have cP:=bm.one;have ba:=bm.cS;simp only[V.one]at ba;cases post with
  | cons y post=>
   have hg:=aO bu ao;have hy:=ih y (by rw[ao];simp);have lZ:=exRs_len pre;have ZC:=exR_len y;have hwx:sA xs=sA pre+(wE y+sA post):=by rw[ao,wEs_app];rfl
   have hsn:exRs (pre++ [y])=exRs pre++exR y:=by rw[exRs_app];simp[exRs]
   generalize exR y=ry at*;rcases y with⟨yk,yn,ys,yx⟩
   rw[bp]at hg hy;simp -implicitDefEqProofs only[h3,eV,dG,gy,an ao,aa ao hlen,hg,decide_true,go_sem];repeat' (first | ((first | ((with_reducible refine bj hy ?_ ?_);(·simp[ae,al,cm,bf])) | ((with_reducible apply cj);(·simp -implicitDefEqProofs only[List.map_cons,List.map_nil,bf,push_cast,go_sem_proc]<;>rfl);(with_reducible exact hy);(·rfl)) | (with_reducible refine aD ?_));simp -implicitDefEqProofs only[h3,eV,dG,gy,aa ao hlen,hg,cP,ba,go_sem]) | (with_reducible refine aA.mk ?_ ?_) | (with_reducible refine And.intro ?_ ?_) | ((with_reducible refine bz ?_);simp -implicitDefEqProofs only[r269,push_cast,go_sem_proc]) | intro _)
   ·simp[List.all_eq_true,aw,V.one]
   refine cu (bm.app _) (fun i o l h=>by cases h) (bV _) (by simp only[List.length_map];omega) ?_;rintro kv1 H1 pK AA Ef;simp -implicitDefEqProofs only[h3,eV,dG,gy,aa ao hlen,go_sem];exact⟨post.length,Nat.lt_succ_self _,pre++ [_],post,kv1,by simp[ao];rfl,rfl,rfl,by simp,by rw[hsn,List.map_append];exact pK⟩
  | nil=>
   have ev:pre=xs:=by rw[ao];simp
   rw[ev]at bm;have qK:(exRs xs).length<=1000000000:=by omega
   generalize exRs xs=acc at*;rcases bm with⟨hz,rfl⟩ | ⟨hz,id,rfl,hid⟩
   ·have qJ:acc=[]:=by simpa using hz
    subst qJ;simp -implicitDefEqProofs only[h3,eV,dG,gy,aI ao,go_sem];repeat' (first | ((first | (with_reducible first | refine bR Mg ?_ | refine bR Mh ?_) | (with_reducible refine aD ?_));simp -implicitDefEqProofs only[h3,eV,dG,gy,go_sem]) | (with_reducible refine aA.mk ?_ ?_) | (with_reducible refine And.intro ?_ ?_) | ((with_reducible refine bz ?_);simp -implicitDefEqProofs only[r269,wu,push_cast,go_sem_proc]) | intro _)
    all_goals first | rfl | simp_all
   ·have qJ:acc≠ []:=by simpa using hz
    obtain⟨Ha,Hb,ha,hb,lX⟩:=fi acc H id qJ qK hid;simp only[List.length_map]at h3 cP ba⊢;generalize iB acc=nl at*;simp -implicitDefEqProofs only[h3,eV,dG,gy,aI ao,go_sem];repeat' (first | ((first | (with_reducible first | refine bR ha ?_ | refine bR hb ?_) | (with_reducible refine aD ?_));simp -implicitDefEqProofs only[h3,eV,dG,gy,go_sem]) | (with_reducible refine aA.mk ?_ ?_) | (with_reducible refine And.intro ?_ ?_) | ((with_reducible refine bz ?_);simp -implicitDefEqProofs only[r269,push_cast,go_sem_proc]) | intro _)
    rw[iu]at lX;exact⟨_,lX,rfl⟩
theorem t269:∀(m:Nat) (e:Ex),SizeOf.sizeOf e<m->wE e<=1000000->af Tryz.prog 100 [bu e] (·=.fs ((exR e).map .str))
 | 0,e,h=>absurd h (Nat.not_lt_zero _)
 | m+1,.mk k n s xs,hm=>fun hw=>t269s k n s xs hw (fun x hx=>by
  have hs:=List.sizeOf_lt_of_mem hx;simp only[Ex.mk.sizeOf_spec]at hm;refine t269 m x (by omega) ?_;have:∀l:List Ex,x∈l->wE x<=sA l:=by
   intro l;induction l with
   | nil=>intro h;simp at h
   | cons y l ih=>
    intro h;rw[sA];rcases List.mem_cons.1 h with rfl | h
    ·omega
    ·have:=ih h;omega
  have:=this xs hx;rw[wE]at hw;omega)
theorem KE.mix {α:Type} [DecidableEq α] {sh:Bool×List Bool} {enc:α->V} (h:KE sh enc) {x:α} {z:V} {l:List α} (hx:x∉l):nT (l.map enc) (enc x)=l.length/\lR (l.map enc) (trG l) (enc x) z=trG l++ [z]:=by
 constructor
 ·rw[nT];have:=List.findIdx_eq_length (xs:=l.map enc) (p:=fun q=>gE (enc x) q==some true);rw[List.length_map]at this;refine this.2 (fun q hq=> ?_);obtain⟨y,hy,rfl⟩:=List.mem_map.1 hq;rw[h.eq];have:x≠y:=fun e=>hx (e▸hy)
  simp[this]
 ·rw[lR,h.any,decide_eq_false hx];simp
theorem trG_set {α:Type} (l:List α) (x:α):(trG l++ [V.bool false]).set l.length (.bool true)=trG (l++ [x]):=by
 rw[List.set_append_right _ _ (by simp[trG])];simp[trG]
theorem addG_new {α:Type} [DecidableEq α] {l:List α} {x:α} (h:x∉l):addG l x=l++ [x]:=by rw[addG,if_neg h]
def mpC (S:List (Int×Int)):ak:=.mp (S.map enc2) (trG S)
def encPk (p:Nat×Nat):V:=.agg [.int .i64 p.1,.int .i64 p.2]
def encO (RO:Int->ByteArray) (x:Int×ByteArray):V:=.agg [.int .i64 x.1,.str (RO x.1),.str x.2]
def mpK (se:List (Nat×Nat)):ak:=.mp (se.map encPk) (trG se)
def mpO (RO:Int->ByteArray) (O:List (Int×ByteArray)):ak:=.mp (O.map (encO RO)) (trG O)
structure RM (P:bH) (RO:Int->ByteArray) (nm:ByteArray) (x mc ms mo:Nat) (S:List (Int×Int)) (se:List (Nat×Nat)) (O:List (Int×ByteArray)) (H:List ak):Prop where
 box:H[x]? =some (.row [.agg [.fs (P.procs.map aF),.fs (P.main.map encS),.str nm,.map mc,.map ms,.map mo]])
 c:H[mc]? =some (mpC S)
 s:H[ms]? =some (mpK se)
 o:H[mo]? =some (mpO RO O)
 cs:mc≠ms
 co:mc≠mo
 so:ms≠mo
 xc:x≠mc
 xs:x≠ms
 xo:x≠mo
theorem norefL_encPk (l:List (Nat×Nat)):ae (l.map encPk)=true:=bS (fun x=>by simp[al,ae,encPk]) l
theorem norefL_encO (RO:Int->ByteArray) (l:List (Int×ByteArray)):ae (l.map (encO RO))=true:=bS (fun x=>by simp[al,ae,encO]) l
theorem fz_encPk (H:List ak) (n:Nat) (l:List (Nat×Nat)):eI (fz H (n+2)) (l.map encPk)=some (l.map encPk):=dg _ _ (fun x=>by simp[encPk,ma,b7,cN,jZ,dR]) l
theorem fz_encO (H:List ak) (n:Nat) (RO:Int->ByteArray) (l:List (Int×ByteArray)):eI (fz H (n+2)) (l.map (encO RO))=some (l.map (encO RO)):=dg _ _ (fun x=>by simp[encO,ma,b7,cN,jZ,dN,dR]) l
section
variable {P:bH} {RO:Int->ByteArray} {nm:ByteArray} {x mc ms mo:Nat} {S:List (Int×Int)} {se:List (Nat×Nat)} {O:List (Int×ByteArray)} {H:List ak}
theorem RM.app (h:RM P RO nm x mc ms mo S se O H) (J:List ak):RM P RO nm x mc ms mo S se O (H++J):=by
 have hg:∀{j:Nat} {b:ak},H[j]? =some b->(H++J)[j]? =some b:=fun{j b} hj=>by
  rw[List.getElem?_append_left (List.getElem?_eq_some_iff.1 hj).1];exact hj
 exact⟨hg h.box,hg h.c,hg h.s,hg h.o,h.cs,h.co,h.so,h.xc,h.xs,h.xo⟩
theorem RM.setc (h:RM P RO nm x mc ms mo S se O H) (S':List (Int×Int)):RM P RO nm x mc ms mo S' se O (H.set mc (mpC S')):=
 ⟨by rw[List.getElem?_set_ne h.xc.symm];exact h.box,by rw[List.getElem?_set_self (List.getElem?_eq_some_iff.1 h.c).1],by rw[List.getElem?_set_ne h.cs];exact h.s,by rw[List.getElem?_set_ne h.co];exact h.o,h.cs,h.co,h.so,h.xc,h.xs,h.xo⟩
theorem RM.sets (h:RM P RO nm x mc ms mo S se O H) (se':List (Nat×Nat)):RM P RO nm x mc ms mo S se' O (H.set ms (mpK se')):=
 ⟨by rw[List.getElem?_set_ne h.xs.symm];exact h.box,by rw[List.getElem?_set_ne h.cs.symm];exact h.c,by rw[List.getElem?_set_self (List.getElem?_eq_some_iff.1 h.s).1],by rw[List.getElem?_set_ne h.so];exact h.o,h.cs,h.co,h.so,h.xc,h.xs,h.xo⟩
theorem RM.seto (h:RM P RO nm x mc ms mo S se O H) (O':List (Int×ByteArray)):RM P RO nm x mc ms mo S se O' (H.set mo (mpO RO O')):=
 ⟨by rw[List.getElem?_set_ne h.xo.symm];exact h.box,by rw[List.getElem?_set_ne h.co.symm];exact h.c,by rw[List.getElem?_set_ne h.so.symm];exact h.s,by rw[List.getElem?_set_self (List.getElem?_eq_some_iff.1 h.o).1],h.cs,h.co,h.so,h.xc,h.xs,h.xo⟩
theorem RM.fzc (h:RM P RO nm x mc ms mo S se O H):fz H 19 (.map mc)=some (.db (S.map enc2) (trG S)):=by
 rw[fz_map,h.c,mpC,mw,fz_enc2,fz_trG]
theorem RM.fzs (h:RM P RO nm x mc ms mo S se O H):fz H 19 (.map ms)=some (.db (se.map encPk) (trG se)):=by
 rw[fz_map,h.s,mpK,mw,fz_encPk,fz_trG]
theorem RM.fzo (h:RM P RO nm x mc ms mo S se O H):fz H 19 (.map mo)=some (.db (O.map (encO RO)) (trG O)):=by
 rw[fz_map,h.o,mpO,mw,fz_encO,fz_trG]
end
theorem ULo.add {X:List Pr} {nm:ByteArray} {S:List (Int×Int)} (h:ULo X nm (CS S)) {i:Nat} {q:Pr} {k:Int} (hq:X[i]? =some q) (h1: -1<=k) (h2:k<q.au.length) (hu:ulL X (CS S) nm (roA X i k) q.steps=true):ULo X nm (CS (S++ [((i:Int),k)])):=fun D hD a b wQ=>by
 simp only[CS,List.mem_append,List.mem_singleton,decide_eq_true_eq,Prod.mk.injEq]at wQ;rcases wQ with wQ | ⟨ha,rfl⟩
 ·exact h D hD a b (by simpa[CS]using wQ)
 ·have:a=i:=by omega
  subst this;exact hD a q b hq h1 h2 (ulL_mono (h D hD) nm _ _ hu)
theorem ULo.nil (X:List Pr) (nm:ByteArray):ULo X nm (CS []):=fun D _ a b h=>by simp[CS]at h
def dmC (X:List Pr):List (Int×Int):=(List.range X.length).flatMap fun(i:Nat)=>(List.range 14).map fun(k:Nat)=>((i:Int),(k:Int) - 1)
theorem dmC_mem {X:List Pr} {i:Nat} {k:Int} (hi:i<X.length) (h1: -1<=k) (h2:k<12):((i:Int),k)∈dmC X:=by
 simp only[dmC,List.mem_flatMap,List.mem_range,List.mem_map,Prod.mk.injEq];exact⟨i,hi,(k+1).toNat,by omega,rfl,by omega⟩
def frC (X:List Pr) (S:List (Int×Int)):Nat:=((dmC X).filter fun p=>decide (p∉S)).length
theorem frC_lt {X:List Pr} {S:List (Int×Int)} {p:Int×Int} (hd:p∈dmC X) (hp:p∉S):frC X (S++ [p])<frC X S:=
 filE_lt (fun x hx=>by simp only[decide_eq_true_eq,List.mem_append,not_or]at*;exact hx.1) (by simpa using hp) (by simp) hd
theorem t272 (P:bH) (cR:lK P=0) (ew:P.procs.length<=1000000) (hwf:∀(i:Nat) (q:Pr),P.procs[i]? =some q->wfEs P.procs q.steps=true) {RO:Int->ByteArray} {nm:ByteArray} {x mc ms mo:Nat} {se:List (Nat×Nat)} {O:List (Int×ByteArray)} {H:List ak} (hM:RM P RO nm x mc ms mo [] se O H):
 av Tryz.prog 103 [.ptr x 0 0] H (fun r H'=>r=.dJ []/\∃S,CS S=ucC P.procs nm/\H'=H.set mc (mpC S)):=by
 have Cu:=sJ cR;have hcl0:=(List.getElem?_eq_some_iff.1 hM.c).1;have hAll:=fun S J=>(hM.setc S).app J
 have hbox:=fun S J=>(hAll S J).box
 have Dv:∀S J,(H.set mc (mpC S)++J)[mc]? =some (.mp (S.map enc2) (trG S)):=fun S J=>(hAll S J).c
 have Ff:=fun S J=>(hAll S J).fzc
 have Jj:=fun S J=>(hAll S J).fzs
 have WI:=fun S J=>(hAll S J).fzo
 have iI:∀S b J,(H.set mc (mpC S)++J).set mc b=H.set mc b++J:=fun S b J=>by
  rw[List.set_append_left _ _ (by simpa using hcl0),List.set_set]
 have EP:∀a b J,(H.set mc a++J).set mc b=H.set mc b++J:=fun a b J=>by
  rw[List.set_append_left _ _ (by simpa using hcl0),List.set_set]
 have Kq:∀a J,(H.set mc a++J)[mc]? =some a:=fun a J=>by
  rw[List.getElem?_append_left (by simpa using hcl0),List.getElem?_set_self hcl0]
 have h311:=fun S=>t311 P nm S (.db (se.map encPk) (trG se)) (.db (O.map (encO RO)) (trG O)) (by simp[al,norefL_encPk]) (by simp[al,norefL_encO])
 have h312:=fun S i q k hq hk=>t312 P nm S (.db (se.map encPk) (trG se)) (.db (O.map (encO RO)) (trG O)) (by simp[al,norefL_encPk]) (by simp[al,norefL_encO]) i q k hq hk
 simp only[rVV]at h311 h312;have mq:H=H.set mc (mpC []):=by
  apply List.ext_getElem?
  intro i;rw[List.getElem?_set];split
  ·rename_i h;subst h;first | exact hM.c | (rw[if_pos hcl0];exact hM.c)
  ·rfl
 refine av.trim ?_;refine av.intro c272 800 (by simp) ?_;simp -implicitDefEqProofs only[s272,ne_eq,not_false_eq_true,fv,fK,Nat.reduceMul,go_sem];refine aL (fun mm e H1=>∃S g J,ULo P.procs nm (CS S)/\(g=false->UCl P.procs nm (CS S))/\mm=2*frC P.procs S+(if g then 1 else 0)/\e 0=.ptr x 0 0/\e 2=.bool g/\H1=H.set mc (mpC S)++J) (2*frC P.procs []+1)
  ⟨[],true,[],ULo.nil _ _,(fun h=>by cases h),rfl,by simp[az,aC],by simp[az,aC],by rw[<-mq,List.append_nil]⟩ ?_
 rintro mm e H1 ⟨S,g,J,yj,eT,rfl,h0,h2,rfl⟩;cases g with
 | false=>
  simp -implicitDefEqProofs only[h0,h2,ne_eq,not_false_eq_true,fv,fK,Nat.reduceMul,go_sem];simp -implicitDefEqProofs only[r272,ne_eq,not_false_eq_true,fv,fK,Nat.reduceMul,push_cast,go_sem_proc];refine⟨_,J,rfl,by simp,fun i b hb=> ?_,S,(ucC_of (eT rfl) yj),rfl⟩;rw[List.getElem?_set]at hb;split at hb
  ·first | (split at hb<;>cases hb) | cases hb
   all_goals (right;simp[mpC,ak.nr])
  ·exact .inl hb
 | true=>
  simp -implicitDefEqProofs only[h0,h2,hbox,ne_eq,not_false_eq_true,fv,fK,Nat.reduceMul,go_sem];intro hlen;refine aL (fun mm e H1=>∃pre post S' g J,P.procs=pre++post/\mm=post.length/\ULo P.procs nm (CS S')/\(g=true->frC P.procs S'<frC P.procs S)/\
   (g=false->S'=S/\∀(i:Nat) q (k:Int),pre[i]? =some q-> -1<=k->k<q.au.length->ulL P.procs (CS S) nm (roA P.procs i k) q.steps=true->CS S i k=true)/\
   e 0=.ptr x 0 0/\e 2=.bool g/\e 12=.fs (P.procs.map aF)/\e 13=.int .i64 P.procs.length/\e 14=.int .i64 pre.length/\H1=H.set mc (mpC S')++J) P.procs.length
   ⟨[],P.procs,S,false,J,rfl,rfl,yj,(fun h=>by cases h),(fun _=>⟨rfl,fun i q k h=>by simp at h⟩),by simp[az,h0],by simp[az],by simp[az],by simp[az],by simp[az],rfl⟩ ?_
  clear h0 h2 e;rintro mm e H1 ⟨pre,post,S',g,J,ao,rfl,r7,DN,xW,h0,h2,dU,eV,dG,rfl⟩;cases post with
  | nil=>
   have ev:pre=P.procs:=by rw[ao];simp
   simp -implicitDefEqProofs only[h0,h2,dU,eV,dG,aI ao,ne_eq,not_false_eq_true,fv,fK,Nat.reduceMul,go_sem];refine⟨2*frC P.procs S'+(if g then 1 else 0),?_,S',g,J,r7,(fun h=> ?_),rfl,rfl,rfl⟩
   ·cases g with
    | true=>have:=DN rfl;simp;omega
    | false=>have:=(xW rfl).1;subst this;simp
   ·obtain⟨rfl,h'⟩:=xW h;exact fun i q k hq h1 h2 hu=>h' i q k (by rw[ev];exact hq) h1 h2 hu
  | cons q post=>
   have hg:=aO aF ao;simp only[aF]at hg;have hqx:P.procs[pre.length]? =some q:=by rw[ao];simp
   have cR:pre.length<P.procs.length:=by rw[ao];simp
   have hqr:=(Cu q (by rw[ao];simp)).2.2.2;have Xr:=hwf _ q hqx;generalize DY:ak.row [V.agg [.str q.name,.fs (q.au.map .str),.fs (q.steps.map encS)]]=bq;have O4:∀S' J2,(H.set mc (mpC S')++(J++bq::J2))[H.length+J.length]? =some bq:=fun S' J2=>by
    rw[List.getElem?_append_right (by simp),List.getElem?_append_right (by simp)];simp
   subst DY;simp -implicitDefEqProofs only[h0,h2,dU,eV,dG,an ao,aa ao hlen,hg,ne_eq,not_false_eq_true,fv,fK,Nat.reduceMul,go_sem];refine aL (fun mm e H1=>∃rp S2 g2 J2,rp+mm=q.au.length+1/\ULo P.procs nm (CS S2)/\(g2=true->frC P.procs S2<frC P.procs S)/\
    (g2=false->S2=S/\(∀(i:Nat) q (k:Int),pre[i]? =some q-> -1<=k->k<q.au.length->ulL P.procs (CS S) nm (roA P.procs i k) q.steps=true->CS S i k=true)/\
      ∀k:Int,-1<=k->k<(rp:Int) - 1->ulL P.procs (CS S) nm (roA P.procs pre.length k) q.steps=true->CS S pre.length k=true)/\
    e 0=.ptr x 0 0/\e 2=.bool g2/\e 12=.fs (P.procs.map aF)/\e 13=.int .i64 P.procs.length/\e 14=.int .i64 pre.length/\e 3=.int .i64 pre.length/\e 4=.ptr (H.length+J.length) 0 0/\e 5=.int .i64 ((rp:Int) - 1)/\
    H1=H.set mc (mpC S2)++(J++ak.row [V.agg [.str q.name,.fs (q.au.map .str),.fs (q.steps.map encS)]]::J2)) (q.au.length+1)
    ⟨0,S',g,[],by simp,r7,DN,(fun h=>⟨(xW h).1,(xW h).2,fun k h1 h2=>by omega⟩),by simp[az,h0],by simp[az,h2],by simp[az,dU],by simp[az,eV],by simp[az,dG],by simp[az],by simp[az],by simp[az],rfl⟩ ?_
   clear h0 h2 dU eV dG e DN xW r7 g S';rintro mm e H1 ⟨rp,S2,g2,J2,hrm,r7,DN,xW,h0,h2,dU,eV,dG,h3,h4,h5,rfl⟩;cases mm with
   | zero=>
    have hrp:((rp:Int) - 1<(q.au.length:Int))=False:=eq_false (by omega);simp -implicitDefEqProofs only[h0,h2,dU,eV,dG,h3,h4,h5,O4,hrp,decide_false,aa ao hlen,ne_eq,not_false_eq_true,fv,fK,Nat.reduceMul,go_sem];intro _;refine⟨post.length,Nat.lt_succ_self _,pre++ [q],post,S2,g2,_,by simp[ao],rfl,r7,DN,(fun h=> ?_),rfl,by simp,rfl⟩;obtain⟨rfl,ha,hb⟩:=xW h;refine⟨rfl,fun i q' k ln h1 h2 hu=> ?_⟩;by_cases hi:i<pre.length
    ·rw[List.getElem?_append_left hi]at ln;exact ha i q' k ln h1 h2 hu
    ·rw[List.getElem?_append_right (by omega)]at ln;have:i - pre.length=0:=by have:=(List.getElem?_eq_some_iff.1 ln).1;simp at this;omega
     have:i=pre.length:=by omega
     subst this;simp at ln;subst ln;exact hb k h1 (by omega) hu
   | succ mm=>
    have hrp:((rp:Int) - 1<(q.au.length:Int))=True:=eq_true (by omega);have zL:IntKind.i64.wrap ((rp:Int) - 1+1)=(rp:Int):=by
     have e1:(rp:Int) - 1+1=(rp:Int):=by omega
     rw[e1];exact bP (by omega) (by omega)
    have hmix:((pre.length:Int),(rp:Int) - 1)∉S2->nT (S2.map enc2) (.agg [.int .i64 pre.length,.int .i64 ((rp:Int) - 1)])=S2.length/\lR (S2.map enc2) (trG S2) (.agg [.int .i64 pre.length,.int .i64 ((rp:Int) - 1)]) (.bool false)=trG S2++ [.bool false]:=fun h=>ke2.mix h
    have Bc:((pre.length:Int),(rp:Int) - 1)∉S2->ja (S2.map enc2) (.agg [.int .i64 pre.length,.int .i64 ((rp:Int) - 1)])=(S2++ [((pre.length:Int),(rp:Int) - 1)]).map enc2:=fun h=>by
     have:=ke2.ja ((pre.length:Int),(rp:Int) - 1) S2;rw[addG_new h]at this;exact this
    have h312:=h312 S2 pre.length q ((rp:Int) - 1) hqx (by omega);have h311:=h311 S2 (roA P.procs pre.length ((rp:Int) - 1)) q.steps Xr;generalize hul:ulL P.procs (CS S2) nm (roA P.procs pre.length ((rp:Int) - 1)) q.steps=ul at*;simp -implicitDefEqProofs only[h0,h2,dU,eV,dG,h3,h4,h5,O4,hrp,decide_true,ne_eq,not_false_eq_true,fv,fK,Nat.reduceMul,go_sem];intro _;repeat' (first | ((first | ((with_reducible first | refine bj h312 ?_ ?_ | refine bj h311 ?_ ?_);(·simp[ae,al,cm,hbox,Ff,Jj,WI,norefL_enc2,norefL_trG,norefL_encPk,norefL_encO,aq,ah])) | ((with_reducible apply cj);(·simp -implicitDefEqProofs only[List.map_cons,List.map_nil,hbox,Ff,Jj,WI,norefL_enc2,norefL_trG,norefL_encPk,norefL_encO,aq,ah,ne_eq,not_false_eq_true,fv,fK,Nat.reduceMul,push_cast,go_sem_proc]<;>rfl);(with_reducible first | exact h312 | exact h311);(·rfl)) | (with_reducible refine aD ?_));simp -implicitDefEqProofs only[h0,h2,dU,eV,dG,h3,h4,h5,O4,hrp,decide_true,hbox,Dv,kOk2,mres2,zL,EP,Kq,ne_eq,not_false_eq_true,fv,fK,Nat.reduceMul,go_sem]) | (with_reducible refine aA.mk ?_ ?_) | (with_reducible refine And.intro ?_ ?_) | ((with_reducible refine bz ?_);simp -implicitDefEqProofs only[r272,ne_eq,not_false_eq_true,fv,fK,Nat.reduceMul,push_cast,go_sem_proc]) | intro _)
    ·omega
    ·rename_i hn hu;have hn:((pre.length:Int),(rp:Int) - 1)∉S2:=by simpa using hn
     rw[(hmix hn).1,Bc hn];simp
    ·rename_i hn hu;have hn:((pre.length:Int),(rp:Int) - 1)∉S2:=by simpa using hn
     rw[(hmix hn).1,(hmix hn).2,Bc hn,trG_set];have MR:=frC_lt (dmC_mem cR (show -1<=(rp:Int) - 1 by omega) (by omega)) hn;refine⟨mm,Nat.lt_succ_self _,rp+1,S2++ [((pre.length:Int),(rp:Int) - 1)],true,J2++ [_],by omega,r7.add hqx (by omega) (by omega) (by rw[hul];exact hu),(fun _=> ?_),(fun h=>by cases h),rfl,by congr 1;omega,rfl⟩;cases g2 with
     | true=>have:=DN rfl;omega
     | false=>have:=(xW rfl).1;subst this;omega
    ·rename_i hn hu;refine⟨mm,Nat.lt_succ_self _,rp+1,S2,g2,J2++ [_],by omega,r7,DN,(fun h=> ?_),rfl,by congr 1;omega,rfl⟩;obtain⟨rfl,ha,hb⟩:=xW h;refine⟨rfl,ha,fun k h1 h2 hp=> ?_⟩;by_cases hk:k<(rp:Int) - 1
     ·exact hb k h1 hk hp
     ·have:k=(rp:Int) - 1:=by omega
      subst this;rw[hul,hu]at hp;cases hp
    ·rename_i hn;have hn:((pre.length:Int),(rp:Int) - 1)∈S2:=by simpa using hn
     refine⟨mm,Nat.lt_succ_self _,rp+1,S2,g2,J2++ [_],by omega,r7,DN,(fun h=> ?_),rfl,by congr 1;omega,rfl⟩;obtain⟨rfl,ha,hb⟩:=xW h;refine⟨rfl,ha,fun k h1 h2 hp=> ?_⟩;by_cases hk:k<(rp:Int) - 1
     ·exact hb k h1 hk hp
     ·have:k=(rp:Int) - 1:=by omega
      subst this;simpa[CS]using hn
def cpK (p:Nat×Nat):Int×Int:=((p.1:Int),(p.2:Int))
theorem encPk_map (se:List (Nat×Nat)):se.map encPk=(se.map cpK).map enc2:=by rw[List.map_map];rfl
theorem trG_cpK (se:List (Nat×Nat)):trG se=trG (se.map cpK):=by simp[trG]
theorem cpK_mem {se:List (Nat×Nat)} {i j:Nat}:((i:Int),(j:Int))∈se.map cpK↔(i,j)∈se:=by
 rw[List.mem_map];constructor
 ·rintro⟨⟨a,b⟩,hp,he⟩;simp only[cpK,Prod.mk.injEq]at he;have h1:a=i:=by omega
  have h2:b=j:=by omega
  subst h1 h2;exact hp
 ·intro h;exact⟨_,h,rfl⟩
theorem kOkK (se:List (Nat×Nat)) (a b:Int):ya (true,[false,false]) (se.map encPk) (.agg [.int .i64 a,.int .i64 b])=true:=by rw[encPk_map];exact kOk2 _ a b
theorem mresK (se:List (Nat×Nat)) (a b:Int):fT false (.bool false) (gG (se.map encPk) (trG se) (.agg [.int .i64 a,.int .i64 b]))=.bool (decide ((a,b)∈se.map cpK)):=by rw[encPk_map,trG_cpK];exact mres2 _ a b
theorem mputKK {se:List (Nat×Nat)} {i j:Nat} (h:(i,j)∉se):ja (se.map encPk) (.agg [.int .i64 i,.int .i64 j])=(se++ [(i,j)]).map encPk/\im (se.map encPk) (trG se) (.agg [.int .i64 i,.int .i64 j]) (.bool true)=trG (se++ [(i,j)]):=by
 have h1:((i:Int),(j:Int))∉se.map cpK:=fun hh=>h (cpK_mem.1 hh)
 constructor
 ·rw[encPk_map,mputK2,addG_new h1,encPk_map];simp[cpK]
 ·rw[encPk_map,trG_cpK,mputV2,addG_new h1];simp[trG]
theorem keO (RO:Int->ByteArray):KE (true,[false,true,true]) (encO RO) where
 fit x:=by simp[encO,o8,o7,iN]
 eq x y:=by
  obtain⟨a,b⟩:=x;obtain⟨c,d⟩:=y;simp only[encO,gE,sU,fF,if_true,Option.some.injEq,Prod.mk.injEq];by_cases h:a=c
  ·subst h;by_cases h':b=d<;>simp[h']
  ·simp[h]
def rH (RO:Int->ByteArray) (ms mo:Nat) (w:EW) (H:List ak):List ak:=(H.set ms (mpK w.se)).set mo (mpO RO w.fo)
section
variable {P:bH} {RO:Int->ByteArray} {nm:ByteArray} {x mc ms mo:Nat} {S:List (Int×Int)} {w:EW} {H:List ak}
theorem rH_len:(rH RO ms mo w H).length=H.length:=by simp[rH]
theorem RM.step (h:RM P RO nm x mc ms mo S w.se w.fo H) (w':EW):RM P RO nm x mc ms mo S w'.se w'.fo (rH RO ms mo w' H):=(h.sets w'.se).seto w'.fo
theorem RM.same (h:RM P RO nm x mc ms mo S w.se w.fo H):rH RO ms mo w H=H:=by
 rw[rH];have e1:H.set ms (mpK w.se)=H:=lset_same h.s;rw[e1];exact lset_same h.o
theorem rH_rH (h:ms≠mo) (w':EW):rH RO ms mo w' (rH RO ms mo w H)=rH RO ms mo w' H:=by
 simp only[rH];rw[List.set_comm _ _ h.symm,List.set_set,List.set_set]
theorem rH_app (h1:ms<H.length) (h2:mo<H.length) (J:List ak):rH RO ms mo w (H++J)=rH RO ms mo w H++J:=by
 simp only[rH];rw[List.set_append_left _ _ h1,List.set_append_left _ _ (by simpa using h2)]
theorem rH_seto (h2:mo<H.length) (fo:List (Int×ByteArray)) (K:List ak):(rH RO ms mo w H++K).set mo (mpO RO fo)=rH RO ms mo ⟨w.se,fo⟩ H++K:=by
 simp only[rH];rw[List.set_append_left _ _ (by simpa using h2),List.set_set]
theorem rH_sets (h:ms≠mo) (h1:ms<H.length) (se:List (Nat×Nat)) (K:List ak):(rH RO ms mo w H++K).set ms (mpK se)=rH RO ms mo ⟨se,w.fo⟩ H++K:=by
 simp only[rH];rw[List.set_append_left _ _ (by simpa using h1),List.set_comm _ _ h.symm,List.set_set]
theorem rH_ok:∀(i:Nat) b,(rH RO ms mo w H)[i]? =some b->H[i]? =some b\/b.nr=true:=by
 intro i b h;simp only[rH]at h;rw[List.getElem?_set]at h;split at h
 ·first | (split at h<;>cases h) | cases h
  all_goals (right;simp only[mpO,ak.nr,norefL_encO,norefL_trG,Bool.and_self])
 ·rw[List.getElem?_set]at h;split at h
  ·first | (split at h<;>cases h) | cases h
   all_goals (right;simp only[mpK,ak.nr,norefL_encPk,norefL_trG,Bool.and_self])
  ·exact .inl h
end
theorem off_le {P:bH} {i:Nat} (hi:i<P.procs.length):dc P i+ai (aK P.procs i)<=total P:=by
 have h1:P.procs=P.procs.take i++P.procs[i]::P.procs.drop (i+1):=by rw[<-List.drop_eq_getElem_cons hi,List.take_append_drop]
 have h2:bD P.procs=bD (P.procs.take i)+(ai P.procs[i].steps+bD (P.procs.drop (i+1))):=by
  conv=>lhs;rw[h1]
  rw[bE,bD]
 have hb:aK P.procs i=P.procs[i].steps:=by simp[aK,hi]
 have h3:total P=ai P.main+bD P.procs:=rfl;rw[hb,dc];omega
theorem mJ {P:bH} {i:Nat} (hi:i<P.procs.length):dn (aK P.procs i)<=iE P:=by
 have hb:aK P.procs i=P.procs[i].steps:=by simp[aK,hi]
 have:∀(l:List Pr) (q:Pr),q∈l->dn q.steps<=lM l:=by
  intro l;induction l with
  | nil=>intro q h;simp at h
  | cons y l ih=>
   intro q h;rcases List.mem_cons.1 h with rfl | h
   ·simp only[lM];omega
   ·have:=ih q h;simp only[lM];omega
 have:=this P.procs P.procs[i] (List.getElem_mem hi);rw[hb,iE];omega
def I273 (P:bH) (RO:Int->ByteArray) (nm:ByteArray) (x mc ms mo:Nat) (S:List (Int×Int)) (f:Nat):Prop:=
 ∀(l:List St) (n:Int) (role:ByteArray) (w:EW) (H:List ak),RM P RO nm x mc ms mo S w.se w.fo H->LW P.procs RO l n->0<=n->n+ai l<=1000000->dn l<=1000000->role≠⟨#[]⟩->muE P w l<f->
  av Tryz.prog 104 [.ptr x 0 0,.fs (l.map encS),.int .i64 n,.str role,.bool true] H (bX (.int .i64 (n+ai l)) (rH RO ms mo (wkE P (CS S) nm f l n role w) H))
theorem t273d (P:bH) (x:Nat) (role:ByteArray):∀(z:Nat) (l:List St),SizeOf.sizeOf l<z->∀(n:Int) (H:List ak),0<=n->n+ai l<=1000000->
 av Tryz.prog 104 [.ptr x 0 0,.fs (l.map encS),.int .i64 n,.str role,.bool false] H (bX (.int .i64 (n+ai l)) H)
 | 0,l,h=>absurd h (Nat.not_lt_zero _)
 | z+1,l,hz=>fun n H lV hn=>by
  have ih:=t273d P x role z;refine av.trim ?_;refine av.intro c273 800 (by simp) ?_;simp -implicitDefEqProofs only[s273,ne_eq,not_false_eq_true,fv,fK,Nat.reduceMul,go_sem];intro hlen;refine aL (fun mm e H1=>∃pre post J,l=pre++post/\mm=post.length/\e 0=.ptr x 0 0/\e 2=.int .i64 (n+ai pre)/\e 3=.str role/\e 4=.bool false/\e 14=.fs (l.map encS)/\e 15=.int .i64 l.length/\e 16=.int .i64 pre.length/\H1=H++J) l.length
   ⟨[],l,[],rfl,rfl,by simp[az,aC],by simp[az,aC,ai],by simp[az,aC],by simp[az,aC],by simp[az,aC],by simp[az,aC],by simp[az,aC],by simp⟩ ?_
  rintro mm e H1 ⟨pre,post,J,ao,rfl,h0,h2,h3,h4,dG,gy,cZ,rfl⟩;cases post with
  | nil=>
   have ev:pre=l:=by rw[ao];simp
   subst ev;simp -implicitDefEqProofs only[h0,h2,h3,h4,dG,gy,cZ,aI ao,ne_eq,not_false_eq_true,fv,fK,Nat.reduceMul,go_sem];simp -implicitDefEqProofs only[r273,ne_eq,not_false_eq_true,fv,fK,Nat.reduceMul,push_cast,go_sem_proc];exact⟨H,J,rfl,rfl,fun i b hb=> .inl hb,rfl⟩
  | cons s rest=>
   have hg:=aO encS ao;have eW:=List.sizeOf_lt_of_mem (show s∈l by rw[ao];simp);have eT:ai l=ai pre+(dA s+ai rest):=by rw[ao,aX,ai]
   rcases s with⟨k,r,t,v,lb,⟨ek,en,es,aR⟩,a,b,p,ps⟩
   simp only[St.mk.sizeOf_spec]at eW;simp only[dA]at eT;have Am:ai (pre++ [St.mk k r t v lb (.mk ek en es aR) a b p ps])=ai pre+(1+ai a+ai b):=by rw[aX];simp[ai,dA]
   rw[ay]at hg;have ha:=fun H=>ih a (by omega) (n+ai pre+1) H (by omega) (by omega)
   have hb:=fun H=>ih b (by omega) (n+ai pre+1+ai a) H (by omega) (by omega)
   have zL:IntKind.i64.wrap (n+(ai pre:Int)+1)=n+ai pre+1:=bP (by omega) (by omega);simp -implicitDefEqProofs only[h0,h2,h3,h4,dG,gy,cZ,an ao,aa ao hlen,hg,zL,decide_true,ne_eq,not_false_eq_true,fv,fK,Nat.reduceMul,go_sem];repeat' (first | ((first | (with_reducible first | refine bR ((ha _)) ?_ | refine bR ((hb _)) ?_) | (with_reducible refine aD ?_));simp -implicitDefEqProofs only[h0,h2,h3,h4,dG,gy,cZ,an ao,aa ao hlen,hg,zL,decide_true,ne_eq,not_false_eq_true,fv,fK,Nat.reduceMul,go_sem]) | (with_reducible refine aA.mk ?_ ?_) | (with_reducible refine And.intro ?_ ?_) | ((with_reducible refine bz ?_);simp -implicitDefEqProofs only[r273,ne_eq,not_false_eq_true,fv,fK,Nat.reduceMul,push_cast,go_sem_proc]) | intro _)
   exact⟨rest.length,Nat.lt_succ_self _,pre++ [_],rest,J++ [_],by simp[ao];rfl,rfl,by rw[Am];congr 1;omega,by simp,rfl⟩
theorem t313n {P:bH} {RO:Int->ByteArray} {nm:ByteArray} {x mc ms mo:Nat} {S:List (Int×Int)} (w:EW) (H:List ak) (hM:RM P RO nm x mc ms mo S w.se w.fo H) (a b:Int) (hb:b<0):
 av Tryz.prog 175 [.ptr x 0 0,.agg [.int .i64 a,.int .i64 b]] H (bX (.dJ []) H):=by
 have hbox:∀J,(H++J)[x]? =_:=fun J=>(hM.app J).box
 have hs:∀J,(H++J)[ms]? =some (.mp (w.se.map encPk) (trG w.se)):=fun J=>(hM.app J).s
 refine av.trim ?_;refine av.intro c313 800 (by simp) ?_;simp -implicitDefEqProofs only[s313,ne_eq,not_false_eq_true,fv,fK,Nat.reduceMul,go_sem];by_cases oO:(a,b)∈w.se.map cpK
 ·repeat' (first | ((with_reducible refine aD ?_);simp -implicitDefEqProofs only[hbox,hs,kOkK,mresK,oO,hb,decide_true,ne_eq,not_false_eq_true,fv,fK,Nat.reduceMul,go_sem]) | (with_reducible refine aA.mk ?_ ?_) | (with_reducible refine And.intro ?_ ?_) | ((with_reducible refine bz ?_);simp -implicitDefEqProofs only[r313,ne_eq,not_false_eq_true,fv,fK,Nat.reduceMul,push_cast,go_sem_proc]) | intro _)
  exact⟨H,_,rfl,rfl,fun i b hb=> .inl hb,rfl⟩
 ·repeat' (first | ((with_reducible refine aD ?_);simp -implicitDefEqProofs only[hbox,hs,kOkK,mresK,oO,hb,decide_true,decide_false,ne_eq,not_false_eq_true,fv,fK,Nat.reduceMul,go_sem]) | (with_reducible refine aA.mk ?_ ?_) | (with_reducible refine And.intro ?_ ?_) | ((with_reducible refine bz ?_);simp -implicitDefEqProofs only[r313,ne_eq,not_false_eq_true,fv,fK,Nat.reduceMul,push_cast,go_sem_proc]) | intro _)
  exact⟨H,_,rfl,rfl,fun i b hb=> .inl hb,rfl⟩
theorem t313 {P:bH} {RO:Int->ByteArray} {nm:ByteArray} {x mc ms mo:Nat} {S:List (Int×Int)} (hP:PW P RO) (hc:total P<=1000000) (hw:iE P<=1000000) (ew:P.procs.length<=1000000) {f:Nat} (ih:I273 P RO nm x mc ms mo S f) (i j:Nat) (hi:i<P.procs.length) (hj:j<rolesN P.procs i)
 (w:EW) (H:List ak) (hM:RM P RO nm x mc ms mo S w.se w.fo H) (hmu:(i,j)∉w.se->muE P ⟨w.se++ [(i,j)],w.fo⟩ (aK P.procs i)<f):
 av Tryz.prog 175 [.ptr x 0 0,.agg [.int .i64 i,.int .i64 j]] H (bX (.dJ []) (rH RO ms mo (if(i,j)∉w.se then wkE P (CS S) nm f (aK P.procs i) (dc P i) (roA P.procs i j) ⟨w.se++ [(i,j)],w.fo⟩else w) H)):=by
 obtain⟨q,hq⟩:∃q,P.procs[i]? =some q:=⟨_,List.getElem?_eq_getElem hi⟩;have PA:rolesN P.procs i=q.au.length:=by simp[rolesN,hq]
 have hjq:j<q.au.length:=by omega
 have kE:=(List.getElem?_eq_some_iff.1 hM.s).1;have hmol:=(List.getElem?_eq_some_iff.1 hM.o).1;have DX:(P.procs.map aF).getD i .any=.agg [.str q.name,.fs (q.au.map .str),.fs (q.steps.map encS)]:=by
  rw[List.getD_eq_getElem?_getD,List.getElem?_map,hq];rfl
 have hro:roA P.procs i j≠⟨#[]⟩:=by
  have hr:q.au[j]? =some q.au[j]:=List.getElem?_eq_getElem hjq;rw[roA_of hq hr];exact hP.role i q j _ hq hr
 have hbt:aK P.procs i=q.steps:=by simp[aK,hq]
 have hEq:∀w' J,rH RO ms mo w' H++J=rH RO ms mo w' (H++J):=fun w' J=>(rH_app kE hmol J).symm
 have hbox0:∀J,(H++J)[x]? =_:=fun J=>(hM.app J).box
 have z8:∀J,(H++J)[ms]? =some (.mp (w.se.map encPk) (trG w.se)):=fun J=>(hM.app J).s
 have Rt:¬((j:Int)<0):=by omega
 refine av.trim ?_;by_cases oO:(i,j)∈w.se
 ·rw[if_neg (fun hh=>hh oO),hM.same];have hin':=cpK_mem.2 oO;refine av.intro c313 800 (by simp) ?_;simp -implicitDefEqProofs only[s313,ne_eq,not_false_eq_true,fv,fK,Nat.reduceMul,go_sem];repeat' (first | ((with_reducible refine aD ?_);simp -implicitDefEqProofs only[hbox0,z8,kOkK,mresK,hin',decide_true,ne_eq,not_false_eq_true,fv,fK,Nat.reduceMul,go_sem]) | (with_reducible refine aA.mk ?_ ?_) | (with_reducible refine And.intro ?_ ?_) | ((with_reducible refine bz ?_);simp -implicitDefEqProofs only[r313,ne_eq,not_false_eq_true,fv,fK,Nat.reduceMul,push_cast,go_sem_proc]) | intro _)
  exact⟨H,_,rfl,rfl,fun i b hb=> .inl hb,rfl⟩
 ·rw[if_pos oO];have hin':((i:Int),(j:Int))∉w.se.map cpK:=fun h=>oO (cpK_mem.1 h)
  obtain⟨Qx,Xf⟩:=mputKK oO;have iI:∀J,(H++J).set ms (.mp ((w.se++ [(i,j)]).map encPk) (trG (w.se++ [(i,j)])))=rH RO ms mo ⟨w.se++ [(i,j)],w.fo⟩ H++J:=fun J=>by
   have:=rH_sets (RO:=RO) (w:=w) hM.so kE (w.se++ [(i,j)]) J;rw[hM.same]at this;exact this
  have hM2:=fun J=>(hM.step ⟨w.se++ [(i,j)],w.fo⟩).app J
  have hbox:=fun J=>(hM2 J).box
  have Ff:=fun J=>(hM2 J).fzc
  have Jj:=fun J=>(hM2 J).fzs
  have WI:=fun J=>(hM2 J).fzo
  have cH:∀J,av Tryz.prog 104 [.ptr x 0 0,.fs ((aK P.procs i).map encS),.int .i64 (dc P i),.str (roA P.procs i j),.bool true] (rH RO ms mo ⟨w.se++ [(i,j)],w.fo⟩ H++J) (bX (.int .i64 (dc P i+ai (aK P.procs i))) (rH RO ms mo (wkE P (CS S) nm f (aK P.procs i) (dc P i) (roA P.procs i j) ⟨w.se++ [(i,j)],w.fo⟩) H++J)):=fun J=>by
   have:=ih (aK P.procs i) (dc P i) (roA P.procs i j) ⟨w.se++ [(i,j)],w.fo⟩ _ (hM2 J) (hP.body i hi) (by simp[dc];omega) (by have:=off_le hi;omega) (by have:=mJ hi;omega) hro (hmu oO);rwa[rH_app (by rw[rH_len];exact kE) (by rw[rH_len];exact hmol),rH_rH hM.so]at this
  have h312:=t312 P nm S (.db ((w.se++ [(i,j)]).map encPk) (trG (w.se++ [(i,j)]))) (.db (w.fo.map (encO RO)) (trG w.fo)) (by simp only[al,norefL_encPk,norefL_trG,Bool.and_self]) (by simp only[al,norefL_encO,norefL_trG,Bool.and_self]) i q j hq (by omega);simp only[rVV]at h312;have HX:=t252 _ P.main (Nat.lt_succ_self _) (by have:total P=ai P.main+bD P.procs:=rfl;omega);rw[hbt]at cH;have AQ:∀b J,(rH RO ms mo ⟨w.se++ [(i,j)],w.fo⟩ H++b::J)[H.length]? =some b:=fun b J=>by
   rw[List.getElem?_append_right (by rw[rH_len];omega),rH_len];simp
  have yZ:(P.procs.map aF).take i=(P.procs.take i).map aF:=(List.map_take ..).symm;have J9:dc P i=((ai P.main+bD (P.procs.take i):Nat):Int):=rfl;have hct:bD (P.procs.take i)<=bD P.procs:=by
   have:P.procs=P.procs.take i++P.procs.drop i:=(List.take_append_drop ..).symm;rw[this,bE];simp
  have zE:total P=ai P.main+bD P.procs:=rfl;have hile:(i:Int)<=P.procs.length:=by omega
  refine av.intro c313 800 (by simp) ?_;simp -implicitDefEqProofs only[s313,ne_eq,not_false_eq_true,fv,fK,Nat.reduceMul,go_sem];repeat' (first | ((first | ((with_reducible refine bj HX ?_ ?_);(·simp[ae,al,cm])) | ((with_reducible apply cj);(·simp -implicitDefEqProofs only[List.map_cons,List.map_nil,ne_eq,not_false_eq_true,fv,fK,Nat.reduceMul,push_cast,go_sem_proc]<;>rfl);(with_reducible exact HX);(·rfl)) | (with_reducible refine aD ?_));simp -implicitDefEqProofs only[hbox0,z8,kOkK,mresK,hin',Rt,decide_false,Qx,Xf,iI,hbox,AQ,headOk_P,hile,yZ,ne_eq,not_false_eq_true,fv,fK,Nat.reduceMul,go_sem]) | (with_reducible refine aA.mk ?_ ?_) | (with_reducible refine And.intro ?_ ?_) | ((with_reducible refine bz ?_);simp -implicitDefEqProofs only[r313,ne_eq,not_false_eq_true,fv,fK,Nat.reduceMul,push_cast,go_sem_proc]) | intro _)
  ·omega
  ·omega
  have hlen:(P.procs.take i).length<=9223372036854775807:=by rw[List.length_take];omega
  have hpt:∀pre q' post,P.procs.take i=pre++q'::post->ai q'.steps<=1000000/\bD pre+ai q'.steps<=bD (P.procs.take i):=fun pre q' post h=>by
   have:bD (P.procs.take i)=bD pre+(ai q'.steps+bD post):=by rw[h,bE,bD]
   omega
  refine aL (fun mm e H1=>∃pre post J,P.procs.take i=pre++post/\mm=post.length/\e 0=.ptr x 0 0/\e 3=.ptr H.length 0 0/\e 4=.int .i64 ((ai P.main+bD pre:Nat):Int)/\e 36=.fs ((P.procs.take i).map aF)/\e 37=.int .i64 (P.procs.take i).length/\e 38=.int .i64 pre.length/\
   H1=rH RO ms mo ⟨w.se++ [(i,j)],w.fo⟩ H++ak.row [V.agg [.int .i64 i,.int .i64 j]]::J) (P.procs.take i).length
   ⟨[],P.procs.take i,[],rfl,rfl,by simp[az,aC],by simp[az,aC],by simp[az,bD],by simp[az],by simp[az],by simp[az],rfl⟩ ?_
  rintro mm e H1 ⟨pre,post,J,ao,rfl,h0,h3,h4,hU,wh,h38,rfl⟩;cases post with
  | nil=>
   have ev:pre=P.procs.take i:=by rw[ao];simp
   rw[ev,<-J9]at h4;simp -implicitDefEqProofs only[h0,h3,h4,hU,wh,h38,aI ao,ne_eq,not_false_eq_true,fv,fK,Nat.reduceMul,go_sem];repeat' (first | ((first | (with_reducible refine bR ((cH _)) ?_) | ((with_reducible refine bj h312 ?_ ?_);(·simp[ae,al,cm,hbox,Ff,Jj,WI,norefL_enc2,norefL_trG,norefL_encPk,norefL_encO,aq,ah])) | ((with_reducible apply cj);(·simp -implicitDefEqProofs only[List.map_cons,List.map_nil,hbox,Ff,Jj,WI,norefL_enc2,norefL_trG,norefL_encPk,norefL_encO,aq,ah,ne_eq,not_false_eq_true,fv,fK,Nat.reduceMul,push_cast,go_sem_proc]<;>rfl);(with_reducible exact h312);(·rfl)) | (with_reducible refine aD ?_));simp -implicitDefEqProofs only[h0,h3,h4,hU,wh,h38,hbox,AQ,DX,hi,ne_eq,not_false_eq_true,fv,fK,Nat.reduceMul,go_sem]) | (with_reducible refine aA.mk ?_ ?_) | (with_reducible refine And.intro ?_ ?_) | ((with_reducible refine bz ?_);simp -implicitDefEqProofs only[r313,ne_eq,not_false_eq_true,fv,fK,Nat.reduceMul,push_cast,go_sem_proc]) | intro _)
   exact⟨_,_,rfl,rH_len,rH_ok,by rw[hbt]⟩
  | cons q' post=>
   have hg:=aO aF ao;simp only[aF]at hg;obtain⟨jB,jI⟩:=hpt pre q' post ao;have si:=t252 _ q'.steps (Nat.lt_succ_self _) jB;have zL:IntKind.i64.wrap (((ai P.main+bD pre:Nat):Int)+(ai q'.steps:Int))=((ai P.main+bD (pre++ [q']):Nat):Int):=by
    have:bD (pre++ [q'])=bD pre+ai q'.steps:=by rw[bE];simp[bD]
    rw[this,bP (by omega) (by omega)];omega
   simp -implicitDefEqProofs only[h0,h3,h4,hU,wh,h38,an ao,aa ao hlen,hg,decide_true,ne_eq,not_false_eq_true,fv,fK,Nat.reduceMul,go_sem];repeat' (first | ((first | ((with_reducible refine bj si ?_ ?_);(·simp[ae,al,cm])) | ((with_reducible apply cj);(·simp -implicitDefEqProofs only[List.map_cons,List.map_nil,ne_eq,not_false_eq_true,fv,fK,Nat.reduceMul,push_cast,go_sem_proc]<;>rfl);(with_reducible exact si);(·rfl)) | (with_reducible refine aD ?_));simp -implicitDefEqProofs only[h0,h3,h4,hU,wh,h38,aa ao hlen,hg,zL,ne_eq,not_false_eq_true,fv,fK,Nat.reduceMul,go_sem]) | (with_reducible refine aA.mk ?_ ?_) | (with_reducible refine And.intro ?_ ?_) | ((with_reducible refine bz ?_);simp -implicitDefEqProofs only[r313,ne_eq,not_false_eq_true,fv,fK,Nat.reduceMul,push_cast,go_sem_proc]) | intro _)
   exact⟨post.length,Nat.lt_succ_self _,pre++ [q'],post,_,by simp[ao],rfl,rfl,by simp,rfl⟩
theorem exR_any (nm:ByteArray) (e:Ex):((exR e).any fun y=>decide (nm=y))=inE nm e:=by
 rw[Bool.eq_iff_iff,inE_iff,List.any_eq_true,<-exR_mem];constructor
 ·rintro⟨z,h1,h2⟩;have:nm=z:=by simpa using h2
  subst this;exact h1
 ·intro h;exact⟨nm,h,by simp⟩
theorem wSs_ap:∀a b:List St,dn (a++b)=dn a+dn b
 | [],b=>by simp[dn]
 | x::a,b=>by rw[List.cons_append,dn,dn,wSs_ap a b];omega
theorem t273s {P:bH} {RO:Int->ByteArray} {nm:ByteArray} {x mc ms mo:Nat} {S:List (Int×Int)} (hP:PW P RO) (hc:total P<=1000000) (hw:iE P<=1000000) (ew:P.procs.length<=1000000) {f:Nat} (ih:∀k,k<=f->I273 P RO nm x mc ms mo S k):I273 P RO nm x mc ms mo S (f+1):=by
 intro l n role w H hM hl lV pn XF hro hmu;have kE:=(List.getElem?_eq_some_iff.1 hM.s).1;have hmol:=(List.getElem?_eq_some_iff.1 hM.o).1;have xY:=fun w' K=>(hM.step w').app K
 have hbox:=fun w' K=>(xY w' K).box
 have ho:∀w' K,(rH RO ms mo w' H++K)[mo]? =some (.mp (w'.fo.map (encO RO)) (trG w'.fo)):=fun w' K=>(xY w' K).o
 have Ff:=fun w' K=>(xY w' K).fzc
 have Jj:=fun w' K=>(xY w' K).fzs
 have WI:=fun w' K=>(xY w' K).fzo
 have cH:∀k,k<=f->∀l' n' w' K,LW P.procs RO l' n'->0<=n'->n'+ai l'<=1000000->dn l'<=1000000->muE P w' l'<k->av Tryz.prog 104 [.ptr x 0 0,.fs (l'.map encS),.int .i64 n',.str role,.bool true] (rH RO ms mo w' H++K)
  (bX (.int .i64 (n'+ai l')) (rH RO ms mo (wkE P (CS S) nm k l' n' role w') H++K)):=fun k hk l' n' w' K h1 h2 h3 h4 h5=>by
  have:=ih k hk l' n' role w' _ (xY w' K) h1 h2 h3 h4 hro h5;rwa[rH_app (by rw[rH_len];exact kE) (by rw[rH_len];exact hmol),rH_rH hM.so]at this
 have henter:∀k,k<=f->∀(i j:Nat) w' K,i<P.procs.length->j<rolesN P.procs i->((i,j)∉w'.se->muE P ⟨w'.se++ [(i,j)],w'.fo⟩ (aK P.procs i)<k)->av Tryz.prog 175 [.ptr x 0 0,.agg [.int .i64 i,.int .i64 j]] (rH RO ms mo w' H++K)
  (bX (.dJ []) (rH RO ms mo (if(i,j)∉w'.se then wkE P (CS S) nm k (aK P.procs i) (dc P i) (roA P.procs i j) ⟨w'.se++ [(i,j)],w'.fo⟩else w') H++K)):=fun k hk i j w' K hi hj hm'=>by
  have:=t313 hP hc hw ew (ih k hk) i j hi hj w' _ (xY w' K) hm';rwa[rH_app (by rw[rH_len];exact kE) (by rw[rH_len];exact hmol),rH_rH hM.so]at this
 have hentn:∀(a b:Int) w' K,b<0->av Tryz.prog 175 [.ptr x 0 0,.agg [.int .i64 a,.int .i64 b]] (rH RO ms mo w' H++K) (bX (.dJ []) (rH RO ms mo w' H++K)):=fun a b w' K hb=>t313n w' _ (xY w' K) a b hb
 refine av.trim ?_;refine av.intro c273 900 (by simp) ?_;simp -implicitDefEqProofs only[s273,go_sem];intro hlen;refine aL (fun mm e H1=>∃pre post f' w' lv J,l=pre++post/\mm=post.length/\LW P.procs RO post (n+ai pre)/\(lv=true->f'<=f+1/\muE P w' post<f'/\wkE P (CS S) nm (f+1) l n role w=wkE P (CS S) nm f' post (n+ai pre) role w')/\
  (lv=false->wkE P (CS S) nm (f+1) l n role w=w')/\
  e 0=.ptr x 0 0/\e 2=.int .i64 (n+ai pre)/\e 3=.str role/\e 4=.bool lv/\e 14=.fs (l.map encS)/\e 15=.int .i64 l.length/\e 16=.int .i64 pre.length/\H1=rH RO ms mo w' H++J) l.length
  ⟨[],l,f+1,w,true,[],rfl,rfl,by simpa[ai]using hl,(fun _=>⟨Nat.le_refl _,hmu,by simp[ai]⟩),(fun h=>by cases h),by simp[az,aC],by simp[az,aC,ai],by simp[az,aC],by simp[az,aC],by simp[az,aC],by simp[az,aC],by simp[az,aC],by rw[hM.same,List.append_nil]⟩ ?_
 rintro mm e H1 ⟨pre,post,f',w',lv,J,ao,rfl,MN,ct,hlf,h0,h2,h3,h4,dG,gy,cZ,rfl⟩;cases post with
 | nil=>
  have ev:pre=l:=by rw[ao];simp
  simp -implicitDefEqProofs only[h0,h2,h3,h4,dG,gy,cZ,aI ao,go_sem];simp -implicitDefEqProofs only[r273,h2,push_cast,go_sem_proc];refine⟨_,J,rfl,rH_len,rH_ok,?_⟩;rw[ev];refine⟨rfl,?_⟩;cases lv with
  | false=>rw[hlf rfl]
  | true=>rw[(ct rfl).2.2,wkE_nil]
 | cons s rest=>
  have hg:=aO encS ao;have eT:ai l=ai pre+(dA s+ai rest):=by rw[ao,aX,ai]
  obtain⟨hwf,Zo,hdm,hroL⟩:=MN;simp only[wfEs,okL2,dmL,roL,Bool.and_eq_true]at hwf Zo hdm hroL;have hnp:n+(ai (pre++ [s]):Int)=n+ai pre+dA s:=by rw[aX];simp[ai];omega
  have Ub:LW P.procs RO rest (n+ai (pre++ [s])):=by rw[hnp];exact⟨hwf.2,Zo.2,hdm.2,hroL.2⟩
  have Mo:dn l=dn pre+(wS s+dn rest):=by rw[ao,wSs_ap,dn]
  rcases s with⟨sk,r,t,v,lb,⟨ek,en,es,aR⟩,sa,sb,p,ps⟩
  have AL:=Zo.1;have hw1':=hwf.1;have vi:=hdm.1;have Bu:=hroL.1;simp only[wfE,dmS,roS,okS2,Bool.and_eq_true,Bool.or_eq_true,decide_eq_true_eq,List.isEmpty_iff,List.all_eq_true,bne_iff_ne,ne_eq]at hw1' vi Bu Zo;simp only[dA]at eT hnp;simp only[wS]at Mo;generalize W8:n+(ai pre:Int)=n' at*;have zL:IntKind.i64.wrap (n'+1)=n'+1:=bP (by omega) (by omega);rw[ay]at hg;cases lv with
  | false=>
   have ha:=fun K=>t273d P x role _ sa (Nat.lt_succ_self _) (n'+1) K (by omega) (by omega)
   have hb:=fun K=>t273d P x role _ sb (Nat.lt_succ_self _) (n'+1+ai sa) K (by omega) (by omega)
   have qx:=hlf rfl;have AQ:=fun b=>l7 (rH RO ms mo w' H++J) [b]
   simp -implicitDefEqProofs only[h0,h2,h3,h4,dG,gy,cZ,an ao,aa ao hlen,hg,zL,go_sem];repeat' (first | ((first | (with_reducible first | refine bR ((ha _)) ?_ | refine bR ((hb _)) ?_) | (with_reducible refine aD ?_));simp -implicitDefEqProofs only[h0,h2,h3,h4,dG,gy,cZ,aa ao hlen,hg,zL,go_sem]) | (with_reducible refine aA.mk ?_ ?_) | (with_reducible refine And.intro ?_ ?_) | ((with_reducible refine bz ?_);simp -implicitDefEqProofs only[r273,push_cast,go_sem_proc]) | intro _)
   exact⟨rest.length,Nat.lt_succ_self _,pre++ [_],rest,0,w',false,J++ [_],by simp[ao],rfl,Ub,(fun h=>by cases h),(fun _=>qx),by rw[hnp];congr 1;omega,rfl,by simp,rfl⟩
  | true=>
   obtain⟨JK,hmu',qx⟩:=ct rfl;clear ct hlf;cases f' with
   | zero=>omega
   | succ k=>
   have hk:k<=f:=by omega
   have Ii:LW P.procs RO sa (n'+1):=⟨hw1'.2.1,Zo.1.2.1,vi.2.1,Bu.2.1⟩;have EN:LW P.procs RO sb (n'+1+ai sa):=⟨hw1'.2.2,Zo.1.2.2,vi.2.2,Bu.2.2⟩;have hncnt:dA (.mk sk r t v lb (.mk ek en es aR) sa sb p ps)=1+ai sa+ai sb:=rfl;simp only[muE,ai,dA]at hmu';simp only[wkE]at qx;have h269:=t269 _ (.mk ek en es aR) (Nat.lt_succ_self _) (by omega);have oR:=t29 (exR (.mk ek en es aR)) nm;rw[exR_any]at oR;rw[bp]at h269;generalize exR (.mk ek en es aR)=ER at*;have h314:=fun(w2:EW)=>t314 P nm S (.db (w2.se.map encPk) (trG w2.se)) (.db (w2.fo.map (encO RO)) (trG w2.fo)) (by simp only[al,norefL_encPk,norefL_trG,Bool.and_self]) (by simp only[al,norefL_encO,norefL_trG,Bool.and_self]) role sk r t v lb ek en es aR sa sb p ps
   have h311:=fun(w2:EW)=>t311 P nm S (.db (w2.se.map encPk) (trG w2.se)) (.db (w2.fo.map (encO RO)) (trG w2.fo)) (by simp only[al,norefL_encPk,norefL_trG,Bool.and_self]) (by simp only[al,norefL_encO,norefL_trG,Bool.and_self]) role [.mk sk r t v lb (.mk ek en es aR) sa sb p ps] (by simp only[wfEs,hwf.1,Bool.and_self])
   simp only[rVV,List.map_cons,List.map_nil,ay,ulL,Bool.and_true]at h314 h311;generalize hnd0:V.agg [.int .i64 sk,.str r,.str t,.str v,.str lb,.int .i64 ek,.int .i64 en,.str es,.fs (aR.map bu),.fs (sa.map encS),.fs (sb.map encS),.str p,.fs (ps.map .str)]=nd at*;have AQ:∀w1 w2,(rH RO ms mo w1 H++(J++ [ak.row [nd]]))[(rH RO ms mo w2 H).length+J.length]? =some (.row [nd]):=fun w1 w2=>by
    rw[List.getElem?_append_right (by rw[rH_len,rH_len];omega),rH_len,rH_len,List.getElem?_append_right (by omega)];simp
   have iI:∀fo',(rH RO ms mo w' H++(J++ [ak.row [nd]])).set mo (.mp (fo'.map (encO RO)) (trG fo'))=rH RO ms mo ⟨w'.se,fo'⟩ H++(J++ [ak.row [nd]]):=fun fo'=>rH_seto hmol fo' _
   have hkO:ya (true,[false,true,true]) (w'.fo.map (encO RO)) (.agg [.int .i64 n',.str r,.str nm])=true:=by rw[<-Bu.1];exact(keO RO).ya _ (n',nm)
   have hpk:ja (w'.fo.map (encO RO)) (.agg [.int .i64 n',.str r,.str nm])=(addG w'.fo (n',nm)).map (encO RO):=by rw[<-Bu.1];exact(keO RO).ja (n',nm) _
   have hpv:im (w'.fo.map (encO RO)) (trG w'.fo) (.agg [.int .i64 n',.str r,.str nm]) (.bool true)=trG (addG w'.fo (n',nm)):=by rw[<-Bu.1];exact(keO RO).im (n',nm) _
   have LF:∃w1:EW,(if r=role/\inE nm (.mk ek en es aR)=true then(⟨w'.se,addG w'.fo (n',nm)⟩:EW)else w')=w1/\frE P.procs w1<=frE P.procs w'/\((r≠role/\w1=w')\/(r=role/\inE nm (.mk ek en es aR)=false/\w1=w')\/(r=role/\inE nm (.mk ek en es aR)=true/\w1=⟨w'.se,addG w'.fo (n',nm)⟩)):=by
    by_cases hr:r=role
    ·by_cases hn:inE nm (.mk ek en es aR)=true
     ·rw[if_pos ⟨hr,hn⟩];exact⟨_,rfl,Nat.le_refl _,.inr (.inr ⟨hr,by simpa using hn,rfl⟩)⟩
     ·rw[if_neg (fun h=>hn h.2)];exact⟨_,rfl,Nat.le_refl _,.inr (.inl ⟨hr,by simpa using hn,rfl⟩)⟩
    ·rw[if_neg (fun h=>hr h.1)];exact⟨_,rfl,Nat.le_refl _,.inl ⟨hr,rfl⟩⟩
   obtain⟨w1,hw1e,Ef,lI⟩:=LF;rw[hw1e]at qx;clear hw1e;generalize inE nm (.mk ek en es aR)=bv at*;have oM:=Nat.mul_le_mul_right (total P+1) Ef;have ha:=fun K=>cH k hk sa (n'+1) w1 K Ii (by omega) (by omega) (by omega) (by simp only[muE];omega)
   have LQ:=wkE_post P (CS S) nm hP.dm k sa (n'+1) role w1 (by simp only[muE];omega) Ii.dm;have iS:=frE_le (X:=P.procs) LQ.mono;have hem:∀w,sa=[]->wkE P (CS S) nm k sa (n'+1) role w=w:=fun w h=>by rw[h,wkE_nil]
   generalize hw2e:wkE P (CS S) nm k sa (n'+1) role w1=w2 at*;have hm2:=Nat.mul_le_mul_right (total P+1) iS;have hb:=fun K=>cH k hk sb (n'+1+ai sa) w2 K EN (by omega) (by omega) (by omega) (by simp only[muE];omega)
   have hpb:=wkE_post P (CS S) nm hP.dm k sb (n'+1+ai sa) role w2 (by simp only[muE];omega) EN.dm;have yN:=frE_le (X:=P.procs) hpb.mono;have hem2:∀w,sb=[]->wkE P (CS S) nm k sb (n'+1+ai sa) role w=w:=fun w h=>by rw[h,wkE_nil]
   generalize hw3e:wkE P (CS S) nm k sb (n'+1+ai sa) role w2=w3 at*;have hm3:=Nat.mul_le_mul_right (total P+1) yN;clear cH LQ hpb;have hfinal:∀(D:Bool) (w4:EW),frE P.procs w4*(total P+1)<=frE P.procs w3*(total P+1)->ulS P.procs (CS S) nm role (.mk sk r t v lb (.mk ek en es aR) sa sb p ps)=D->
    wkE P (CS S) nm (f+1) l n role w=(if D=true then wkE P (CS S) nm k rest (n'+((dA (.mk sk r t v lb (.mk ek en es aR) sa sb p ps):Nat):Int)) role w4 else w4)->
    ∃m',m'<rest.length+1/\∃pre_1 post f' w' lv J_1,l=pre_1++post/\m'=post.length/\LW P.procs RO post (n+ai pre_1)/\(lv=true->f'<=f+1/\muE P w' post<f'/\wkE P (CS S) nm (f+1) l n role w=wkE P (CS S) nm f' post (n+ai pre_1) role w')/\
     (lv=false->wkE P (CS S) nm (f+1) l n role w=w')/\V.int .i64 (n'+1+ai sa+ai sb)=.int .i64 (n+ai pre_1)/\V.bool D=.bool lv/\V.int .i64 ((pre.length+1:Nat):Int)=.int .i64 (pre_1.length:Int)/\rH RO ms mo w4 H++(J++ [ak.row [nd]])=rH RO ms mo w' H++J_1:=by
    intro D w4 hm4 hD hwk4;refine⟨rest.length,Nat.lt_succ_self _,pre++ [.mk sk r t v lb (.mk ek en es aR) sa sb p ps],rest,k,w4,D,J++ [_],by simp[ao],rfl,Ub,(fun h=>⟨by omega,by simp only[muE];omega,?_⟩),(fun h=> ?_),by rw[hnp];congr 1;omega,rfl,by simp,rfl⟩
    ·rw[hwk4,if_pos h,hnp,hncnt]
    ·rw[hwk4,if_neg (by rw[h];decide)]
   subst hnd0;by_cases h5:sk=5
   ·subst h5;obtain⟨hr0,hps0,hpi⟩:=hw1'.1.2.resolve_left (fun h=>h rfl);have hr:r≠role:=fun h=>hro (h▸hr0)
    have hw1e:w1=w':=by
     rcases lI with⟨_,h⟩ | ⟨h,_⟩ | ⟨h,_⟩
     ·exact h
     ·exact absurd h hr
     ·exact absurd h hr
    clear lI;subst hw1e;obtain⟨hsa,Ag⟩:=hw1'.1.1.resolve_left (by decide);rw[hem w1 hsa]at hw2e;subst hw2e;rw[hem2 w1 Ag]at hw3e;subst hw3e;clear hem hem2;obtain⟨i,hi⟩:∃i:Nat,procI P.procs p=i:=⟨(procI P.procs p).toNat,by omega⟩;have hilt:i<P.procs.length:=by have:=fO hpi;omega
    have cR:rolesN P.procs i=ps.length:=by
     have hq:=(Zo.1.1.resolve_left (fun h=>h rfl)).2;rw[hi,Int.toNat_natCast]at hq;rw[rolesN];cases hx:P.procs[i]? with
     | none=>rw[hx]at hq;cases hq
     | some q=>rw[hx]at hq;simpa using hq
    have hpd:=(vi.1.resolve_left (fun h=>h rfl)).2;rw[hi,Int.toNat_natCast]at qx;rw[hi]at h314;by_cases gj:0<=ixR role ps
    ·obtain⟨j,hj⟩:∃j:Nat,ixR role ps=j:=⟨(ixR role ps).toNat,by omega⟩;have oN:j<ps.length:=by
      obtain⟨z,hz,_⟩:=ixF_get (fun y=>decide (role=y)) ps gj;have:=(List.getElem?_eq_some_iff.1 hz).1;rw[<-ixR,hj]at this;omega
     rw[hj]at h314 qx;rw[Int.toNat_natCast]at qx;have hdm:=dmE_mem (X:=P.procs) (i:=i) (k:=j);have hmu4:(i,j)∉w1.se->muE P ⟨w1.se++ [(i,j)],w1.fo⟩ (aK P.procs i)<k:=fun hn=>by
      have hlt2:=frE_lt (X:=P.procs) (fo:=w1.fo) (hdm.2 ⟨hilt,by omega⟩) hn;have hb:=qZ hilt;have:=Nat.mul_le_mul_right (total P+1) hlt2;simp only[Nat.succ_mul]at this;simp only[muE];omega
     have h313:=fun K=>henter k hk i j w1 K hilt (by omega) hmu4
     have hw4:∃w4,(if(i,j)∉w1.se then wkE P (CS S) nm k (aK P.procs i) (dc P i) (roA P.procs i j) ⟨w1.se++ [(i,j)],w1.fo⟩else w1)=w4/\frE P.procs w4<=frE P.procs w1:=by
      refine⟨_,rfl,?_⟩;split
      ·rename_i hn;have hp4:=wkE_post P (CS S) nm hP.dm k (aK P.procs i) (dc P i) (roA P.procs i j) ⟨w1.se++ [(i,j)],w1.fo⟩ (hmu4 hn) (hP.dm i);exact Nat.le_trans (frE_le hp4.mono) (frE_le (fun p hp=>List.mem_append_left _ hp))
      ·exact Nat.le_refl _
     obtain⟨w4,hw4e,hfr4⟩:=hw4;have hm4:=Nat.mul_le_mul_right (total P+1) hfr4;rw[hw4e]at h313;have hif:(if(5:Int)=5/\0<=(j:Int)/\(i,j)∉w1.se then wkE P (CS S) nm k (aK P.procs i) (dc P i) (roA P.procs i j) ⟨w1.se++ [(i,j)],w1.fo⟩else w1)=w4:=by
      rw[<-hw4e];by_cases hn:(i,j)∉w1.se
      ·rw[if_pos hn,if_pos ⟨rfl,by omega,hn⟩]
      ·rw[if_neg hn,if_neg (fun h=>hn h.2.2)]
     rw[hif]at qx;have fi:=hfinal _ w4 hm4 rfl qx;generalize ulS P.procs (CS S) nm role (.mk 5 r t v lb (.mk ek en es aR) sa sb p ps)=D at*;clear hif hw4e henter hentn hfinal h269 oR;simp -implicitDefEqProofs only[h0,h2,h3,h4,dG,gy,cZ,an ao,aa ao hlen,hg,hbox,AQ,zL,hro,hr,go_sem];repeat' (first | ((first | (with_reducible first | refine bR ((ha _)) ?_ | refine bR ((hb _)) ?_ | refine bR ((h313 _)) ?_) | ((with_reducible first | refine bj ((h314 _)) ?_ ?_ | refine bj ((h311 _)) ?_ ?_);(·simp[ae,al,cm,hbox,Ff,Jj,WI,norefL_enc2,norefL_trG,norefL_encPk,norefL_encO,aq,ah,bf,aE])) | ((with_reducible apply cj);(·simp -implicitDefEqProofs only[List.map_cons,List.map_nil,hbox,Ff,Jj,WI,norefL_enc2,norefL_trG,norefL_encPk,norefL_encO,aq,ah,bf,aE,push_cast,go_sem_proc]<;>rfl);(with_reducible first | exact((h314 _)) | exact((h311 _)));(·rfl)) | (with_reducible refine aD ?_));simp -implicitDefEqProofs only[h0,h2,h3,h4,dG,gy,cZ,an ao,aa ao hlen,hg,hbox,AQ,zL,hro,hr,go_sem]) | (with_reducible refine aA.mk ?_ ?_) | (with_reducible refine And.intro ?_ ?_) | ((with_reducible refine bz ?_);simp -implicitDefEqProofs only[r273,push_cast,go_sem_proc]) | intro _)
     exact fi
    ·have hif:(if(5:Int)=5/\0<=ixR role ps/\(i,(ixR role ps).toNat)∉w1.se then wkE P (CS S) nm k (aK P.procs i) (dc P i) (roA P.procs i ((ixR role ps).toNat:Nat)) ⟨w1.se++ [(i,(ixR role ps).toNat)],w1.fo⟩else w1)=w1:=if_neg (fun h=>gj h.2.1);rw[hif]at qx;have fi:=hfinal _ w1 (Nat.le_refl _) rfl qx;have h313:=fun K=>hentn i (ixR role ps) w1 K (by omega)
     generalize ulS P.procs (CS S) nm role (.mk 5 r t v lb (.mk ek en es aR) sa sb p ps)=D at*;clear hif henter hentn hfinal h269 oR;simp -implicitDefEqProofs only[h0,h2,h3,h4,dG,gy,cZ,an ao,aa ao hlen,hg,hbox,AQ,zL,hro,hr,go_sem];repeat' (first | ((first | (with_reducible first | refine bR ((ha _)) ?_ | refine bR ((hb _)) ?_ | refine bR ((h313 _)) ?_) | ((with_reducible first | refine bj ((h314 _)) ?_ ?_ | refine bj ((h311 _)) ?_ ?_);(·simp[ae,al,cm,hbox,Ff,Jj,WI,norefL_enc2,norefL_trG,norefL_encPk,norefL_encO,aq,ah,bf,aE])) | ((with_reducible apply cj);(·simp -implicitDefEqProofs only[List.map_cons,List.map_nil,hbox,Ff,Jj,WI,norefL_enc2,norefL_trG,norefL_encPk,norefL_encO,aq,ah,bf,aE,push_cast,go_sem_proc]<;>rfl);(with_reducible first | exact((h314 _)) | exact((h311 _)));(·rfl)) | (with_reducible refine aD ?_));simp -implicitDefEqProofs only[h0,h2,h3,h4,dG,gy,cZ,an ao,aa ao hlen,hg,hbox,AQ,zL,hro,hr,go_sem]) | (with_reducible refine aA.mk ?_ ?_) | (with_reducible refine And.intro ?_ ?_) | ((with_reducible refine bz ?_);simp -implicitDefEqProofs only[r273,push_cast,go_sem_proc]) | intro _)
     exact fi
   ·rw[if_neg (show¬(sk=5/\_) from fun h=>h5 h.1)]at qx;have fi:=hfinal _ w3 (Nat.le_refl _) rfl qx;generalize ulS P.procs (CS S) nm role (.mk sk r t v lb (.mk ek en es aR) sa sb p ps)=D at*;clear henter hentn h314 hfinal hem hem2;rcases lI with⟨hr,rfl⟩ | ⟨hr,rfl,rfl⟩ | ⟨hr,rfl,rfl⟩
    ·simp -implicitDefEqProofs only[h0,h2,h3,h4,dG,gy,cZ,an ao,aa ao hlen,hg,hbox,AQ,zL,hro,hr,h5,go_sem];repeat' (first | ((first | (with_reducible first | refine bR ((ha _)) ?_ | refine bR ((hb _)) ?_) | ((with_reducible refine bj ((h311 _)) ?_ ?_);(·simp[ae,al,cm,hbox,Ff,Jj,WI,norefL_enc2,norefL_trG,norefL_encPk,norefL_encO,aq,ah,bf,aE])) | ((with_reducible apply cj);(·simp -implicitDefEqProofs only[List.map_cons,List.map_nil,hbox,Ff,Jj,WI,norefL_enc2,norefL_trG,norefL_encPk,norefL_encO,aq,ah,bf,aE,push_cast,go_sem_proc]<;>rfl);(with_reducible exact((h311 _)));(·rfl)) | (with_reducible refine aD ?_));simp -implicitDefEqProofs only[h0,h2,h3,h4,dG,gy,cZ,an ao,aa ao hlen,hg,hbox,AQ,zL,hro,hr,h5,go_sem]) | (with_reducible refine aA.mk ?_ ?_) | (with_reducible refine And.intro ?_ ?_) | ((with_reducible refine bz ?_);simp -implicitDefEqProofs only[r273,push_cast,go_sem_proc]) | intro _)
     exact fi
    ·subst hr;simp -implicitDefEqProofs only[h0,h2,h3,h4,dG,gy,cZ,an ao,aa ao hlen,hg,hbox,AQ,zL,hro,h5,go_sem];repeat' (first | ((first | (with_reducible first | refine bR ((ha _)) ?_ | refine bR ((hb _)) ?_) | ((with_reducible first | refine bj h269 ?_ ?_ | refine bj oR ?_ ?_ | refine bj ((h311 _)) ?_ ?_);(·simp[ae,al,cm,hbox,Ff,Jj,WI,norefL_enc2,norefL_trG,norefL_encPk,norefL_encO,aq,ah,bf,aE])) | ((with_reducible apply cj);(·simp -implicitDefEqProofs only[List.map_cons,List.map_nil,hbox,Ff,Jj,WI,norefL_enc2,norefL_trG,norefL_encPk,norefL_encO,aq,ah,bf,aE,push_cast,go_sem_proc]<;>rfl);(with_reducible first | exact h269 | exact oR | exact((h311 _)));(·rfl)) | (with_reducible refine aD ?_));simp -implicitDefEqProofs only[h0,h2,h3,h4,dG,gy,cZ,an ao,aa ao hlen,hg,hbox,AQ,zL,hro,h5,go_sem]) | (with_reducible refine aA.mk ?_ ?_) | (with_reducible refine And.intro ?_ ?_) | ((with_reducible refine bz ?_);simp -implicitDefEqProofs only[r273,push_cast,go_sem_proc]) | intro _)
     exact fi
    ·subst hr;simp -implicitDefEqProofs only[h0,h2,h3,h4,dG,gy,cZ,an ao,aa ao hlen,hg,hbox,AQ,zL,hro,h5,go_sem];repeat' (first | ((first | (with_reducible first | refine bR ((ha _)) ?_ | refine bR ((hb _)) ?_) | ((with_reducible first | refine bj h269 ?_ ?_ | refine bj oR ?_ ?_ | refine bj ((h311 _)) ?_ ?_);(·simp[ae,al,cm,hbox,Ff,Jj,WI,norefL_enc2,norefL_trG,norefL_encPk,norefL_encO,aq,ah,bf,aE])) | ((with_reducible apply cj);(·simp -implicitDefEqProofs only[List.map_cons,List.map_nil,hbox,Ff,Jj,WI,norefL_enc2,norefL_trG,norefL_encPk,norefL_encO,aq,ah,bf,aE,push_cast,go_sem_proc]<;>rfl);(with_reducible first | exact h269 | exact oR | exact((h311 _)));(·rfl)) | (with_reducible refine aD ?_));simp -implicitDefEqProofs only[h0,h2,h3,h4,dG,gy,cZ,an ao,aa ao hlen,hg,hbox,AQ,zL,hro,h5,ho,hkO,hpk,hpv,iI,go_sem]) | (with_reducible refine aA.mk ?_ ?_) | (with_reducible refine And.intro ?_ ?_) | ((with_reducible refine bz ?_);simp -implicitDefEqProofs only[r273,push_cast,go_sem_proc]) | intro _)
     exact fi
theorem t273 {P:bH} {RO:Int->ByteArray} {nm:ByteArray} {x mc ms mo:Nat} {S:List (Int×Int)} (hP:PW P RO) (hc:total P<=1000000) (hw:iE P<=1000000) (ew:P.procs.length<=1000000):∀(f k:Nat),k<=f->I273 P RO nm x mc ms mo S k
 | 0,k,hk=>fun l n role w H _ _ _ _ _ _ hmu=>by omega
 | f+1,k,hk=>by
  by_cases h:k<=f
  ·exact t273 hP hc hw ew f k h
  ·have:k=f+1:=by omega
   subst this;exact t273s hP hc hw ew (t273 hP hc hw ew f)
end Go.Proofs.YtdgoeblpcnjlbaaGreatDoor.Av

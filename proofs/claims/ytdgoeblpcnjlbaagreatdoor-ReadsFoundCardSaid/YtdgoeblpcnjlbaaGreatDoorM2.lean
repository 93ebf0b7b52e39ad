/- ReadsFound. Text 2 of 17. -/
import Derived.Laws.Append
import Derived.Laws.StructEq
import Derived.MapKept
import Derived.Laws.MakeOwn
import Derived.Test.YtdgoeblpcnjlbaaGreatDoorM1
set_option linter.all false
set_option maxRecDepth 100000
set_option maxHeartbeats 64000000
namespace Go.Proofs.YtdgoeblpcnjlbaaGreatDoor.Av
open Go.RowKit List
section
variable {P:Program} {f:Fr} {B:List Pl} {I:IM} {w:World} {H:List ak} {K:V->List ak->Prop} {a:Act} {env:Nat->V} {o:Oper}
theorem eE {sz:Nat} {g:Nat->Option Value}:∀{es:List V} {l:List Value} {o:Nat},(∀e∈es,(aw e).length=sz)->aV B I (es.flatMap aw) l->
 (∀(j:Nat) v,l[j]? =some v->g (o+j)=some v)->bK B I es g sz o
 | [],_,_,_,_,_=>by simp[bK]
 | e::es,l,o,hl,hr,hg=>by
  rw[fe];have h0:=hl e (by simp);rw[List.flatMap_cons]at hr;have h1:=hr.take (aw e).length;have h2:=hr.drop (aw e).length;rw[List.take_left]at h1;rw[List.drop_left]at h2;refine⟨h0,lT h1 (fun j v hj=> ?_),eE (fun x hx=>hl x (by simp[hx])) h2 (fun j v hj=> ?_)⟩
  ·rw[List.getElem?_take]at hj;split at hj
   ·exact hg j v hj
   ·cases hj
  ·rw[List.getElem?_drop]at hj;have:=hg _ v hj;rwa[h0,show o+(sz+j)=o+sz+j by omega]at this
theorem jg {sz:Nat} {g:Nat->Option Value}:∀{es:List V} {o:Nat},bK B I es g sz o->∃l:List Value,aV B I (es.flatMap aw) l/\l.length=es.length*sz/\∀(j:Nat) v,l[j]? =some v->g (o+j)=some v
 | [],o,_=>⟨[],by simp[aV],by simp,by simp⟩
 | e::es,o,h=>by
  rw[fe]at h;obtain⟨h0,h1,h2⟩:=h;obtain⟨l,h3,h4⟩:=repL_of_cellsG h1;obtain⟨m,h5,h6,h7⟩:=jg h2;have hl:=h3.length;refine⟨l++m,by rw[List.flatMap_cons];exact h3.append h5,by rw[List.length_append,List.length_cons,Nat.add_mul];omega,fun j v hj=> ?_⟩;by_cases ct:j<l.length
  ·rw[List.getElem?_append_left ct]at hj;exact h4 j v hj
  ·rw[List.getElem?_append_right (by omega)]at hj;have:=h7 _ v hj;rwa[show o+sz+(j - l.length)=o+j by omega]at this
theorem s9:∀(l:List Value),aV B I (List.replicate l.length V.any) l
 | []=>by simp[aV]
 | v::l=>by simp only[List.length_cons,List.replicate_succ,aV];exact⟨v,l,rfl,by simp[aU],s9 l⟩
theorem E3 {esz:Nat} (he:cy B I env a.tmps):∀(parts:List (Nat×Operand)) (xs:List SX) (j:Nat) (zc:Array Value) (pre:List V),gH a.tmps.size j parts xs=true->
 ((xs.map (dp env)).all (fun v=> !v.isAny && (aw v).length==esz)=true)->pre.length=j*esz->aV B I (pre++List.replicate (xs.length*esz) V.any) zc.toList->
 ∃cells,Instr.fill (fun i=>some (i*esz,esz)) zc (parts.map fun p=>(p.1,a.eval p.2))=some cells/\aV B I (pre++(xs.map (dp env)).flatMap aw) cells.toList
 | [],[],j,zc,pre,_,_,_,hr=>⟨zc,by simp[Instr.fill],by simpa using hr⟩
 | (i,x)::r,y::s,j,zc,pre,hc,ey,hp,hr=>by
   simp only[gH,Bool.and_eq_true,beq_iff_eq]at hc;obtain⟨⟨rfl,hx⟩,hc⟩:=hc;simp only[List.map_cons,List.all_cons,Bool.and_eq_true,Bool.not_eq_true',beq_iff_eq]at ey;obtain⟨⟨h1,h2⟩,ey⟩:=ey;have hv:=gI (bh hx he) h1;have hl:=hr.length;have Rh:=hv.length;simp only[List.length_append,List.length_replicate,List.length_cons,Array.length_toList]at hl Rh;rw[Nat.add_mul]at hl;simp only[List.map_cons,Instr.fill];rw[if_neg (by simp;omega)];have ba:=yq (off:=i*esz) hr hv (by simp[Nat.add_mul];omega);have MM:iZ (pre++List.replicate ((y::s).length*esz) V.any) (i*esz) (aw (dp env y))=(pre++aw (dp env y))++List.replicate (s.length*esz) V.any:=by
    unfold iZ
    rw[<-hp,List.take_left,List.append_assoc,List.append_assoc];congr 2
    rw[List.drop_append,List.drop_eq_nil_of_le (by omega),List.nil_append,List.drop_replicate];congr 1
    simp[Nat.add_mul];omega
   rw[MM]at ba;obtain⟨cells,h3,h4⟩:=E3 he r s (i+1) _ _ hc (by simpa using ey) (by simp[Nat.add_mul];omega) ba;exact⟨cells,h3,by simpa using h4⟩
 | [],_::_,_,_,_,h,_,_,_=>by simp[gH]at h
 | _::_,[],_,_,_,h,_,_,_=>by simp[gH]at h
theorem E4 {t:TypeId} {len:Nat} {parts:Array (Nat×Operand)} {esz:Nat} {xs:List SX} (ho:o.op=.buildSlice t len parts) (hc:bg P a.tmps.size (.buildSlice t len parts) o.type (.jW esz xs)=true) (he:cy B I env a.tmps) (hs:cD f B I w H)
 (hk:bd P (.jW esz xs) env H K):Out f B I K ((execOp a.eval o).run P w):=by
 simp only[bg]at hc;split at hc
 ·rename_i el kD;simp only[Bool.and_eq_true,beq_iff_eq,decide_eq_true_eq]at hc;obtain⟨⟨⟨⟨⟨⟨eW,hlen⟩,rX⟩,gp⟩,jA⟩,hz⟩,E5⟩:=hc;have ht:=nV kD;have C6:=lU (P:=P) (w:=w) eW;obtain⟨z,hz⟩:=Option.isSome_iff_exists.1 hz;have IU:=kg (P:=P) (w:=w) hz;simp only[bd]at hk;obtain⟨ey,hk⟩:=hk;have Ri:((Array.range (len*esz)).map (z.cells[· % z.cells.size]!)).toList.length=xs.length*esz:=by simp[hlen]
  obtain⟨cells,hf,hr⟩:=E3 (B:=B) (I:=I) (esz:=esz) he parts.toList xs 0 ((Array.range (len*esz)).map (z.cells[· % z.cells.size]!)) [] jA ey (by simp)
   (by rw[List.nil_append,<-Ri];exact s9 _)
  rw[List.nil_append]at hr;have dr:¬len*esz=0:=by have:=Nat.mul_pos E5 gp;omega
  have cV:(execOp a.eval o).run P w=.ok (.value (.slice (some ⟨w.heap.size,0,none⟩) len len)) (w.alloc (.cells cells el)):=by
   simp only[execOp,ho,pd,Instr.buildSlice,Sem.run_bind,run_underlying ht,Result.andThen_ok,C6];rw[if_neg (by omega)];simp only[Sem.run_bind,Sem.run_pure,Result.andThen_ok,if_neg dr,IU];simp only[Array.toList_map];rw[hf];simp[newRow]
  have eT:cells.size=xs.length*esz:=by
   have h1:=hr.length;have h2:((xs.map (dp env)).flatMap aw).length=xs.length*esz:=by
    have key:∀l:List V,(l.all (fun v=> !v.isAny && (aw v).length==esz)=true)->(l.flatMap aw).length=l.length*esz:=by
     intro l;induction l with
     | nil=>simp
     | cons x l ih=>
      intro h;simp only[List.all_cons,Bool.and_eq_true,beq_iff_eq]at h;rw[List.flatMap_cons,List.length_append,ih h.2,h.1.2,List.length_cons,Nat.add_mul];omega
    rw[key _ ey];simp
   simp at h1;simp at h2;omega
  have ly:∀e∈xs.map (dp env),(aw e).length=esz:=by
   intro e hm;have:=List.all_eq_true.1 ey e hm;simp at this;exact this.2
  refine⟨_,_,_,_,_,_,.inl cV,hk,hs.alloc cells el (xs.map (dp env)) esz (by simp[eT]) (eE ly hr (by simp)),eA.append _ _,dY.refl _,?_⟩;simp only[aU];refine⟨_,_,len,by rw[<-hs.len,bA,if_pos rfl],by rw[hlen],fun _=>by simp,by omega,?_,?_⟩
  ·have:len<=len*esz:=Nat.le_mul_of_pos_right _ gp;simp[maxLen];omega
  ·simp[eT,hlen]
 ·cases hc
theorem E6 {t:TypeId} {len:Nat} {parts:Array (Nat×Operand)} {esz:Nat} {xs:List SX} (ho:o.op=.buildSlice t len parts) (hc:bg P a.tmps.size (.buildSlice t len parts) o.type (.aJ esz xs)=true) (he:cy B I env a.tmps) (hs:cD f B I w H)
 (hk:bd P (.aJ esz xs) env H K):Out f B I K ((execOp a.eval o).run P w):=by
 simp only[bg]at hc;split at hc
 ·rename_i el kD;simp only[Bool.and_eq_true,beq_iff_eq,decide_eq_true_eq]at hc;obtain⟨⟨⟨⟨⟨⟨eW,hlen⟩,rX⟩,gp⟩,jA⟩,hz⟩,E5⟩:=hc;have ht:=nV kD;have C6:=lU (P:=P) (w:=w) eW;obtain⟨z,hz⟩:=Option.isSome_iff_exists.1 hz;have IU:=kg (P:=P) (w:=w) hz;simp only[bd]at hk;obtain⟨ey,hk⟩:=hk;have Ri:((Array.range (len*esz)).map (z.cells[· % z.cells.size]!)).toList.length=xs.length*esz:=by simp[hlen]
  obtain⟨cells,hf,hr⟩:=E3 (B:=B) (I:=I) (esz:=esz) he parts.toList xs 0 ((Array.range (len*esz)).map (z.cells[· % z.cells.size]!)) [] jA ey (by simp)
   (by rw[List.nil_append,<-Ri];exact s9 _)
  rw[List.nil_append]at hr;have dr:¬len*esz=0:=by have:=Nat.mul_pos E5 gp;omega
  have cV:(execOp a.eval o).run P w=.ok (.value (.slice (some ⟨w.heap.size,0,none⟩) len len)) (w.alloc (.cells cells el)):=by
   simp only[execOp,ho,pd,Instr.buildSlice,Sem.run_bind,run_underlying ht,Result.andThen_ok,C6];rw[if_neg (by omega)];simp only[Sem.run_bind,Sem.run_pure,Result.andThen_ok,if_neg dr,IU];simp only[Array.toList_map];rw[hf];simp[newRow]
  have eT:cells.size=xs.length*esz:=by
   have h1:=hr.length;have h2:((xs.map (dp env)).flatMap aw).length=xs.length*esz:=by
    have key:∀l:List V,(l.all (fun v=> !v.isAny && (aw v).length==esz)=true)->(l.flatMap aw).length=l.length*esz:=by
     intro l;induction l with
     | nil=>simp
     | cons x l ih=>
      intro h;simp only[List.all_cons,Bool.and_eq_true,beq_iff_eq]at h;rw[List.flatMap_cons,List.length_append,ih h.2,h.1.2,List.length_cons,Nat.add_mul];omega
    rw[key _ ey];simp
   simp at h1;simp at h2;omega
  have ly:∀e∈xs.map (dp env),(aw e).length=esz:=by
   intro e hm;have:=List.all_eq_true.1 ey e hm;simp at this;exact this.2
  have lz:=hs.alloc cells el (xs.map (dp env)) esz (by simp[eT]) (eE ly hr (by simp));have XY:len<=maxLen:=by
   have:len<=len*esz:=Nat.le_mul_of_pos_right _ gp;simp[maxLen];omega
  have hI:dY I (fun b=>if b=w.heap.size then(w.alloc (.cells cells el)).heap[b]? else I b):=by
   intro b o hb;have:b≠w.heap.size:=by have:=hs.Mu (b:=b) (by rw[hb];simp);omega
   simp only[if_neg this];exact hb
  refine⟨_,_,_,H,B,(fun b=>if b=w.heap.size then(w.alloc (.cells cells el)).heap[b]? else I b),.inl cV,hk,?_,eA.refl _,hI,?_⟩
  ·constructor
   ·exact hs.len
   ·intro b o hb;try simp only at hb
    split at hb
    ·exact hb
    ·exact(hs.nQ (.cells cells el)).lH b o hb
   ·exact hs.wy.trans hI
   ·intro b h1 h2;try simp only at h2
    split at h2
    ·rename_i e;subst e;exact .inl hs.size
    ·exact hs.dZ b h1 h2
   ·exact(hs.nQ (.cells cells el)).os
   ·exact(hs.nQ (.cells cells el)).tape
   ·exact(hs.nQ (.cells cells el)).output
   ·exact(hs.nQ (.cells cells el)).size
   ·exact(hs.nQ (.cells cells el)).keep
   ·intro i p b h1 h2;exact((hs.nQ (.cells cells el)).ok i p b h1 h2).mono (eA.refl _) hI (fun _=>rfl)
   ·exact hs.sep
   ·intro i p b h1 h2 hl;obtain⟨h3,h4,h5⟩:=hs.own i p b h1 h2 hl;refine⟨?_,h4,by have:=(hs.nQ (.cells cells el)).own i p b h1 h2 hl;exact this.2.2⟩;try simp only
    rw[if_neg (by omega)];exact h3
  ·simp only[aU];refine⟨_,len,by rw[List.length_map,hlen],by rw[List.length_map,hlen];exact Nat.le_refl _,XY,.inr ⟨w.heap.size,0,esz,rfl,?_⟩⟩;have Qm:=eE (B:=B) (I:=I) (g:=fun o=>cells[o]?) (o:=0) ly hr (by simp);have he3:=bK.mono (eA.refl B) hI Qm;refine nA (fun o' v hv=> ?_) he3;unfold jD
   simp only[if_true];have:(w.alloc (.cells cells el)).heap[w.heap.size]? =some (.cells cells el (0,0)):=by show(w.heap.push _)[w.heap.size]? =_;simp
   rw[this];exact hv
 ·cases hc
theorem IV {t:TypeId} {len:Nat} {parts:Array (Nat×Operand)} (ho:o.op=.buildSlice t len parts) (hc:bg P a.tmps.size (.buildSlice t len parts) o.type .o6=true) (hs:cD f B I w H)
 (hk:bd P .o6 env H K):Out f B I K ((execOp a.eval o).run P w):=by
 simp only[bg,Bool.and_eq_true,beq_iff_eq]at hc;obtain⟨⟨h1,rfl⟩,h3⟩:=hc;split at h1
 ·rename_i el kD;obtain⟨sz,eW⟩:=Option.isSome_iff_exists.1 h1;have ht:=nV kD;have C6:=lU (P:=P) (w:=w) eW;have hp:parts.toList=[]:=by simpa using h3
  have cV:(execOp a.eval o).run P w=.ok (.value (.slice (some ⟨w.heap.size,0,none⟩) 0 0)) (w.alloc (.cells #[] el)):=by
   simp only[execOp,ho,pd,Instr.buildSlice,Sem.run_bind,run_underlying ht,Result.andThen_ok,C6];rw[if_neg (by omega)];have h0:Array.map (fun x=>(default:Value)) (Array.range 0)= #[]:=by simp
   simp[hp,Instr.fill,newRow,h0]
  simp only[bd]at hk;refine⟨_,_,_,_,_,_,.inl cV,hk,hs.nQ (.cells #[] el),eA.refl _,dY.refl _,?_⟩;simp only[aU];exact⟨_,rfl⟩
 ·cases h1
theorem vy (hs:cD f B I w H) {Y:V} {yv:Value} {src:List V} {esz:Nat} (hr:aU B I Y yv) (gn:EX H Y=some src) (gp:0<esz) (ly:∀e∈src,(aw e).length=esz):
 ∃ad cap,yv=.slice ad src.length cap/\(src=[]\/∃b o' news,ad=some ⟨b,o',none⟩/\aV B I (src.flatMap aw) news/\news.length=src.length*esz/\(∀(j:Nat) v,news[j]? =some v->w.cell? ⟨b,o'+j,none⟩=some v)/\
  (∀p id,B[id]? =some p->(∃es,H[id]? =some (.row es))->(∀i o l,Y=.ms i o l->i≠id)->b≠p.dI)):=by
 unfold EX at gn
 split at gn
 ·rename_i es;cases gn;simp only[aU]at hr;obtain⟨ad,cap,hv,hl,iQ,hh⟩:=hr;refine⟨ad,cap,hv,?_⟩;rcases hh with h | ⟨b,o',sz,rfl,kD⟩
  ·exact .inl h
  ·by_cases he:src=[]
   ·exact .inl he
   ·right;have eW:sz=esz:=by
     cases src with
     | nil=>exact absurd rfl he
     | cons x xs=>
      rw[fe]at kD;have:=ly x (by simp);omega
    subst eW;obtain⟨news,h1,h2,h3⟩:=jg kD;refine⟨b,o',news,rfl,h1,h2,fun j v hj=> ?_,?_⟩
    ·have:=h3 j v hj;unfold jD at this
     cases hI:I b with
     | none=>rw[hI]at this;cases this
     | some ob=>
      rw[hI]at this;cases ob with
      | cells cc tt fr=>rw[cell_of_heap (hs.lH b _ hI)];exact this
      | _=>cases this
    ·intro p id hp hH _ hb;obtain⟨es,hH⟩:=hH;have hlen:0<news.length:=by
      rw[h2];exact Nat.mul_pos (List.length_pos_iff.2 he) gp
     have:=h3 0 _ (List.getElem?_eq_getElem hlen);have hn:=(hs.own id p _ hp hH rfl).1;unfold jD at this
     rw[hb,hn]at this;cases this
 ·cases gn;simp only[aU]at hr;exact⟨none,0,hr,.inl rfl⟩
 ·cases gn;simp only[aU]at hr;obtain⟨ad,hr⟩:=hr;exact⟨ad,0,hr,.inl rfl⟩
 ·rename_i id off len;simp only[aU]at hr;obtain⟨p,ad,cap,hp,hv,s4,hl,iQ,nD⟩:=hr;split at gn
  ·rename_i es hH;split at gn
   ·rename_i IL;cases gn;have hlen:((es.drop off).take len).length=len:=by rw[List.length_take,List.length_drop];omega
    refine⟨ad,cap,by rw[hlen];exact hv,?_⟩;by_cases he:(es.drop off).take len=[]
    ·exact .inl he
    ·right;have MN:0<len:=by rw[<-hlen];exact List.length_pos_iff.2 he
     have had:=s4 (by omega);subst had;obtain⟨carr,t,h1,h2,h3,h4⟩:=hs.ok id p _ hp hH;have Ez:p.esz=esz:=by
      rw[ch]at h4;obtain⟨h5,_⟩:=h4 off (es.getD off .any) (by simp;rw[List.getElem?_eq_getElem (by omega)];simp);have:=ly (es.getD off .any) (by
       have:((es.drop off).take len)[0]? =some (es.getD off .any):=by
        rw[List.getElem?_take,if_pos MN,List.getElem?_drop];simp;rw[List.getElem?_eq_getElem (by omega)];simp
       exact List.mem_of_getElem? this)
      omega
     have pg:bK B I ((es.drop off).take len) (fun o=>carr[o]?) p.esz (p.base+off*p.esz):=by
      rw[ch]at h4⊢;intro i x hi;rw[List.getElem?_take]at hi;split at hi
      ·rw[List.getElem?_drop]at hi;obtain⟨h5,h6⟩:=h4 _ x hi;refine⟨h5,fun j c hj=> ?_⟩;obtain⟨v,h7,h8⟩:=h6 j c hj;exact⟨v,by rw[<-h7];congr 1;rw[Nat.add_mul];omega,h8⟩
      ·cases hi
     obtain⟨news,h5,h6,h7⟩:=jg pg;refine⟨p.dI,_,news,rfl,h5,by rw[h6,Ez],fun j v hj=>by rw[cell_of_heap h1];exact h7 j v hj,?_⟩;intro q ph hq Rj dr hb;obtain⟨wz,Rj⟩:=Rj;exact dr id off len rfl (hs.sep id ph p q _ _ hp hq hH Rj rfl rfl hb)
   ·cases gn
  ·cases gn
 ·cases gn
end
section
variable {P:Program} {f:Fr} {B:List Pl} {I:IM} {w:World} {H:List ak} {K:V->List ak->Prop} {a:Act} {env:Nat->V} {o:Oper}
theorem ri {esz:Nat}:∀{l:List V},(∀e∈l,(aw e).length=esz)->(l.flatMap aw).length=l.length*esz
 | [],_=>by simp
 | x::l,h=>by
  rw[List.flatMap_cons,List.length_append,ri (fun e he=>h e (by simp[he])),h x (by simp),List.length_cons,Nat.add_mul];omega
theorem cD.grown {es:List V} {carr:Array Value} {l:List Value} {esz:Nat} (hs:cD f B I w H) (t:TypeId) (ly:∀e∈es,(aw e).length=esz) (hr:aV B I (es.flatMap aw) l)
 (hc:∀(j:Nat) v,l[j]? =some v->carr[j]? =some v) (eW:es.length*esz<=carr.size):
 cD f (B++ [⟨w.heap.size,0,carr.size,esz⟩]) I (w.drew.alloc (.cells carr t)) (H++ [.row es]):=by
 have:=hs.drew.alloc carr t es esz eW (eE ly hr (by simpa using hc));simpa using this
theorem cD.shift {id off:Nat} {p:Pl} {es:List V} (hs:cD f B I w H) (hp:B[id]? =some p) (hH:H[id]? =some (.row es)) (ho:off<=es.length):
 cD f (B++ [⟨p.dI,p.base+off*p.esz,p.size,p.esz⟩]) I w (H.set id .dead++ [.row (es.drop off)]):=by
 refine(hs.kill id).push _ _ ?_ ?_ ?_
 ·obtain⟨carr,t,h1,h2,h3,h4⟩:=hs.ok id p _ hp hH;refine⟨carr,t,h1,h2,?_,?_⟩
  ·have:off*p.esz+(es.drop off).length*p.esz=es.length*p.esz:=by rw[<-Nat.add_mul,List.length_drop];congr 1;omega
   simp only;omega
  ·rw[ch]at h4⊢;intro i x hi;rw[List.getElem?_drop]at hi;obtain⟨h5,h6⟩:=h4 _ x hi;refine⟨h5,fun j c hj=> ?_⟩;obtain⟨v,h7,h8⟩:=h6 j c hj;exact⟨v,by rw[<-h7];congr 1;rw[Nat.add_mul];simp only;omega,h8⟩
 ·intro i q c h1 h2 hl;rw[dh]at h2;split at h2
  ·split at h2<;>cases h2;cases hl
  ·rename_i dr;intro hb;exact dr (hs.sep id i p q _ _ hp h1 hH h2 rfl hl hb.symm)
 ·exact hs.own id p _ hp hH rfl
theorem u6 (t ty e:TypeId) (i:TypeInfo) (ht:P.underlying t=some (.slice e)) (hi:P.info? e=some i)
 (g o Ab MO:Nat) (cur:Array Value) (tt:TypeId) (hg:w.heap[g]? =some (.cells cur tt (0,0)))
 (x:Value) (m:Nat) (hm:(Builtin.lenOf x).run P w=.ok m w) (news:List Value) (XZ:(Builtin.firstCells i.size m x).run P w=.ok news.toArray w) (h1:∀u∈news,u.oneCell'=true)
 (nD:Ab+m<=MO) (yg:o+Ab*i.size+news.length<=cur.size):
 (Builtin.append_ #[t,t] ty #[.slice (some ⟨g,o,none⟩) Ab MO,x]).run P w=
   .ok (.slice (some ⟨g,o,none⟩) (Ab+m) MO) (w.setRow g (cur.toList.take (o+Ab*i.size)++news++cur.toList.drop (o+Ab*i.size+news.length)).toArray):=by
 have xS:=run_storeCells_at (P:=P) g (o+Ab*i.size) tt news 0 cur w hg (by omega) h1;simp only[Nat.add_zero]at xS;simp[Builtin.append_,run_underlying ht,sizeOf,typeInfo,hi,hm,nD,XZ,dQ,xS,-List.append_assoc]
theorem E7 {cs:List V} {l:List Value} (h:aV B I cs l) (h1:cs.all V.one=true):∀u∈l,u.oneCell'=true:=by
 intro u hu;obtain⟨j,hj⟩:=List.getElem?_of_mem hu;have oN:=(List.getElem?_eq_some_iff.1 hj).1;have:=h.length;have zI:cs[j]? =some (cs[j]'(by omega)):=List.getElem?_eq_getElem _;obtain⟨v',h2,h3⟩:=h.get zI;rw[hj]at h2;cases h2;exact Bl h3 (List.all_eq_true.1 h1 _ (List.getElem_mem _))
theorem pj {t:TypeId} {z:Value} (h:zeroOf P t=some z):∃i,P.info? t=some i/\i.zero=some z:=by
 unfold zeroOf at h
 cases hi:P.info? t with
 | none=>rw[hi]at h;cases h
 | some i=>rw[hi]at h;exact⟨i,rfl,h⟩
theorem E8 {c:Call} {esz bytes:Nat} {x' y':SX} (ho:o.op=.call c) (hc:bg P a.tmps.size (.call c) o.type (.append esz bytes x' y')=true) (he:cy B I env a.tmps) (hs:cD f B I w H)
 (hk:bd P (.append esz bytes x' y') env H K):Out f B I K ((execOp a.eval o).run P w):=by
 simp only[bg]at hc;split at hc
 ·rename_i x y t u rW eD IN;split at hc
  ·rename_i el kD;simp only[Bool.and_eq_true,beq_iff_eq,decide_eq_true_eq]at hc;obtain⟨⟨⟨⟨⟨⟨⟨rfl,eW⟩,gp⟩,hby⟩,E9⟩,hz⟩,hx⟩,hy⟩:=hc;have ht:=nV kD;obtain⟨z,hz,MP⟩:∃z,zeroOf P el=some z/\z.cells.size=esz:=by
    split at hz
    ·rename_i z hq;exact⟨z,hq,by simpa using hz⟩
    ·cases hz
   obtain⟨inf,hi,MQ⟩:=pj hz;have wD:inf.size=esz:=by unfold fU at eW;rw[hi]at eW;simpa using eW
   have Fa:inf.bytes=bytes:=by rw[hi]at hby;simpa using hby
   have ha:c.args= #[x,y]:=by apply Array.toList_inj.1;simpa using eD
   have hT:c.argTypes= #[t,t]:=by apply Array.toList_inj.1;simpa using IN
   have Bo:=bh hx he;have hry:=bh hy he;have cV:∀r w',(Builtin.append_ #[t,t] o.type #[a.eval x,a.eval y]).run P w=.ok r w'->(execOp a.eval o).run P w=.ok (.value r) w':=by
    intro r w' h;simp[execOp,ho,resolve,rW,ha,hT,invoke,builtin,h]
   simp only[bd]at hk;split at hk
   ·exact hk.elim
   ·rename_i src gn;obtain⟨ey,hk⟩:=hk;unfold nh at hk
    have ly:∀e∈src,(aw e).length=esz:=by
     intro e hm;have:=List.all_eq_true.1 ey e hm;simp at this;exact this.1.1
    have E1:(src.flatMap aw).all V.one=true:=by
     rw[List.all_eq_true];intro v hv;obtain⟨e,hm,hv⟩:=List.mem_flatMap.1 hv;have:=List.all_eq_true.1 ey e hm;simp only[Bool.and_eq_true]at this;exact List.all_eq_true.1 this.2 v hv
    obtain⟨yad,C8,Qn,Qo⟩:=vy hs hry gn gp ly;have wF:(Builtin.lenOf (a.eval y)).run P w=.ok src.length w:=by rw[Qn];simp[Builtin.lenOf]
    have MR:=ri ly;have XZ:∃news:List Value,aV B I (src.flatMap aw) news/\(Builtin.firstCells inf.size src.length (a.eval y)).run P w=.ok news.toArray w:=by
     rcases Qo with h0 | ⟨b,o',news,hb,h1,h2,h3,_⟩
     ·subst h0;refine⟨[],by simp[aV],?_⟩;rw[Qn];cases yad with
      | none=>simp[Builtin.firstCells]
      | some q=>simp[Builtin.firstCells,loadCells,loadCellsFrom]
     ·refine⟨news,h1,?_⟩;rw[Qn,hb];exact run_firstCells_some w _ _ _ _ _ news (by rw[h2,wD]) (fun j v hj=>by rw[dQ];exact h3 j v hj)
    obtain⟨news,MT,Bp⟩:=XZ;have j6:news.length=src.length*esz:=by rw[<-MT.length,MR]
    split at hk
    ·rename_i e;rw[e]at Bo;simp only[aU]at Bo;obtain⟨Rk,Bo⟩:=Bo;by_cases h0:src=[]
     ·refine Out.quiet (v:=.slice Rk 0 0) (cV _ _ ?_) (hk.1 h0) hs (by simp[aU]);have h1:(Builtin.lenOf (a.eval y)).run P w=.ok 0 w:=by simpa[h0]using wF
      have h2:(Builtin.firstCells inf.size 0 (a.eval y)).run P w=.ok news.toArray w:=by simpa[h0]using Bp
      rw[Bo];have lV:news=[]:=List.eq_nil_of_length_eq_zero (by rw[j6,h0];simp);cases Rk<;>simp[Builtin.append_,run_underlying ht,sizeOf,typeInfo,hi,h1,h2,lV,storeCells]
     ·obtain⟨rX,hk⟩:=hk.2 h0;rcases Qo with h1 | ⟨b,o',iO,hb,h1,h2,h3,_⟩
      ·exact absurd h1 h0
      ·have u7:0<src.length:=List.length_pos_iff.2 h0;have pn:src.length<=src.length*bytes:=Nat.le_mul_of_pos_right _ E9;have Rl:=run_append_nil (P:=P) w t o.type el inf z ht hi MQ ⟨b,o',none⟩ src.length C8 iO (by rw[h2,wD]) (fun j v hj=>by rw[dQ];exact h3 j v hj) u7 (by omega) (by rw[Fa];omega);have pt:(Builtin.append_ #[t,t] o.type #[.slice Rk 0 0,.slice (some ⟨b,o',none⟩) src.length C8]).run P w=
        .ok (.slice (some ⟨w.heap.size,0,none⟩) src.length (grownCap w src.length 0 el)) (w.drew.alloc (.cells (iO.toArray++Builtin.zeroCells z.cells (grownCap w src.length 0 el - src.length)) el)):=by
        cases Rk with
        | none=>exact Rl
        | some bb=>
         have:=run_append_grow (P:=P) w t o.type el inf z ht hi MQ bb 0 0 [] (by simp) (by simp) ⟨b,o',none⟩ src.length C8 iO (by rw[h2,wD]) (fun j v hj=>by rw[dQ];exact h3 j v hj) (by omega) (by omega)
          (by rw[Fa,Nat.zero_add,nextslicecap_zero u7];omega)
         simpa using this
       have iQ:=grownCap_ge w src.length 0 el;have Fb:=grownCap_le_maxLen w src.length 0 el (by simp[maxLen];omega);generalize grownCap w src.length 0 el=cap at*;have lI:(iO.toArray++Builtin.zeroCells z.cells (cap - src.length)).size=cap*esz:=by
        rw[Array.size_append,size_zeroCells,MP,List.size_toArray,h2,<-Nat.add_mul];congr 1;omega
       refine⟨_,_,_,_,_,_,.inl (cV _ _ (by rw[Bo,Qn,hb];exact pt)),hk,hs.grown (es:=src) (l:=iO) (esz:=esz) el ly h1 (fun j v hj=> ?_) ?_,eA.append _ _,dY.refl _,?_⟩
       ·have oN:=(List.getElem?_eq_some_iff.1 hj).1;rw[Array.getElem?_append_left (by simpa using oN)];simpa using hj
       ·rw[lI];exact Nat.mul_le_mul_right _ iQ
       ·simp only[aU];refine⟨_,_,cap,by rw[<-hs.len,bA,if_pos rfl],rfl,fun _=>by simp,iQ,Fb,?_⟩;simp only[lI];simp
    ·rename_i e;rw[e]at Bo;simp only[aU]at Bo;by_cases h0:src=[]
     ·refine Out.quiet (v:=.slice none 0 0) (cV _ _ ?_) (hk.1 h0) hs (by simp[aU]);have h1:(Builtin.lenOf (a.eval y)).run P w=.ok 0 w:=by simpa[h0]using wF
      have h2:(Builtin.firstCells inf.size 0 (a.eval y)).run P w=.ok news.toArray w:=by simpa[h0]using Bp
      rw[Bo];simp[Builtin.append_,run_underlying ht,sizeOf,typeInfo,hi,h1,h2]
     ·obtain⟨rX,hk⟩:=hk.2 h0;rcases Qo with h1 | ⟨b,o',iO,hb,h1,h2,h3,_⟩
      ·exact absurd h1 h0
      ·have u7:0<src.length:=List.length_pos_iff.2 h0;have pn:src.length<=src.length*bytes:=Nat.le_mul_of_pos_right _ E9;have pt:=run_append_nil (P:=P) w t o.type el inf z ht hi MQ ⟨b,o',none⟩ src.length C8 iO (by rw[h2,wD]) (fun j v hj=>by rw[dQ];exact h3 j v hj) u7 (by omega) (by rw[Fa];omega);have iQ:=grownCap_ge w src.length 0 el;have Fb:=grownCap_le_maxLen w src.length 0 el (by simp[maxLen];omega);generalize grownCap w src.length 0 el=cap at*;have lI:(iO.toArray++Builtin.zeroCells z.cells (cap - src.length)).size=cap*esz:=by
        rw[Array.size_append,size_zeroCells,MP,List.size_toArray,h2,<-Nat.add_mul];congr 1;omega
       refine⟨_,_,_,_,_,_,.inl (cV _ _ (by rw[Bo,Qn,hb];exact pt)),hk,hs.grown (es:=src) (l:=iO) (esz:=esz) el ly h1 (fun j v hj=> ?_) ?_,eA.append _ _,dY.refl _,?_⟩
       ·have oN:=(List.getElem?_eq_some_iff.1 hj).1;rw[Array.getElem?_append_left (by simpa using oN)];simpa using hj
       ·rw[lI];exact Nat.mul_le_mul_right _ iQ
       ·simp only[aU];refine⟨_,_,cap,by rw[<-hs.len,bA,if_pos rfl],rfl,fun _=>by simp,iQ,Fb,?_⟩;simp only[lI];simp
    ·rename_i id off len e;have hX:=Bo;rw[e]at Bo;simp only[aU]at Bo;obtain⟨p,ad,cap,hp,hv,s4,Ib,iQ,nD⟩:=Bo;split at hk
     ·rename_i es hH;obtain⟨⟨IL,X0,ym,dr,rX⟩,hk⟩:=hk;obtain⟨carr,tt,hh,hcsz,hcf,IW⟩:=hs.ok id p _ hp hH;have Ez:p.esz=esz:=by
       cases es with
       | nil=>exact absurd rfl X0
       | cons q qs=>
        rw[fe]at IW;have:=ym q rfl;omega
      have Fc:∀e∈es,(aw e).length=esz:=by
       intro q hq;obtain⟨j,hj⟩:=List.getElem?_of_mem hq;rw[ch]at IW;have:=(IW j q hj).1;omega
      have pn:len+src.length<=(len+src.length)*bytes:=Nat.le_mul_of_pos_right _ E9;by_cases yg:len+src.length<=cap
      ·by_cases zJ:cap=0
       ·have j5:len=0:=by omega
        have z8:src=[]:=List.eq_nil_of_length_eq_zero (by omega);have h1:(Builtin.lenOf (a.eval y)).run P w=.ok 0 w:=by simpa[z8]using wF
        have h2:(Builtin.firstCells inf.size 0 (a.eval y)).run P w=.ok news.toArray w:=by simpa[z8]using Bp
        have lV:news=[]:=List.eq_nil_of_length_eq_zero (by rw[j6,z8];simp);have pt:(Builtin.append_ #[t,t] o.type #[a.eval x,a.eval y]).run P w=.ok (.slice ad 0 0) w:=by
         rw[hv,j5,zJ];cases ad<;>simp[Builtin.append_,run_underlying ht,sizeOf,typeInfo,hi,h1,h2,lV,storeCells]
        have Rm:=hs.shift (off:=off) hp hH (by omega);rw[z8,List.append_nil]at hk;refine⟨_,_,_,_,_,_,.inl (cV _ _ pt),hk,Rm,eA.append _ _,dY.refl _,?_⟩;simp only[aU];refine⟨_,_,0,by have:=hs.len;rw[show H.length=B.length from this.symm,bA,if_pos rfl],by rw[j5];rfl,fun h=>by omega,by rw[j5];simp,by simp,?_⟩;simp only;have:=Nat.mul_le_mul_right p.esz (show off<=off+cap by omega);omega
       ·have had:=s4 (by omega);subst had;have oM:(off+len+src.length)*esz<=(off+cap)*esz:=Nat.mul_le_mul_right _ (by omega);rw[Ez]at nD hcf;have e1:(off+len+src.length)*esz=off*esz+len*esz+src.length*esz:=by rw[Nat.add_mul,Nat.add_mul]
        have e2:es.length*esz=off*esz+len*esz:=by rw[<-IL,Nat.add_mul]
        have pt:=u6 (P:=P) (w:=w) t o.type el inf ht hi p.dI (p.base+off*esz) len cap carr tt hh (a.eval y) src.length wF news Bp (E7 MT E1) yg (by rw[wD];omega);rw[wD]at pt;have yh:p.base+off*esz+len*esz+news.length<=carr.toList.length:=by simp;omega
        have qI:∀q,((carr.toList.take (p.base+off*esz+len*esz)++news++carr.toList.drop (p.base+off*esz+len*esz+news.length)).toArray)[q]? =if q<p.base+off*esz+len*esz then carr[q]? else if q<p.base+off*esz+len*esz+news.length then news[q - (p.base+off*esz+len*esz)]? else carr[q]? :=by
         intro q;rw[List.getElem?_toArray,kL _ _ _ _ yh];simp
        have ni:=hs.rewrite (wz:=es++src) hp hH hh (iY:=(carr.toList.take (p.base+off*esz+len*esz)++news++carr.toList.drop (p.base+off*esz+len*esz+news.length)).toArray)
         (by rw[List.size_toArray,gZ _ _ _ yh];simp) (by rw[Ez,List.length_append,Nat.add_mul];omega) (by
           rw[Ez];rw[Ez]at IW;have g1:bK B I es (fun o=>((carr.toList.take (p.base+off*esz+len*esz)++news++carr.toList.drop (p.base+off*esz+len*esz+news.length)).toArray)[o]?) esz p.base:=by
            rw[ch]at IW⊢;intro i q xP;obtain⟨h5,h6⟩:=IW i q xP;refine⟨h5,fun j c hj=> ?_⟩;have oN:=(List.getElem?_eq_some_iff.1 hj).1;have dF:=(List.getElem?_eq_some_iff.1 xP).1;have:i*esz+esz<=es.length*esz:=by rw[<-Nat.succ_mul];exact Nat.mul_le_mul_right _ dF
            rw[qI,if_pos (by omega)];exact h6 j c hj
           have g2:bK B I src (fun o=>((carr.toList.take (p.base+off*esz+len*esz)++news++carr.toList.drop (p.base+off*esz+len*esz+news.length)).toArray)[o]?) esz (p.base+es.length*esz):=by
            refine eE ly MT (fun j v hj=> ?_);have oN:=(List.getElem?_eq_some_iff.1 hj).1;rw[qI,if_neg (by omega),if_pos (by omega),<-hj];congr 1;omega
           rw[ch]at g1 g2⊢;intro i q xP;by_cases ct:i<es.length
           ·rw[List.getElem?_append_left ct]at xP;exact g1 i q xP
           ·rw[List.getElem?_append_right (by omega)]at xP;obtain⟨h5,h6⟩:=g2 _ q xP;refine⟨h5,fun j c hj=> ?_⟩;obtain⟨v',h7,h8⟩:=h6 j c hj;refine⟨v',?_,h8⟩;rw[<-h7];congr 1;have:i*esz=es.length*esz+(i - es.length)*esz:=by rw[<-Nat.add_mul];congr 1;omega
            omega)
        have Rj:(H.set id (.row (es++src)))[id]? =some (.row (es++src)):=by
         rw[dh,if_pos rfl,if_pos (List.getElem?_eq_some_iff.1 hH).1]
        have K8:=ni.shift (off:=off) hp Rj (by rw[List.length_append];omega);rw[List.set_set,List.drop_append_of_le_length (by omega)]at K8;refine⟨_,_,_,_,_,_,.inl (cV _ _ (by rw[hv,Ez];exact pt)),hk,K8,eA.append _ _,dY.refl _,?_⟩;simp only[aU];refine⟨_,_,cap,by have:=hs.len;rw[show H.length=B.length from this.symm,bA,if_pos rfl],rfl,fun _=>by simp[Ez],yg,iQ,?_⟩;simp only[Ez,Nat.zero_add];rw[Nat.add_mul]at nD;omega
      ·obtain⟨Rk,xcap,Qp,hxc⟩:=vy (src:=es.drop off) hs hX (by rw[e];simp only[EX,hH];rw[if_pos (by omega),List.take_of_length_le (by rw[List.length_drop];omega)]) gp (fun q hq=>Fc q (List.mem_of_mem_drop hq));rw[hv]at Qp;have Qq:(es.drop off).length=len:=by rw[List.length_drop];omega
       rw[Qq]at Qp;cases Qp;have hdes:∀q∈es.drop off,(aw q).length=esz:=fun q hq=>Fc q (List.mem_of_mem_drop hq)
       rcases Qo with h1 | ⟨b,o',iO,hb,h1,h2,h3,_⟩
       ·rw[h1]at yg;simp at yg;omega
       ·have cR:0<src.length:=by omega
        have Rn:∀q∈es.drop off++src,(aw q).length=esz:=by
         intro q hq;rcases List.mem_append.1 hq with hq | hq
         ·exact hdes q hq
         ·exact ly q hq
        obtain⟨olds,va,C9,IX⟩:∃olds:List Value,aV B I ((es.drop off).flatMap aw) olds/\olds.length=len*esz/\∀b,ad=some b->∀(j:Nat) v,olds[j]? =some v->w.cell? (b.add j)=some v:=by
         rcases hxc with h4 | ⟨b',o2,nx,IY,h5,h6,h7,_⟩
         ·rw[h4]at Qq⊢;simp at Qq;subst Qq;exact⟨[],by simp[aV],by simp,by simp⟩
         ·refine⟨nx,h5,by rw[h6,Qq],fun b Qr j v hj=> ?_⟩;rw[IY]at Qr;cases Qr;rw[dQ];exact h7 j v hj
        have wG:=grownCap_ge w (len+src.length) cap el;have Bq:=grownCap_le_maxLen w (len+src.length) cap el (by simp[maxLen];omega);have hdl2:(es.drop off++src).length=len+src.length:=by rw[List.length_append,Qq]
        have Da:aV B I ((es.drop off++src).flatMap aw) (olds++iO):=by rw[List.flatMap_append];exact va.append h1
        have lI:∀gc,len+src.length<=gc->(olds.toArray++iO.toArray++Builtin.zeroCells z.cells (gc - (len+src.length))).size=gc*esz:=by
         intro gc hgc;rw[Array.size_append,Array.size_append,size_zeroCells,MP,List.size_toArray,List.size_toArray,h2,C9,<-Nat.add_mul,<-Nat.add_mul];congr 1;omega
        obtain⟨gc,iY,pt,Ro,hgc2,Rp,X4⟩:∃gc iY,(Builtin.append_ #[t,t] o.type #[a.eval x,a.eval y]).run P w=.ok (.slice (some ⟨w.heap.size,0,none⟩) (len+src.length) gc) (w.drew.alloc (.cells iY el))/\
         len+src.length<=gc/\gc<=maxLen/\iY.size=gc*esz/\(∀(j:Nat) v,(olds++iO)[j]? =some v->iY[j]? =some v):=by
         rw[hv,Qn,hb];cases ad with
         | none=>
          have zJ:cap=0:=by
           by_cases h0:0<cap
           ·have:=s4 h0;cases this
           ·omega
          have j5:len=0:=by omega
          subst zJ j5;have hon:olds=[]:=List.eq_nil_of_length_eq_zero (by rw[C9];simp);subst hon;have pt:=run_append_nil (P:=P) w t o.type el inf z ht hi MQ ⟨b,o',none⟩ src.length C8 iO (by rw[h2,wD]) (fun j v hj=>by rw[dQ];exact h3 j v hj) cR (by omega) (by rw[Fa];simp at rX;omega);refine⟨_,_,by rw[Nat.zero_add];exact pt,by simpa using wG,by simpa using Bq,?_,fun j v hj=> ?_⟩
          ·have:=lI (grownCap w src.length 0 el) (by simpa using wG);simpa using this
          ·have oN:=(List.getElem?_eq_some_iff.1 hj).1;rw[Array.getElem?_append_left (by simpa using oN)];simpa using hj
         | some bb=>
          have pt:=run_append_grow (P:=P) w t o.type el inf z ht hi MQ bb len cap olds (by rw[C9,wD]) (IX bb rfl) ⟨b,o',none⟩ src.length C8 iO (by rw[h2,wD]) (fun j v hj=>by rw[dQ];exact h3 j v hj) (by omega) (by omega)
           (by rw[Fa];exact growslice_fits (by omega) rX)
          refine⟨_,_,pt,wG,Bq,lI _ wG,fun j v hj=> ?_⟩;have oN:=(List.getElem?_eq_some_iff.1 hj).1;rw[Array.getElem?_append_left (by simpa using oN)];simpa using hj
        have ni:=(hs.kill id).grown (es:=es.drop off++src) (l:=olds++iO) (esz:=esz) (carr:=iY) el Rn Da X4 (by rw[Rp,hdl2];exact Nat.mul_le_mul_right _ Ro);refine⟨_,_,_,_,_,_,.inl (cV _ _ pt),hk,ni,eA.append _ _,dY.refl _,?_⟩;simp only[aU];refine⟨_,_,gc,by have:=hs.len;rw[show H.length=B.length from this.symm,bA,if_pos rfl],rfl,fun _=>by simp,Ro,hgc2,?_⟩;simp only[Rp];simp
     ·exact hk.elim
    ·exact hk.elim
  ·cases hc
 ·cases hc
end
section
variable {P:Program} {f:Fr} {B:List Pl} {I:IM} {w:World} {H:List ak} {K:V->List ak->Prop} {a:Act} {env:Nat->V} {o:Oper}
theorem IZ {t:TypeId} (ho:o.op=.makeMap t none) (hc:bg P a.tmps.size (.makeMap t none) o.type .gm=true) (hs:cD f B I w H) (hk:bd P .gm env H K):
 Out f B I K ((execOp a.eval o).run P w):=by
 simp only[bd]at hk;refine⟨.map (some w.heap.size),w.alloc (.map #[] 0),_,_,_,_,.inl ?_,hk,hs.My,eA.append _ _,dY.refl _,?_⟩
 ·simp[execOp,ho,Instr.makeMap,Sem.run_bind,Result.andThen]
 ·simp only[aU];exact⟨⟨w.heap.size,0,0,0⟩,by rw[<-hs.len];simp,rfl⟩
theorem Db {t:TypeId} (ho:o.op=.makeMap t none) (hc:bg P a.tmps.size (.makeMap t none) o.type .du=true) (hs:cD f B I w H) (hk:bd P .du env H K):
 Out f B I K ((execOp a.eval o).run P w):=by
 simp only[bg]at hc;split at hc
 ·rename_i kt e hu;refine⟨.map (some w.heap.size),w.alloc (.map #[] 0),.any,H,B,I,.inl ?_,hk,hs.nQ _,eA.refl _,dY.refl _,trivial⟩;simp only[execOp,ho,Instr.makeMap,Sem.run_bind,run_underlying hu,Result.andThen_ok,Sem.run_pure];rfl
 ·cases hc
theorem Fe {zc:Array Value} {v:Value} (h:zc= #[v]) (n:Nat):madeCells zc n=Array.replicate n v:=by
 subst h;apply Array.ext
 ·simp[size_madeCells]
 ·intro i h1 h2;simp[madeCells,Nat.mod_one]
theorem Rq {t:TypeId} {x y:Operand} {z:V} {x':SX} (ho:o.op=.makeSlice t x y) (hc:bg P a.tmps.size (.makeSlice t x y) o.type (.Eu z x')=true) (he:cy B I env a.tmps) (hs:cD f B I w H)
 (hk:bd P (.Eu z x') env H K):Out f B I K ((execOp a.eval o).run P w):=by
 simp only[bg,Bool.and_eq_true]at hc;obtain⟨⟨hc,h1⟩,h2⟩:=hc;split at hc
 ·rename_i e kD;simp only[Bool.and_eq_true,beq_iff_eq]at hc;obtain⟨⟨⟨eW,hz⟩,Rr⟩,hb⟩:=hc;split at hz
  ·rename_i zv IU;simp only[Bool.and_eq_true,beq_iff_eq]at hz;obtain⟨hz,Ff⟩:=hz;split at hb
   ·rename_i i hi;have hb:i.bytes<=4096:=by simpa using hb
    have hx:=bh h1 he;have hy:=bh h2 he;simp only[bd]at hk;split at hk
    ·rename_i k n hX;rw[hX]at hx hy;simp only[aU]at hx hy;obtain⟨⟨lV,pn⟩,hK⟩:=hk;have ht:=nV kD;obtain⟨i',xP,MQ⟩:=pj IU;rw[hi]at xP;cases xP;have lP:i.size=1:=by unfold fU at eW;rw[hi]at eW;simpa using eW
     have gi:(i.bytes:Int)*n<=281474976710656:=by
      have:(i.bytes:Int)*n<=4096*1000000000:=Int.mul_le_mul (by omega) pn lV (by omega);omega
     have cV:=run_make (P:=P) w t e i zv ht hi MQ k k n n lV (Int.le_refl _) gi (by omega);obtain⟨u,hu⟩:∃u,zv.cells= #[u]:=by
      generalize zv.cells=zc at Ff⊢;rcases zc with⟨l⟩
      cases l with
      | nil=>simp at Ff
      | cons u l=>cases l with
       | nil=>exact⟨u,rfl⟩
       | cons=>simp at Ff
     have MU:aU B I z zv:=kJ hz;have hzc:=gI MU (kK hz);rw[hu]at hzc;rw[lP,Nat.mul_one,Fe hu]at cV;have qK:=hs.alloc (Array.replicate n.toNat u) e (List.replicate n.toNat z) 1 (by simp) (by
      rw[ch];intro i x hx;rw[List.getElem?_replicate]at hx;split at hx
      ·rename_i oO;cases hx;refine⟨Rr,fun j c hj=> ?_⟩;obtain⟨v,h3,h4⟩:=hzc.get hj;have Rt:j=0:=by have:=(List.getElem?_eq_some_iff.1 hj).1;omega
       subst Rt;simp at h3;subst h3;exact⟨u,by simp[oO],h4⟩
      ·cases hx)
     refine⟨.slice (some ⟨w.heap.size,0,none⟩) n.toNat n.toNat,w.alloc (.cells (Array.replicate n.toNat u) e),_,_,_,_,.inl ?_,hK,qK,eA.append _ _,dY.refl _,?_⟩
     ·simp only[execOp,ho,pd,hx,hy,cV,Result.andThen_ok]
     ·show aU _ I (.ms H.length 0 n.toNat) _;rw[aU];refine⟨⟨w.heap.size,0,(Array.replicate n.toNat u).size,1⟩,some ⟨w.heap.size,0,none⟩,n.toNat,by rw[<-hs.len,bA,if_pos rfl],rfl,fun _=>by simp,Nat.le_refl _,?_,by simp⟩;simp[maxLen];omega
    ·exact hk.elim
   ·cases hb
  ·cases hz
 ·cases hc
theorem yu {c:Bool} {k q:V} {kv qv:Value} {b:Bool} (hf:iN c k=true) (hk:aU B I k kv) (hq:aU B I q qv) (he:fF k q=some b):
 (c=false/\∃j x y,kv=.int j x/\qv=.int j y/\b=decide (x=y))\/(c=true/\∃x y,kv=.string x/\qv=.string y/\b=decide (x=y)):=by
 cases c<;>cases k<;>simp only[iN,Bool.false_eq_true]at hf<;>cases q<;>simp only[fF]at he<;>try(cases he;done)
 ·split at he
  ·rename_i e;cases he;simp only[aU]at hk hq;subst e;exact .inl ⟨rfl,_,_,_,hk,hq,rfl⟩
  ·cases he
 ·cases he;simp only[aU]at hk hq;exact .inr ⟨rfl,_,_,hk.1,hq.1,rfl⟩
theorem Ac (x y:ByteArray):(x==y)=decide (x=y):=by
 rw[beq_toListBytes,jX]
theorem Br {t:TypeId} (ht:H8 P t false=true):∃k,P.underlying t=some (.int k):=by
 simp only[H8]at ht;split at ht
 ·exact⟨_,by assumption⟩
 ·cases ht
theorem kt1us {t:TypeId} (ht:H8 P t true=true):P.underlying t=some .string:=by
 simp only[H8]at ht;split at ht
 ·assumption
 ·cases ht
theorem vA {t:TypeId} {c:Bool} {k q:V} {kv qv:Value} {b:Bool} (d:Nat) (ht:H8 P t c=true) (hf:iN c k=true) (hk:aU B I k kv) (hq:aU B I q qv) (he:fF k q=some b):
 (Op.equalIn (d+1) t kv qv).run P w=.ok b w:=by
 rcases yu hf hk hq he with⟨rfl,j,x,y,rfl,rfl,rfl⟩ | ⟨rfl,x,y,rfl,rfl,rfl⟩
 ·obtain⟨κ,hu⟩:=Br ht;simp[Op.equalIn,Sem.run_bind,run_underlying hu,Result.andThen,Sem.run_ite];by_cases h:x=y<;>simp[h]
 ·have hu:=kt1us ht;simp[Op.equalIn,Sem.run_bind,run_underlying hu,Result.andThen,Ac]
theorem rj:∀{fs:List Field} {bs:List Bool} {i:Nat} {cs qs:List V} {l m pre prq:List Value} {b:Bool} (d:Nat),wB P i fs bs=true->o7 bs cs=true->
 aV B I cs l->aV B I qs m->pre.length=i->prq.length=i->sU cs qs=some b->(Op.eqFields (d+1) (pre++l).toArray (prq++m).toArray fs).run P w=.ok b w
 | [],bs,i,cs,qs,l,m,pre,prq,b,d,ht,hf,hl,hm,hp,hq,he=>by
  cases bs with
  | cons=>simp[wB]at ht
  | nil=>
   cases cs with
   | cons=>simp[o7]at hf
   | nil=>cases qs with
    | cons=>simp[sU]at he
    | nil=>simp[sU]at he;subst he;simp[Op.eqFields]
 | f::fs,bs,i,cs,qs,l,m,pre,prq,b,d,ht,hf,hl,hm,hp,hq,he=>by
  cases bs with
  | nil=>simp[wB]at ht
  | cons c bs=>
  cases cs with
  | nil=>simp[o7]at hf
  | cons k cs=>
  cases qs with
  | nil=>simp[sU]at he
  | cons q qs=>
  simp only[wB,Bool.and_eq_true,bne_iff_ne,ne_eq,beq_iff_eq]at ht;obtain⟨⟨⟨⟨⟨h1,h2⟩,h3⟩,h4⟩,h5⟩,h6⟩:=ht;simp only[o7,Bool.and_eq_true]at hf;simp only[aV]at hl hm;obtain⟨kv,l',rfl,hk,hl⟩:=hl;obtain⟨qv,m',rfl,Ru,hm⟩:=hm;simp only[sU]at he;split at he
  ·rename_i x y e1 e2;cases he;have r1:(part f.type (pre++kv::l').toArray f.offset).run P w=.ok kv w:=by
    rw[pf h5 h4 (.inr rfl) _ _ (by rw[h3,<-hp];simp),h3,<-hp];simp
   have r2:(part f.type (prq++qv::m').toArray f.offset).run P w=.ok qv w:=by
    rw[pf h5 h4 (.inr rfl) _ _ (by rw[h3,<-hq];simp),h3,<-hq];simp
   have r3:=vA (w:=w) d h2 hf.1 hk Ru e1;have ih:=rj (pre:=pre++ [kv]) (prq:=prq++ [qv]) (i:=i+1) d h6 hf.2 hl hm (by simp[hp]) (by simp[hq]) e2;simp only[List.append_assoc,List.cons_append,List.nil_append]at ih;simp only[Op.eqFields,h1,ne_eq,not_false_eq_true,if_true,Sem.run_bind,r1,r2,r3,Result.andThen_ok,Sem.run_ite];cases x
   ·simp
   ·simp[ih]
  ·cases he
theorem Fg {t:TypeId} {sh:Bool×List Bool} {k q:V} {kv qv:Value} {b:Bool} (ht:kH P t sh=true) (hf:o8 sh k=true) (hk:aU B I k kv) (hq:aU B I q qv) (he:gE k q=some b):
 (Op.equal t kv qv).run P w=.ok b w:=by
 obtain⟨g,l⟩:=sh;cases g
 ·cases l with
  | nil=>simp[kH]at ht
  | cons c l=>
   cases l with
   | cons=>simp[kH]at ht
   | nil=>
    simp only[kH]at ht;simp only[o8]at hf;have kd:fF k q=some b:=by
     cases c<;>cases k<;>simp only[iN,Bool.false_eq_true]at hf<;>cases q<;>simpa[gE]using he
    exact vA 9999 ht hf hk hq kd
 ·simp only[kH]at ht;split at ht
  ·rename_i fs hu;simp only[Bool.and_eq_true,Bool.not_eq_true']at ht;cases k<;>simp only[o8,Bool.false_eq_true]at hf;rename_i cs;cases q<;>simp only[gE]at he<;>try(cases he;done)
   rename_i qs;simp only[aU]at hk hq;obtain⟨cv,rfl,hk⟩:=hk;obtain⟨qv,rfl,hq⟩:=hq;have Ic:P.underlying t=some (.struct (P.fieldsOf t)):=by simp[Program.fieldsOf,hu]
   have hfe:P.fieldsOf t=fs:=by simp[Program.fieldsOf,hu]
   show(Op.equalIn (9999+1) t (.agg cv) (.agg qv)).run P w=_;rw[run_equalIn_struct w 9999 t cv qv Ic ht.1,hfe];have:=rj (w:=w) (pre:=[]) (prq:=[]) 9998 ht.2 hf hk hq rfl rfl he;simpa using this
  ·cases ht
theorem nF {t:TypeId} {sh:Bool×List Bool} {k:V} {kv:Value} (ht:kH P t sh=true) (hf:o8 sh k=true) (hk:aU B I k kv):∀{es:List MapEntry} {ks:List V} (i:Nat),aV B I ks (es.map (·.key))->ks.all (fun q=>(gE k q).isSome)=true->
 ∃r,(Instr.findAsking t kv es i).run P w=.ok r w/\(match r with
  | none=>∀q∈ks,gE k q=some false
  | some (n,v)=>∃j e,n=i+j/\es[j]? =some e/\v=e.val/\(∃q,ks[j]? =some q/\gE k q=some true)/\∀j' q,j'<j->ks[j']? =some q->gE k q=some false)
 | [],ks,i,hr,ha=>by
  simp only[List.map_nil]at hr;have:ks=[]:=by cases ks with | nil=>rfl | cons=>simp[aV]at hr
  subst this;exact⟨none,by simp[Instr.findAsking],by simp⟩
 | e::es,ks,i,hr,ha=>by
  cases ks with
  | nil=>simp[aV]at hr
  | cons q ks=>
   simp only[List.map_cons,aV]at hr;obtain⟨qv,l,e1,hq,hr⟩:=hr;cases e1;simp only[List.all_cons,Bool.and_eq_true]at ha;obtain⟨b,hb⟩:=Option.isSome_iff_exists.1 ha.1;have r1:=Fg (w:=w) ht hf hk hq hb;cases b with
   | true=>
    refine⟨some (i,e.val),by simp[Instr.findAsking,Sem.run_bind,r1,Result.andThen],0,e,by simp,by simp,rfl,⟨q,by simp,hb⟩,fun j' q h=>by omega⟩
   | false=>
    obtain⟨r,h1,h2⟩:=nF ht hf hk (es:=es) (ks:=ks) (i+1) hr ha.2;refine⟨r,by simp[Instr.findAsking,Sem.run_bind,r1,Result.andThen,h1],?_⟩;cases r with
    | none=>
     intro q' ln;rcases List.mem_cons.1 ln with rfl | ln
     ·exact hb
     ·exact h2 q' ln
    | some r=>
     obtain⟨n,v⟩:=r;obtain⟨j,e',h3,h4,h5,⟨q',h6,h7⟩,h8⟩:=h2;refine⟨j+1,e',by omega,by simpa using h4,h5,⟨q',by simpa using h6,h7⟩,fun j' X6 hj Ad=> ?_⟩;cases j' with
     | zero=>simp at Ad;subst Ad;exact hb
     | succ j'=>exact h8 j' X6 (by omega) (by simpa using Ad)
theorem Ae {t:TypeId} {c:Bool} {d:TypeDesc} {k q:V} {kv qv:Value} {b:Bool} (hd:P.underlying t=some d) (ht:H8 P t c=true) (hf:iN c k=true) (hk:aU B I k kv) (hq:aU B I q qv) (he:fF k q=some b):
 Instr.sameNow d kv qv=some b:=by
 rcases yu hf hk hq he with⟨rfl,j,x,y,rfl,rfl,rfl⟩ | ⟨rfl,x,y,rfl,rfl,rfl⟩
 ·obtain⟨κ,hu⟩:=Br ht;rw[hd]at hu;cases hu;simp only[Instr.sameNow,if_true];by_cases h:x=y<;>simp[h]
 ·have hu:=kt1us ht;rw[hd]at hu;cases hu;simp[Instr.sameNow,Ac]
theorem tc {t:TypeId} {c:Bool} {d:TypeDesc} {k:V} {kv:Value} (hd:P.underlying t=some d) (ht:H8 P t c=true) (hf:iN c k=true) (hk:aU B I k kv):∀{es:List MapEntry} {ks:List V} (i:Nat),aV B I ks (es.map (·.key))->ks.all (fun q=>(fF k q).isSome)=true->
 ∃r,Instr.findNow d kv es i=some r/\(match r with
  | none=>∀q∈ks,fF k q=some false
  | some (n,v)=>∃j e,n=i+j/\es[j]? =some e/\v=e.val/\(∃q,ks[j]? =some q/\fF k q=some true)/\∀j' q,j'<j->ks[j']? =some q->fF k q=some false)
 | [],ks,i,hr,ha=>by
  simp only[List.map_nil]at hr;have:ks=[]:=by cases ks with | nil=>rfl | cons=>simp[aV]at hr
  subst this;exact⟨none,by simp[Instr.findNow],by simp⟩
 | e::es,ks,i,hr,ha=>by
  cases ks with
  | nil=>simp[aV]at hr
  | cons q ks=>
   simp only[List.map_cons,aV]at hr;obtain⟨qv,l,e1,hq,hr⟩:=hr;cases e1;simp only[List.all_cons,Bool.and_eq_true]at ha;obtain⟨b,hb⟩:=Option.isSome_iff_exists.1 ha.1;have r1:=Ae hd ht hf hk hq hb;cases b with
   | true=>
    refine⟨some (i,e.val),by simp[Instr.findNow,r1],0,e,by simp,by simp,rfl,⟨q,by simp,hb⟩,fun j' q h=>by omega⟩
   | false=>
    obtain⟨r,h1,h2⟩:=tc hd ht hf hk (es:=es) (ks:=ks) (i+1) hr ha.2;refine⟨r,by simp[Instr.findNow,r1,h1],?_⟩;cases r with
    | none=>
     intro q' ln;rcases List.mem_cons.1 ln with rfl | ln
     ·exact hb
     ·exact h2 q' ln
    | some r=>
     obtain⟨n,v⟩:=r;obtain⟨j,e',h3,h4,h5,⟨q',h6,h7⟩,h8⟩:=h2;refine⟨j+1,e',by omega,by simpa using h4,h5,⟨q',by simpa using h6,h7⟩,fun j' X6 hj Ad=> ?_⟩;cases j' with
     | zero=>simp at Ad;subst Ad;exact hb
     | succ j'=>exact h8 j' X6 (by omega) (by simpa using Ad)
theorem I1 {c:Bool} {k q:V} (hf:iN c k=true):gE k q=fF k q:=by
 cases c<;>cases k<;>simp only[iN,Bool.false_eq_true]at hf<;>cases q<;>rfl
theorem nW {t:TypeId} {sh:Bool×List Bool} {k:V} {kv:Value} {es:List MapEntry} {ks:List V} (ht:kH P t sh=true) (hf:o8 sh k=true) (hk:aU B I k kv) (hr:aV B I ks (es.map (·.key))) (ha:ks.all (fun q=>(gE k q).isSome)=true):
 ∃r,(Instr.findKey t kv es).run P w=.ok r w/\(match r with
  | none=>∀q∈ks,gE k q=some false
  | some (n,v)=>∃e,es[n]? =some e/\v=e.val/\(∃q,ks[n]? =some q/\gE k q=some true)/\∀j' q,j'<n->ks[j']? =some q->gE k q=some false):=by
 obtain⟨g,l⟩:=sh;have fin:(∃r,(Instr.findAsking t kv es 0).run P w=.ok r w/\(match r with
  | none=>∀q∈ks,gE k q=some false
  | some (n,v)=>∃e,es[n]? =some e/\v=e.val/\(∃q,ks[n]? =some q/\gE k q=some true)/\∀j' q,j'<n->ks[j']? =some q->gE k q=some false)):=by
  obtain⟨r,h1,h2⟩:=nF (w:=w) ht hf hk 0 hr ha;refine⟨r,h1,?_⟩;cases r with
  | none=>exact h2
  | some r=>
   obtain⟨n,v⟩:=r;obtain⟨j,e,h3,h4,h5⟩:=h2;obtain rfl:n=j:=by omega
   exact⟨e,h4,h5⟩
 cases g
 ·cases l with
  | nil=>simp[kH]at ht
  | cons c l=>
   cases l with
   | cons=>simp[kH]at ht
   | nil=>
    simp only[kH]at ht;simp only[o8]at hf;obtain⟨d,hd⟩:∃d,P.underlying t=some d:=by
     cases c
     ·obtain⟨k,h⟩:=Br ht;exact⟨_,h⟩
     ·exact⟨_,kt1us ht⟩
    have e1:∀q,gE k q=fF k q:=fun q=>I1 hf
    simp only[e1]at ha⊢;obtain⟨r,h1,h2⟩:=tc hd ht hf hk 0 hr ha;refine⟨r,by simp[Instr.findKey,Sem.run_bind,run_underlying hd,Result.andThen,h1],?_⟩;cases r with
    | none=>exact h2
    | some r=>
     obtain⟨n,v⟩:=r;obtain⟨j,e,h3,h4,h5⟩:=h2;obtain rfl:n=j:=by omega
     exact⟨e,h4,h5⟩
 ·have Af:=ht;simp only[kH]at Af;split at Af
  ·rename_i fs hu;cases es with
   | nil=>
    refine⟨none,by simp[Instr.findKey,Sem.run_bind,run_underlying hu,Result.andThen,Instr.findNow],?_⟩;have:ks=[]:=by cases ks with | nil=>rfl | cons=>simp[aV]at hr
    subst this;simp
   | cons e es=>
    obtain⟨r,h1,h2⟩:=fin;refine⟨r,?_,h2⟩;simp[Instr.findKey,Sem.run_bind,run_underlying hu,Result.andThen,Instr.findNow,Instr.sameNow,h1]
  ·cases Af
theorem Fh {t:TypeId} {c:Bool} {k:V} {kv:Value} (n:Nat) (e:Bool) (ht:H8 P t c=true) (hf:iN c k=true) (hk:aU B I k kv):(Instr.checkKey e (n+1) t kv).run P w=.ok () w:=by
 cases c<;>cases k<;>simp only[iN,Bool.false_eq_true]at hf
 ·obtain⟨κ,hu⟩:=Br ht;simp only[aU]at hk;subst hk;simp[Instr.checkKey,Sem.run_bind,run_underlying hu,Result.andThen]
 ·have hu:=kt1us ht;simp only[aU]at hk;obtain⟨rfl,_⟩:=hk;simp[Instr.checkKey,Sem.run_bind,run_underlying hu,Result.andThen]
theorem Bt {n:Nat} {e:Bool}:∀{fs:List Field} {bs:List Bool} {i:Nat} {cs:List V} {l pre:List Value},wB P i fs bs=true->o7 bs cs=true->aV B I cs l->pre.length=i->
 (forIn fs PUnit.unit (fun(f:Field) (_:PUnit)=>(do
   if f.name≠ "_" then Instr.checkKey e (n+1) f.type (<-part f.type (pre++l).toArray f.offset)
   pure (ForInStep.yield PUnit.unit):Sem (ForInStep PUnit)))).run P w=.ok PUnit.unit w
 | [],bs,i,cs,l,pre,ht,hf,hl,hp=>by simp
 | f::fs,bs,i,cs,l,pre,ht,hf,hl,hp=>by
  cases bs with
  | nil=>simp[wB]at ht
  | cons c bs=>
  cases cs with
  | nil=>simp[o7]at hf
  | cons k cs=>
  simp only[wB,Bool.and_eq_true,bne_iff_ne,ne_eq,beq_iff_eq]at ht;obtain⟨⟨⟨⟨⟨h1,h2⟩,h3⟩,h4⟩,h5⟩,h6⟩:=ht;simp only[o7,Bool.and_eq_true]at hf;simp only[aV]at hl;obtain⟨kv,l',rfl,hk,hl⟩:=hl;have r1:(part f.type (pre++kv::l').toArray f.offset).run P w=.ok kv w:=by
   rw[pf h5 h4 (.inr rfl) _ _ (by rw[h3,<-hp];simp),h3,<-hp];simp
  have r3:=Fh (w:=w) n e h2 hf.1 hk;have ih:=Bt (n:=n) (e:=e) (pre:=pre++ [kv]) (i:=i+1) h6 hf.2 hl (by simp[hp]);simp only[List.append_assoc,List.cons_append,List.nil_append]at ih;simp only[List.forIn_cons,Sem.run_bind,h1,ne_eq,not_false_eq_true,if_true,r1,r3,Result.andThen_ok,Sem.run_pure];exact ih
theorem lW {t:TypeId} {sh:Bool×List Bool} {k:V} {kv:Value} (e:Bool) (ht:kH P t sh=true) (hf:o8 sh k=true) (hk:aU B I k kv):(Instr.checkKey e 10000 t kv).run P w=.ok () w:=by
 obtain⟨g,l⟩:=sh;cases g
 ·cases l with
  | nil=>simp[kH]at ht
  | cons c l=>
   cases l with
   | cons=>simp[kH]at ht
   | nil=>exact Fh 9999 e (by simpa[kH]using ht) (by simpa[o8]using hf) hk
 ·simp only[kH]at ht;split at ht
  ·rename_i fs hu;simp only[Bool.and_eq_true]at ht;cases k<;>simp only[o8,Bool.false_eq_true]at hf;rename_i cs;simp only[aU]at hk;obtain⟨cv,rfl,hk⟩:=hk;show(Instr.checkKey e (9999+1) t (.agg cv)).run P w=_;rw[Instr.checkKey];simp only[Sem.run_bind,run_underlying hu,Result.andThen_ok];rw[<-Array.forIn_toList];have:=Bt (w:=w) (n:=9998) (e:=e) (pre:=[]) ht.2 hf hk rfl;simp at this⊢;rw[this];rfl
  ·cases ht
theorem qL {k:V}:∀{ks vs:List V},(∀q∈ks,gE k q=some false)->gG ks vs k=none
 | [],vs,h=>by simp[gG]
 | q::ks,[],h=>by simp[gG]
 | q::ks,v::vs,h=>by
  rw[gG,h q (by simp),qL (fun q' hq=>h q' (by simp[hq]))];simp
theorem qM {k:V}:∀{ks vs:List V} {n:Nat} {q v:V},ks[n]? =some q->vs[n]? =some v->gE k q=some true->(∀j q,j<n->ks[j]? =some q->gE k q=some false)->gG ks vs k=some v
 | [],vs,n,q,v,h,_,_,_=>by simp at h
 | q'::ks,[],n,q,v,_,h,_,_=>by simp at h
 | q'::ks,v'::vs,n,q,v,h1,h2,h3,h4=>by
  cases n with
  | zero=>
   simp at h1 h2;subst h1 h2;rw[gG,if_pos h3]
  | succ n=>
   rw[gG,h4 0 q' (by omega) (by simp),if_neg (by simp)];exact qM (by simpa using h1) (by simpa using h2) h3 (fun j q hj hq=>h4 (j+1) q (by omega) (by simpa using hq))
theorem I3 {t:TypeId} {x k:Operand} {ok Wz:Bool} {sh:Bool×List Bool} {z:V} {x' k':SX} (ho:o.op=.lookup t x k ok) (hc:bg P a.tmps.size (.lookup t x k ok) o.type (.eu sh Wz z x' k')=true) (he:cy B I env a.tmps) (hs:cD f B I w H)
 (hk:bd P (.eu sh Wz z x' k') env H K):Out f B I K ((execOp a.eval o).run P w):=by
 simp only[bg,Bool.and_eq_true,beq_iff_eq]at hc;obtain⟨⟨⟨hc,rfl⟩,h1⟩,h2⟩:=hc;split at hc
 ·rename_i kt e hu;simp only[Bool.and_eq_true]at hc;obtain⟨Rv,hz⟩:=hc;split at hz
  ·rename_i zv IU;have hx:=bh h1 he;have j7:=bh h2 he;have MU:aU B I z zv:=kJ hz;have yw:(zeroValue e).run P w=.ok zv w:=kg IU;simp only[bd]at hk;generalize dp env x'=X at*;generalize dp env k'=k0 at*;have main:∀(es:List MapEntry) (ks vs:List V) (xv:Value),aV B I ks (es.map (·.key))->aV B I vs (es.map (·.val))->ya sh ks k0=true->K (fT ok z (gG ks vs k0)) H->
    a.eval x=xv->((xv=.map none/\es=[])\/∃r clock,xv=.map (some r)/\w.heap[r]? =some (.map es.toArray clock))->Out f B I K ((execOp a.eval o).run P w):=by
    intro es ks vs xv qp EA dx hK hxe Qp;simp only[ya,Bool.and_eq_true]at dx;have EB:=fun e=>lW (w:=w) e Rv dx.1 j7
    obtain⟨r,Bu,lJ⟩:=nW (w:=w) Rv dx.1 j7 qp dx.2;have cV:∃v,(Instr.lookup t xv (a.eval k) ok).run P w=.ok v w/\aU B I (fT ok z (gG ks vs k0)) v:=by
     cases r with
     | none=>
      rw[qL lJ];refine⟨if ok then .tuple #[zv,.bool false]else zv,?_,?_⟩
      ·rcases Qp with⟨rfl,rfl⟩ | ⟨r,clock,rfl,hh⟩
       ·simp only[Instr.lookup,Sem.run_bind,run_underlying hu,Result.andThen_ok,Sem.run_pure,EB,yw];simp only[show(#[]:Array MapEntry).toList=[] from rfl,Bu,Result.andThen_ok,Sem.run_bind,yw,Sem.run_pure]
       ·simp only[Instr.lookup,Sem.run_bind,run_underlying hu,Result.andThen_ok,Sem.run_pure,EB,MapKept.run_getObj_map hh];simp only[Bu,Result.andThen_ok,Sem.run_bind,yw,Sem.run_pure]
      ·cases ok
       ·simpa[fT]using MU
       ·simp only[fT,if_true,aU];exact⟨_,rfl,by simp[aV,aU];exact MU⟩
     | some r=>
      obtain⟨n,v⟩:=r;obtain⟨en,h3,rfl,⟨q,h4,h5⟩,h6⟩:=lJ;have hlen:ks.length=vs.length:=by have:=qp.length;have:=EA.length;simp_all
      obtain⟨v,hv⟩:∃v,vs[n]? =some v:=by
       have:=(List.getElem?_eq_some_iff.1 h4).1;exact⟨vs[n],List.getElem?_eq_getElem (by omega)⟩
      rw[qM h4 hv h5 h6];have EC:aU B I v en.val:=by
       obtain⟨u,h7,h8⟩:=EA.get hv;rw[List.getElem?_map,h3]at h7;simp at h7;subst h7;exact h8
      refine⟨if ok then .tuple #[en.val,.bool true]else en.val,?_,?_⟩
      ·rcases Qp with⟨rfl,rfl⟩ | ⟨r,clock,rfl,hh⟩
       ·simp at h3
       ·simp only[Instr.lookup,Sem.run_bind,run_underlying hu,Result.andThen_ok,Sem.run_pure,EB,MapKept.run_getObj_map hh];simp only[Bu,Result.andThen_ok,Sem.run_bind,Sem.run_pure]
      ·cases ok
       ·simpa[fT]using EC
       ·simp only[fT,if_true,aU];exact⟨_,rfl,by simp[aV,aU];exact EC⟩
    obtain⟨v,MV,I4⟩:=cV;refine Out.quiet (v:=v) ?_ hK hs I4;subst hxe;simp[execOp,ho,Sem.run_bind,MV,Result.andThen]
   split at hk
   ·simp only[aU]at hx;exact main [] [] [] _ (by simp[aV]) (by simp[aV]) hk.1 (by simpa[gG]using hk.2) rfl (.inl ⟨hx,rfl⟩)
   ·rename_i ks vs;simp only[aU]at hx;obtain⟨b,es,clock,hx,h3,_,h4,h5⟩:=hx;exact main es.toList ks vs _ h4 h5 hk.1 hk.2 rfl (.inr ⟨b,clock,hx,by simpa using hs.lH _ _ h3⟩)
   ·rename_i id;split at hk
    ·rename_i ks vs hH;simp only[aU]at hx;obtain⟨p,hp,hx⟩:=hx;obtain⟨es,clock,h3,_,h4,h5⟩:=hs.ok _ _ _ hp hH;exact main es.toList ks vs _ h4 h5 hk.1 hk.2 rfl (.inr ⟨p.dI,clock,hx,by simpa using h3⟩)
    ·exact hk.elim
   ·exact hk.elim
  ·cases hz
 ·cases hc
theorem qN {k q:V} {kv qv:Value} (hk:aU B I k kv) (hq:aU B I q qv) (he:fF k q=some true):kv=qv/\∀n,Instr.sameBits n qv kv=true:=by
 cases k<;>cases q<;>simp only[fF]at he<;>try(cases he;done)
 ·split at he
  ·rename_i e;subst e;simp only[Option.some.injEq,decide_eq_true_eq]at he;subst he;simp only[aU]at hk hq;subst hk hq;exact⟨rfl,fun n=>by cases n<;>simp[Instr.sameBits]⟩
  ·cases he
 ·simp only[Option.some.injEq,decide_eq_true_eq]at he;subst he;simp only[aU]at hk hq;obtain⟨rfl,_⟩:=hk;obtain⟨rfl,_⟩:=hq;exact⟨rfl,fun n=>by cases n<;>simp[Instr.sameBits,Ac]⟩
theorem vB:∀{ks qs:List V} {kl ql:List Value},aV B I ks kl->aV B I qs ql->sU ks qs=some true->kl=ql/\∀n,(ql.zip kl).all (fun x=>Instr.sameBits n x.1 x.2)=true
 | [],[],kl,ql,hk,hq,he=>by
  simp only[aV]at hk hq;subst hk hq;simp
 | k::ks,q::qs,kl,ql,hk,hq,he=>by
  simp only[aV]at hk hq;obtain⟨kv,kl,rfl,hk,ED⟩:=hk;obtain⟨qv,ql,rfl,hq,Qs⟩:=hq;simp only[sU]at he;split at he
  ·rename_i x y e1 e2;simp only[Option.some.injEq,Bool.and_eq_true]at he;obtain⟨rfl,rfl⟩:=he;obtain⟨rfl,h1⟩:=qN hk hq e1;obtain⟨rfl,h2⟩:=vB ED Qs e2;exact⟨rfl,fun n=>by simp[h1,h2 n]⟩
  ·cases he
 | [],_::_,_,_,_,_,he=>by simp[sU]at he
 | _::_,[],_,_,_,_,he=>by simp[sU]at he
theorem keq_same {k q:V} {kv qv:Value} (hk:aU B I k kv) (hq:aU B I q qv) (he:gE k q=some true):kv=qv/\Instr.sameBits 10000 qv kv=true:=by
 by_cases xQ:∃xs,k=.agg xs
 ·obtain⟨xs,rfl⟩:=xQ;cases q<;>simp only[gE]at he<;>try(cases he;done)
  simp only[aU]at hk hq;obtain⟨kc,rfl,hk⟩:=hk;obtain⟨qc,rfl,hq⟩:=hq;obtain⟨h1,h2⟩:=vB hk hq he;have h1:kc=qc:=by cases kc;cases qc;simp_all
  subst h1;refine⟨rfl,?_⟩;show Instr.sameBits (9999+1) _ _=true;rw[Instr.sameBits];simpa using h2 9999
 ·have:gE k q=fF k q:=by cases k<;>first | rfl | (exact absurd ⟨_,rfl⟩ xQ) | (cases q<;>rfl)
  rw[this]at he;exact⟨(qN hk hq he).1,(qN hk hq he).2 _⟩
theorem td {k x:V}:∀{ks vs:List V},ks.length=vs.length->(∀q∈ks,gE k q=some false)->ja ks k=ks++ [k]/\im ks vs k x=vs++ [x]
 | [],[],_,h=>by simp[ja,im]
 | q::ks,v::vs,hl,h=>by
  obtain⟨h1,h2⟩:=td (k:=k) (x:=x) (ks:=ks) (vs:=vs) (by simpa using hl) (fun q' hq=>h q' (by simp[hq]));refine⟨?_,by rw[im,h q (by simp),if_neg (by simp),h2];rfl⟩;rw[ja,if_neg];simp only[List.any_eq_true,not_exists,not_and,beq_iff_eq];intro q' ln he;rw[h q' ln]at he;cases he
theorem te {k x:V}:∀{ks vs:List V} {n:Nat} {q:V},ks.length=vs.length->ks[n]? =some q->gE k q=some true->(∀j q,j<n->ks[j]? =some q->gE k q=some false)->ja ks k=ks/\im ks vs k x=vs.set n x
 | [],vs,n,q,hl,h1,h2,h3=>by simp at h1
 | q'::ks,[],n,q,hl,h1,h2,h3=>by simp at hl
 | q'::ks,v::vs,n,q,hl,h1,h2,h3=>by
  refine⟨?_,?_⟩
  ·rw[ja,if_pos];rw[List.any_eq_true];exact⟨q,List.mem_of_getElem? h1,by simp[h2]⟩
  ·cases n with
   | zero=>simp at h1;subst h1;rw[im,if_pos h2];rfl
   | succ n=>
    rw[im,h3 0 q' (by omega) (by simp),if_neg (by simp),(te (ks:=ks) (by simpa using hl) (by simpa using h1) h2 (fun j q hj hq=>h3 (j+1) q (by omega) (by simpa using hq))).2];rfl
theorem tg:∀{xs:List V} {l:List Value} {n:Nat} {x:V} {v:Value},aV B I xs l->aU B I x v->aV B I (xs.set n x) (l.set n v)
 | [],l,n,x,v,h,hx=>by simp only[aV]at h;subst h;simp[aV]
 | y::xs,l,n,x,v,h,hx=>by
  simp only[aV]at h;obtain⟨u,us,rfl,h1,h2⟩:=h;cases n with
  | zero=>simp only[List.set_cons_zero,aV];exact⟨_,_,rfl,hx,h2⟩
  | succ n=>simp only[List.set_cons_succ,aV];exact⟨_,_,rfl,h1,tg h2 hx⟩
theorem BnI.push {es:Array MapEntry} {clock:Nat} (h:BnI es clock) {k v:Value}:BnI (es.push {key:=k,val:=v,born:=clock}) (clock+1):=by
 refine⟨by rw[h.1];simp,?_⟩;rw[Array.toList_push,List.map_append,h.2,Array.size_push,List.range_succ];simp[h.1]
theorem BnI.modify {es:Array MapEntry} {clock n:Nat} {f:MapEntry->MapEntry} (h:BnI es clock) (hf:∀e,(f e).born=e.born):BnI (es.modify n f) clock:=by
 refine⟨by rw[h.1];simp,?_⟩;rw[Array.size_modify,<-h.2];apply List.ext_getElem?
 intro i;simp only[List.getElem?_map,Array.getElem?_toList,Array.getElem?_modify];split
 ·cases es[i]? <;>simp[hf]
 ·rfl
theorem MW {t:TypeId} {x k v:Operand} {sh:Bool×List Bool} {x' k' v':SX} (ho:o.op=.mapUpdate t x k v) (hc:bg P a.tmps.size (.mapUpdate t x k v) o.type (.kG sh x' k' v')=true) (he:cy B I env a.tmps) (hs:cD f B I w H)
 (hk:bd P (.kG sh x' k' v') env H K):Out f B I K ((execOp a.eval o).run P w):=by
 simp only[bg,Bool.and_eq_true]at hc;obtain⟨⟨⟨hc,h1⟩,h2⟩,h3⟩:=hc;split at hc
 ·rename_i kt e hu;have hx:=bh h1 he;have j7:=bh h2 he;have EC:=bh h3 he;simp only[bd]at hk;generalize dp env k'=k0 at*;generalize dp env v'=v0 at*;split at hk
  ·rename_i id hX;rw[hX]at hx;split at hk
   ·rename_i ks vs hH;obtain⟨dx,hK⟩:=hk;simp only[aU]at hx;obtain⟨p,hp,hx⟩:=hx;have hb:=hs.ok _ _ _ hp hH;obtain⟨es,clock,h4,gi,h5,h6⟩:=hb;simp only[ya,Bool.and_eq_true]at dx;have EB:=lW (w:=w) false hc dx.1 j7;obtain⟨r,Bu,lJ⟩:=nW (w:=w) hc dx.1 j7 h5 dx.2;have hlen:ks.length=vs.length:=by have:=h5.length;have:=h6.length;simp_all
    have gh:=(hs.own _ _ _ hp hH rfl).2.2;cases r with
    | none=>
     obtain⟨e1,e2⟩:=td (x:=v0) hlen lJ;rw[e1,e2]at hK;refine⟨undef,{w with heap:=w.heap.setIfInBounds p.dI (.map (es.push {key:=a.eval k,val:=a.eval v,born:=clock}) (clock+1))},.any,_,B,I,.inr ⟨?_,rfl⟩,hK,?_,eA.refl _,dY.refl _,by simp[aU]⟩
     ·simp only[execOp,ho,hx,Instr.mapUpdate,Sem.run_bind,run_underlying hu,Result.andThen_ok,MapKept.run_getObj_map h4,EB,Bu,MapKept.run_setObj_map _ h4,Sem.run_pure]
     ·refine hs.rewriteO hp hH rfl gh ⟨_,_,by show(w.heap.setIfInBounds _ _)[_]? =_;simp[gh];exact⟨rfl,rfl⟩,?_,?_,?_⟩
      ·exact gi.push
      ·simpa using h5.append (l:=es.toList.map (·.key)) (m:=[a.eval k]) (by simp[aV];exact j7)
      ·simpa using h6.append (l:=es.toList.map (·.val)) (m:=[a.eval v]) (by simp[aV];exact EC)
    | some r=>
     obtain⟨n,u⟩:=r;obtain⟨en,g1,rfl,⟨q,g2,g3⟩,g4⟩:=lJ;obtain⟨e1,e2⟩:=te (x:=v0) hlen g2 g3 g4;rw[e1,e2]at hK;have Ru:aU B I q en.key:=by
      obtain⟨u,h7,h8⟩:=h5.get g2;rw[List.getElem?_map,g1]at h7;simp at h7;subst h7;exact h8
     obtain⟨Ie,Ag⟩:=keq_same j7 Ru g3;have zK:es[n]? =some en:=by simpa using g1
     refine⟨undef,{w with heap:=w.heap.setIfInBounds p.dI (.map (es.modify n fun e=>{e with key:=a.eval k,val:=a.eval v}) clock)},.any,_,B,I,.inr ⟨?_,rfl⟩,hK,?_,eA.refl _,dY.refl _,by simp[aU]⟩
     ·simp only[execOp,ho,hx,Instr.mapUpdate,Sem.run_bind,run_underlying hu,Result.andThen_ok,MapKept.run_getObj_map h4,EB,Bu,Instr.keyThatStays,zK,Option.map_some,Option.getD_some,Ag,if_true,MapKept.run_setObj_map _ h4,Sem.run_pure]
     ·have hks':ks.set n k0=ks.set n k0:=rfl;refine hs.rewriteO hp hH rfl gh ⟨_,_,by show(w.heap.setIfInBounds _ _)[_]? =_;simp[gh];exact⟨rfl,rfl⟩,?_,?_,?_⟩
      ·exact gi.modify (fun _=>rfl)
      ·have e3:(es.modify n fun e=>{e with key:=a.eval k,val:=a.eval v}).toList.map (·.key)=es.toList.map (·.key):=by
        apply List.ext_getElem?
        intro i;simp only[List.getElem?_map,Array.getElem?_toList,Array.getElem?_modify];split
        ·rename_i e;subst e;rw[zK];simp[Ie]
        ·rfl
       rw[e3];exact h5
      ·have e3:(es.modify n fun e=>{e with key:=a.eval k,val:=a.eval v}).toList.map (·.val)=(es.toList.map (·.val)).set n (a.eval v):=by
        apply List.ext_getElem?
        intro i;rw[List.getElem?_set];simp only[List.getElem?_map,Array.getElem?_toList,Array.getElem?_modify];split
        ·rename_i e;subst e;rw[zK];have:=(Array.getElem?_eq_some_iff.1 zK).1;simp[this]
        ·rfl
       rw[e3];exact tg h6 EC
   ·exact hk.elim
  ·exact hk.elim
 ·cases hc
theorem Bv {k:V}:∀{ks:List V},(∀q∈ks,gE k q=some false)->nT ks k=ks.length/\(ks.any fun q=>gE k q==some true)=false
 | [],_=>by simp[nT]
 | q::ks,h=>by
  obtain⟨h1,h2⟩:=Bv (ks:=ks) (fun q hq=>h q (by simp[hq]));have h0:=h q (by simp);constructor
  ·rw[nT]at h1⊢;rw[List.findIdx_cons,h0];simp[h1]
  ·simp[h0,h2]
theorem Bw {k:V}:∀{ks:List V} {n:Nat} {q:V},ks[n]? =some q->gE k q=some true->(∀j q,j<n->ks[j]? =some q->gE k q=some false)->nT ks k=n/\(ks.any fun q=>gE k q==some true)=true
 | [],n,q,h,_,_=>by simp at h
 | q'::ks,n,q,h1,h2,h3=>by
  cases n with
  | zero=>
   simp at h1;subst h1;simp[nT,List.findIdx_cons,h2]
  | succ n=>
   obtain⟨h4,h5⟩:=Bw (ks:=ks) (n:=n) (by simpa using h1) h2 (fun j q hj hq=>h3 (j+1) q (by omega) (by simpa using hq));have h0:=h3 0 q' (by omega) (by simp);constructor
   ·rw[nT]at h4⊢;rw[List.findIdx_cons,h0];simp[h4]
   ·simp[h5]
theorem MX {t:TypeId} {x k:Operand} {sh:Bool×List Bool} {z:V} {x' k':SX} (ho:o.op=.mapEntry t x k) (hc:bg P a.tmps.size (.mapEntry t x k) o.type (.uY sh z x' k')=true) (he:cy B I env a.tmps) (hs:cD f B I w H)
 (hk:bd P (.uY sh z x' k') env H K):Out f B I K ((execOp a.eval o).run P w):=by
 simp only[bg,Bool.and_eq_true]at hc;obtain⟨⟨hc,h1⟩,h2⟩:=hc;split at hc
 ·rename_i kt e hu;simp only[Bool.and_eq_true]at hc;obtain⟨Rv,hz⟩:=hc;split at hz
  ·rename_i zv IU;have hx:=bh h1 he;have j7:=bh h2 he;have MU:aU B I z zv:=kJ hz;have yw:(zeroValue e).run P w=.ok zv w:=kg IU;simp only[bd]at hk;generalize dp env k'=k0 at*;split at hk
   ·rename_i id hX;rw[hX]at hx;split at hk
    ·rename_i ks vs hH;obtain⟨dx,hK⟩:=hk;simp only[aU]at hx;obtain⟨p,hp,hx⟩:=hx;have hb:=hs.ok _ _ _ hp hH;obtain⟨es,clock,h4,gi,h5,h6⟩:=hb;simp only[ya,Bool.and_eq_true]at dx;have EB:=lW (w:=w) false Rv dx.1 j7;obtain⟨r,Bu,lJ⟩:=nW (w:=w) Rv dx.1 j7 h5 dx.2;have hlen:ks.length=vs.length:=by have:=h5.length;have:=h6.length;simp_all
     have Rw:ks.length=es.size:=by have:=h5.length;simpa using this
     have gh:=(hs.own _ _ _ hp hH rfl).2.2;cases r with
     | none=>
      obtain⟨e1,_⟩:=td (x:=z) hlen lJ;obtain⟨e3,e4⟩:=Bv lJ;have e2:lR ks vs k0 z=vs++ [z]:=by rw[lR,e4];rfl
      rw[e1,e2,e3,qL lJ,Option.getD_none,Rw]at hK;refine⟨.tuple #[zv,goInt clock],{w with heap:=w.heap.setIfInBounds p.dI (.map (es.push {key:=a.eval k,val:=zv,born:=clock}) (clock+1))},_,_,B,I,.inl ?_,hK,?_,eA.refl _,dY.refl _,?_⟩
      ·simp only[execOp,ho,hx,Instr.mapEntry,Sem.run_bind,run_underlying hu,Result.andThen_ok,MapKept.run_getObj_map h4,EB,Bu,yw,MapKept.run_setObj_map _ h4,Sem.run_pure]
      ·refine hs.rewriteO hp hH rfl gh ⟨_,_,by show(w.heap.setIfInBounds _ _)[_]? =_;rw[Array.getElem?_setIfInBounds,if_pos rfl,if_pos gh]<;>try rfl,gi.push,?_,?_⟩
       ·simpa using h5.append (l:=es.toList.map (·.key)) (m:=[a.eval k]) (by simp[aV];exact j7)
       ·simpa using h6.append (l:=es.toList.map (·.val)) (m:=[zv]) (by simp[aV];exact MU)
      ·simp only[aU];exact⟨_,rfl,by simp[aV,aU,goInt,gi.1];exact MU⟩
     | some r=>
      obtain⟨n,u⟩:=r;obtain⟨en,g1,rfl,⟨q,g2,g3⟩,g4⟩:=lJ;obtain⟨e1,_⟩:=te (x:=z) hlen g2 g3 g4;obtain⟨e3,e4⟩:=Bw g2 g3 g4;have e2:lR ks vs k0 z=vs:=by rw[lR,e4];rfl
      obtain⟨v1,MV⟩:∃v,vs[n]? =some v:=by
       have:=(List.getElem?_eq_some_iff.1 g2).1;exact⟨vs[n],List.getElem?_eq_getElem (by omega)⟩
      rw[e1,e2,e3,qM g2 MV g3 g4,Option.getD_some]at hK;have EC:aU B I v1 en.val:=by
       obtain⟨u,h7,h8⟩:=h6.get MV;rw[List.getElem?_map,g1]at h7;simp at h7;subst h7;exact h8
      have Ru:aU B I q en.key:=by
       obtain⟨u,h7,h8⟩:=h5.get g2;rw[List.getElem?_map,g1]at h7;simp at h7;subst h7;exact h8
      obtain⟨Ie,Ag⟩:=keq_same j7 Ru g3;have zK:es[n]? =some en:=by simpa using g1
      have Ig:=gi.at zK;refine⟨.tuple #[en.val,goInt n],{w with heap:=w.heap.setIfInBounds p.dI (.map (es.modify n fun e=>{e with key:=a.eval k}) clock)},_,_,B,I,.inl ?_,hK,?_,eA.refl _,dY.refl _,?_⟩
      ·simp only[execOp,ho,hx,Instr.mapEntry,Sem.run_bind,run_underlying hu,Result.andThen_ok,MapKept.run_getObj_map h4,EB,Bu,Instr.keyThatStays,zK,Option.map_some,Option.getD_some,Ag,if_true,MapKept.run_setObj_map _ h4,Sem.run_pure,Ig]
      ·refine hs.rewriteO hp hH rfl gh ⟨_,_,by show(w.heap.setIfInBounds _ _)[_]? =_;rw[Array.getElem?_setIfInBounds,if_pos rfl,if_pos gh]<;>try rfl,gi.modify (n:=n) (f:=fun e=>{e with key:=a.eval k}) (fun _=>rfl),?_,?_⟩
       ·have e3:(es.modify n fun e=>{e with key:=a.eval k}).toList.map (·.key)=es.toList.map (·.key):=by
         apply List.ext_getElem?
         intro i;simp only[List.getElem?_map,Array.getElem?_toList,Array.getElem?_modify];split
         ·rename_i e;subst e;rw[zK];simp[Ie]
         ·rfl
        rw[e3];exact h5
       ·have e3:(es.modify n fun e=>{e with key:=a.eval k}).toList.map (·.val)=es.toList.map (·.val):=by
         apply List.ext_getElem?
         intro i;simp only[List.getElem?_map,Array.getElem?_toList,Array.getElem?_modify];split
         ·rename_i e;subst e;rw[zK];simp
         ·rfl
        rw[e3];exact h6
      ·simp only[aU];exact⟨_,rfl,by simp[aV,aU,goInt];exact EC⟩
    ·exact hk.elim
   ·exact hk.elim
  ·cases hz
 ·cases hc
theorem MY {t:TypeId} {x k v:Operand} {x' k' v':SX} (ho:o.op=.entryStore t x k v) (hc:bg P a.tmps.size (.entryStore t x k v) o.type (.uZ x' k' v')=true) (he:cy B I env a.tmps) (hs:cD f B I w H)
 (hk:bd P (.uZ x' k' v') env H K):Out f B I K ((execOp a.eval o).run P w):=by
 simp only[bg,Bool.and_eq_true]at hc;obtain⟨⟨h1,h2⟩,h3⟩:=hc;have hx:=bh h1 he;have j7:=bh h2 he;have EC:=bh h3 he;simp only[bd]at hk;generalize dp env v'=v0 at*;split at hk
 ·rename_i id kk n hX hN;rw[hX]at hx;rw[hN]at j7;split at hk
  ·rename_i ks vs hH;obtain⟨⟨lV,pn⟩,hK⟩:=hk;simp only[aU]at hx j7;obtain⟨p,hp,hx⟩:=hx;obtain⟨es,clock,h4,gi,h5,h6⟩:=hs.ok _ _ _ hp hH;have gh:=(hs.own _ _ _ hp hH rfl).2.2;have Rw:ks.length=es.size:=by have:=h5.length;simpa using this
   have ct:n.toNat<es.size:=by omega
   have hfi:es.findIdx? (fun e=>(e.born:Int)==n)=some n.toNat:=by
    rw[Array.findIdx?_eq_some_iff_getElem];refine⟨ct,?_,fun j hj=> ?_⟩
    ·have:=gi.at (Array.getElem?_eq_getElem ct);rw[this];simp;omega
    ·have:=gi.at (Array.getElem?_eq_getElem (show j<es.size by omega));rw[this];simp;omega
   refine⟨undef,{w with heap:=w.heap.setIfInBounds p.dI (.map (es.modify n.toNat fun e=>{e with val:=a.eval v}) clock)},.any,_,B,I,.inr ⟨?_,rfl⟩,hK,?_,eA.refl _,dY.refl _,by simp[aU]⟩
   ·simp only[execOp,ho,hx,j7,Instr.entryStore,Sem.run_bind,Sem.run_pure,Result.andThen_ok,MapKept.run_getObj_map h4,asInt,asIntOf,hfi,MapKept.run_setObj_map _ h4]
   ·refine hs.rewriteO hp hH rfl gh ⟨_,_,by show(w.heap.setIfInBounds _ _)[_]? =_;rw[Array.getElem?_setIfInBounds,if_pos rfl,if_pos gh]<;>try rfl,gi.modify (n:=n.toNat) (f:=fun e=>{e with val:=a.eval v}) (fun _=>rfl),?_,?_⟩
    ·have e3:(es.modify n.toNat fun e=>{e with val:=a.eval v}).toList.map (·.key)=es.toList.map (·.key):=by
      apply List.ext_getElem?
      intro i;simp only[List.getElem?_map,Array.getElem?_toList,Array.getElem?_modify];split
      ·cases es[i]? <;>simp
      ·rfl
     rw[e3];exact h5
    ·have e3:(es.modify n.toNat fun e=>{e with val:=a.eval v}).toList.map (·.val)=(es.toList.map (·.val)).set n.toNat (a.eval v):=by
      apply List.ext_getElem?
      intro i;rw[List.getElem?_set];simp only[List.getElem?_map,Array.getElem?_toList,Array.getElem?_modify];split
      ·rename_i e;subst e;rw[Array.getElem?_eq_getElem ct];simp[ct]
      ·rfl
     rw[e3];exact tg h6 EC
  ·exact hk.elim
 ·exact hk.elim
theorem aV.eraseIdx {B:List Pl} {I:IM}:∀{cs:List V} {l:List Value} (i:Nat),aV B I cs l->aV B I (cs.eraseIdx i) (l.eraseIdx i)
 | [],l,i,h=>by simp only[aV]at h;subst h;simp[aV]
 | c::cs,l,0,h=>by simp only[aV]at h;obtain⟨v,vs,rfl,_,h⟩:=h;simpa using h
 | c::cs,l,i+1,h=>by
  simp only[aV]at h;obtain⟨v,vs,rfl,h1,h⟩:=h;simp only[List.eraseIdx_cons_succ,aV];exact⟨v,_,rfl,h1,aV.eraseIdx i h⟩
theorem Dc {es:Array MapEntry} {clock:Nat} (gi:Bn es clock) {seen:Array Nat} {i:Nat} {e:MapEntry} (he:(leftOf es seen).toList[i]? =some e):(leftOf es (seen.push e.born)).toList=(leftOf es seen).toList.eraseIdx i:=by
 have key:∀(l:List MapEntry) (i:Nat),(l.map (·.born)).Nodup->l[i]? =some e->l.filter (fun x=>x.born !=e.born)=l.eraseIdx i:=by
  intro l;induction l with
  | nil=>intro i _ h;simp at h
  | cons x l ih=>
   intro i hn h;simp only[List.map_cons,List.nodup_cons]at hn;cases i with
   | zero=>
    simp at h;subst h;rw[List.filter_cons,if_neg (by simp),List.eraseIdx_cons_zero];rw[List.filter_eq_self];intro y hy;simp only[bne_iff_ne,ne_eq];intro hc;exact hn.1 (List.mem_map.2 ⟨y,hy,hc⟩)
   | succ i=>
    have h':l[i]? =some e:=by simpa using h
    rw[List.filter_cons,if_pos,List.eraseIdx_cons_succ,ih i hn.2 h'];simp only[bne_iff_ne,ne_eq];intro hc;exact hn.1 (List.mem_map.2 ⟨e,List.mem_of_getElem? h',hc.symm⟩)
 have pg:((leftOf es seen).toList.map (·.born)).Nodup:=by
  have:(leftOf es seen).toList=es.toList.filter (fun e=> !seen.contains e.born):=by simp[leftOf]
  rw[this];exact gi.2.sublist (List.Sublist.map _ List.filter_sublist)
 rw[<-key _ i pg he];simp only[leftOf,Array.toList_filter,List.filter_filter];apply List.filter_congr
 intro x _;rw[Bool.eq_iff_iff];simp only[Array.contains_iff_mem,Array.mem_push,Bool.and_eq_true,Bool.not_eq_true',bne_iff_ne,ne_eq,decide_eq_false_iff_not,Bool.not_eq_eq_eq_not,Bool.not_true,<-Bool.not_eq_true,not_or];constructor
 ·rintro⟨h1,h2⟩;exact⟨h2,h1⟩
 ·rintro⟨h1,h2⟩;exact⟨h2,h1⟩
theorem Rx {t:TypeId} {x:Operand} {x':SX} (ho:o.op=.range t x) (hc:bg P a.tmps.size (.range t x) o.type (.Ev x')=true) (he:cy B I env a.tmps) (hs:cD f B I w H)
 (hk:bd P (.Ev x') env H K):Out f B I K ((execOp a.eval o).run P w):=by
 simp only[bg,Bool.and_eq_true]at hc;obtain⟨hu,h1⟩:=hc;split at hu
 ·rename_i kt e hu';have hx:=bh h1 he;simp only[bd]at hk;split at hk
  ·rename_i ks vs hX;rw[hX]at hx;simp only[aU]at hx;obtain⟨b,es,clock,hv,hI,gi,qp,EA⟩:=hx;have hb:=hs.lH _ _ hI;have j5:leftOf es #[]=es:=by simp[leftOf]
   refine⟨.pointer (some ⟨w.heap.size,0,none⟩),w.alloc (.mapIter (some b) clock #[] clock),_,_,B++ [⟨w.heap.size,0,0,0⟩],I,.inl ?_,hk,?_,eA.append _ _,dY.refl _,?_⟩
   ·simp only[execOp,ho,hv,pd,run_range_map w t kt e b es clock hu' hb,Result.andThen_ok]
   ·refine(hs.nQ (.mapIter (some b) clock #[] clock)).push _ _ ?_ ?_ ?_
    ·exact⟨b,es,clock,clock,#[],clock,rfl,by show(w.heap.push _)[w.heap.size]? =_;simp,hI,gi,gi.1,Nat.le_refl _,Nat.le_refl _,by rw[j5];exact qp,by rw[j5];exact EA,fun k v h=>by cases h⟩
    ·intro i q c h1 h2 hl;have:=(hs.own i q c h1 h2 hl).2.2;simp;omega
    ·refine⟨?_,.inl hs.size,by simp⟩;cases hx:I w.heap.size with
     | none=>rfl
     | some o=>have:=hs.Mu (b:=w.heap.size) (by rw[hx];simp);omega
   ·simp only[aU];exact⟨⟨w.heap.size,0,0,0⟩,by rw[<-hs.len];simp,by simp⟩
  ·exact hk.elim
 ·cases hu
theorem Ry {x:Operand} {x':SX} (ho:o.op=.next x false) (hc:bg P a.tmps.size (.next x false) o.type (.Ew x')=true) (he:cy B I env a.tmps) (hs:cD f B I w H)
 (hk:bd P (.Ew x') env H K):Out f B I K ((execOp a.eval o).run P w):=by
 simp only[bg]at hc;have hx:=bh hc he;simp only[bd]at hk;split at hk
 ·rename_i id hX;rw[hX]at hx;split at hk
  ·rename_i ks vs cur hH;simp only[aU]at hx;obtain⟨p,hp,hv⟩:=hx;obtain⟨b,es,clock,since,seen,c0,g0,g1,g2,g3,g4,g5,g6,g7,g8,_⟩:=hs.ok _ _ _ hp hH;have hb:=hs.lH _ _ g2;have WC:a.eval x=.pointer (some ⟨p.dI,0,none⟩):=by rw[hv,g0];simp
   rcases run_next_at (P:=P) w o.type p.dI b since c0 seen es clock g1 hb g4 g5 with⟨h0,cV⟩ | ⟨e,hem,w1,zL,cV⟩
   ·have hl:(leftOf es seen).toList=[]:=by
     have:leftOf es seen= #[]:=Array.eq_empty_of_size_eq_zero h0;rw[this]
    rw[hl]at g7;have qp:ks=[]:=by
     cases ks with
     | nil=>rfl
     | cons=>simp[aV]at g7
    refine Out.quiet (v:=.tuple #[.bool false]) ?_ (hk.1 qp) hs (by simp only[aU];exact⟨_,rfl,by simp[aV,aU]⟩);simp only[execOp,ho,pd,WC,cV,Result.andThen_ok]
   ·obtain⟨i,hi⟩:=List.getElem?_of_mem hem;obtain⟨k,iT⟩:∃k,ks[i]? =some k:=by
     have:=g7.length;rw[List.length_map]at this;exact⟨ks[i]'(by rw[this];exact(List.getElem?_eq_some_iff.1 hi).1),List.getElem?_eq_getElem _⟩
    obtain⟨v,MV⟩:∃v,vs[i]? =some v:=by
     have:=g8.length;rw[List.length_map]at this;exact⟨vs[i]'(by rw[this];exact(List.getElem?_eq_some_iff.1 hi).1),List.getElem?_eq_getElem _⟩
    obtain⟨ku,X7,j7⟩:=g7.get iT;obtain⟨vu,X8,EC⟩:=g8.get MV;rw[List.getElem?_map,hi]at X7 X8;simp at X7 X8;subst X7 X8;have u5:cD f B I w1 H:=by rcases zL with rfl | rfl;exact hs;exact hs.drew
    have gh:=(u5.own _ _ _ hp hH rfl).2.2;have xS:=Dc g3 hi;refine⟨.tuple #[.bool true,e.key,e.val],Go.ChangeMaps.setBlock w1 p.dI (.mapIter (some b) since (seen.push e.born) clock),_,_,B,I,.inl ?_,hk.2 i k v iT MV,?_,eA.refl _,dY.refl _,?_⟩
    ·simp only[execOp,ho,pd,WC,cV,Result.andThen_ok]
    ·refine u5.rewriteO hp hH rfl gh ⟨b,es,clock,since,seen.push e.born,clock,g0,by show(w1.heap.setIfInBounds _ _)[_]? =_;simp[gh],g2,g3,g4,g6,g6,?_,?_,fun k' v' hc=> ?_⟩
     ·rw[xS,Go.ChangeMaps.map_eraseIdx];exact g7.eraseIdx i
     ·rw[xS,Go.ChangeMaps.map_eraseIdx];exact g8.eraseIdx i
     ·cases hc;exact⟨e,(mem_left hem).1,by simp,rfl,j7,EC⟩
    ·simp only[aU];exact⟨_,rfl,by simp only[aV,aU];exact⟨_,_,rfl,rfl,_,_,rfl,j7,_,_,rfl,EC,rfl⟩⟩
  ·exact hk.elim
 ·exact hk.elim
theorem Rz {x:Operand} {x':SX} (ho:o.op=.entry x) (hc:bg P a.tmps.size (.entry x) o.type (.Ey x')=true) (he:cy B I env a.tmps) (hs:cD f B I w H)
 (hk:bd P (.Ey x') env H K):Out f B I K ((execOp a.eval o).run P w):=by
 simp only[bg]at hc;have hx:=bh hc he;simp only[bd]at hk;split at hk
 ·rename_i id hX;rw[hX]at hx;split at hk
  ·rename_i ks vs k v hH;simp only[aU]at hx;obtain⟨p,hp,hv⟩:=hx;obtain⟨b,es,clock,since,seen,c0,g0,g1,g2,g3,g4,g5,g6,g7,g8,g9⟩:=hs.ok _ _ _ hp hH;obtain⟨e,e1,e2,e3,e4,e5⟩:=g9 k v rfl;have hb:=hs.lH _ _ g2;have WC:a.eval x=.pointer (some ⟨p.dI,0,none⟩):=by rw[hv,g0];simp
   have hf:es.find? (·.born==e.born)=some e:=by rw[<-Array.find?_toList];exact find_born e es.toList g3.2 e1
   have cV:(Instr.entry (.pointer (some ⟨p.dI,0,none⟩))).run P w=.ok (.tuple #[e.key,e.val]) w:=by
    simp only[Instr.entry,getObj,Sem.run_bind,Sem.run,g1,hb,Result.andThen,e2,e3,bne_self_eq_false,Bool.false_eq_true,if_false,hf];rfl
   refine Out.quiet (v:=.tuple #[e.key,e.val]) ?_ hk hs (by simp only[aU];exact⟨_,rfl,by simp only[aV];exact⟨_,_,rfl,e4,_,_,rfl,e5,rfl⟩⟩);simp only[execOp,ho,pd,WC,cV,Result.andThen_ok]
  ·exact hk.elim
 ·exact hk.elim
theorem X9 {c:Call} {mx:Bool} {x' y':SX} (ho:o.op=.call c) (hc:bg P a.tmps.size (.call c) o.type (.mm mx x' y')=true) (he:cy B I env a.tmps) (hs:cD f B I w H)
 (hk:bd P (.mm mx x' y') env H K):Out f B I K ((execOp a.eval o).run P w):=by
 simp only[bg]at hc;split at hc
 ·rename_i b u v t1 t2 rW eD IN;simp only[Bool.and_eq_true,decide_eq_true_eq]at hc;obtain⟨⟨⟨hb,_⟩,h1⟩,h2⟩:=hc;have hx:=bh h1 he;have hy:=bh h2 he;have ha:c.args= #[u,v]:=by apply Array.toList_inj.1;simpa using eD
  simp only[bd]at hk;split at hk
  ·rename_i k n k' m e1 e2;obtain⟨rfl,hk⟩:=hk;rw[e1]at hx;rw[e2]at hy;simp only[aU]at hx hy;refine Out.quiet (v:=.int k (if mx then(if n<m then m else n)else(if m<n then m else n))) ?_ hk hs (by simp only[aU]);subst hb;cases mx
   ·simp[execOp,ho,resolve,rW,ha,invoke,builtin,Builtin.min_,Builtin.min2,hx,hy]
   ·simp[execOp,ho,resolve,rW,ha,invoke,builtin,Builtin.max_,Builtin.max2,hx,hy]
  ·exact hk.elim
 ·cases hc
end
def SX.tm:SX->List Nat
 | .tmp t=> [t]
 | .val _=> []
def Ya:Option SX->List Nat
 | none=> []
 | some x=>x.tm
def o5.tmps:o5->List Nat
 | .H7 x | .box x | .b5 x | .un _ x | .conv _ x | .sS x | .nB _ x | .field _ _ _ x | .extract x _ | .len _ x | .load _ _ x=>x.tm
 | .pick c a b=>c.tm++a.tm++b.tm
 | .alloc _=> []
 | .nS t=> [t]
 | .o6=> []
 | .du=> []
 | .rU _ x=>x.tm
 | .gm=> []
 | .Eu _ x=>x.tm
 | .eu _ _ _ x k=>x.tm++k.tm
 | .kG _ x k v=>x.tm++k.tm++v.tm
 | .uY _ _ x k=>x.tm++k.tm
 | .uZ x s v=>x.tm++s.tm++v.tm
 | .Ev x=>x.tm
 | .Ew x=>x.tm
 | .Ey x=>x.tm
 | .mm _ x y=>x.tm++y.tm
 | .aJ _ xs=>xs.flatMap SX.tm
 | .build _ ps=>ps.flatMap fun p=>p.2.2.tm
 | .jW _ xs=>xs.flatMap SX.tm
 | .store _ a x=>a.tm++x.tm
 | .bin _ x y | .beq _ x y | .gk _ x y | .uX x y | .append _ _ x y=>x.tm++y.tm
 | .fC _ a b=>a.flatMap SX.tm++b.flatMap SX.tm
 | .slice _ x lo hi | .x9 x lo hi=>x.tm++Ya lo++Ya hi
 | .call f as=>f.tm++as.flatMap SX.tm
abbrev Env:=Nat->V
theorem bI {e e':Env} {x:SX} (h:∀t∈x.tm,e t=e' t):dp e x=dp e' x:=by
 cases x with
 | tmp t=>exact h t (by simp[SX.tm])
 | val v=>rfl
theorem jh {e e':Env} {xs:List SX} (h:∀t∈xs.flatMap SX.tm,e t=e' t):xs.map (dp e)=xs.map (dp e'):=by
 apply List.map_congr_left
 intro x hx;exact bI fun t ht=>h t (List.mem_flatMap.2 ⟨x,hx,ht⟩)
theorem vC {e e':Env} {d:Int} {x:Option SX} (h:∀t∈Ya x,e t=e' t):EY e d x=EY e' d x:=by
 cases x with
 | none=>rfl
 | some x=>simp only[EY,bI (x:=x) h]
theorem Ah {P:Program} {o:o5} {e e':Env} {H:List ak} {K:V->List ak->Prop} (h:∀t∈o.tmps,e t=e' t) (hx:bd P o e H K):bd P o e' H K:=by
 cases o with
 | H7 x | box x | b5 x | un op x | conv k x | sS x | nB off x | field g off n x | extract x i | len s x | load g n x=>
  simp only[bd,bI (x:=x) h]at hx⊢;exact hx
 | pick c a b=>
  simp only[o5.tmps,List.mem_append]at h;simp only[bd,bI (x:=c) (fun t ht=>h t (.inl (.inl ht))),bI (x:=a) (fun t ht=>h t (.inl (.inr ht))),bI (x:=b) (fun t ht=>h t (.inr ht))]at hx⊢;exact hx
 | alloc z=>exact hx
 | build z ps=>
  have:(ps.map fun p=>(p.1,p.2.1,dp e p.2.2))=ps.map fun p=>(p.1,p.2.1,dp e' p.2.2):=by
   apply List.map_congr_left
   intro p hp;rw[bI fun t ht=>h t (List.mem_flatMap.2 ⟨p,hp,ht⟩)]
  simp only[bd,this]at hx⊢;exact hx
 | jW esz xs=>simp only[bd,jh (xs:=xs) h]at hx⊢;exact hx
 | store n a x=>
  simp only[o5.tmps,List.mem_append]at h;simp only[bd,bI (x:=a) (fun t ht=>h t (.inl ht)),bI (x:=x) (fun t ht=>h t (.inr ht))]at hx⊢;exact hx
 | bin op x y | beq op x y | gk op x y | uX x y | append esz bytes x y=>
  simp only[o5.tmps,List.mem_append]at h;simp only[bd,bI (x:=x) (fun t ht=>h t (.inl ht)),bI (x:=y) (fun t ht=>h t (.inr ht))]at hx⊢;exact hx
 | fC g a b=>
  simp only[o5.tmps,List.mem_append]at h;simp only[bd,jh (xs:=a) (fun t ht=>h t (.inl ht)),jh (xs:=b) (fun t ht=>h t (.inr ht))]at hx⊢;exact hx
 | slice esz x lo hi=>
  simp only[o5.tmps,List.mem_append]at h;simp only[bd,bI (x:=x) (fun t ht=>h t (.inl (.inl ht))),fun d=>vC (d:=d) (x:=lo) (fun t ht=>h t (.inl (.inr ht))),fun d=>vC (d:=d) (x:=hi) (fun t ht=>h t (.inr ht))]at hx⊢;exact hx
 | x9 x lo hi=>exact hx
 | o6=>exact hx
 | gm=>exact hx
 | Eu z x=>simp only[bd,bI (x:=x) h]at hx⊢;exact hx
 | eu sh ok z x k=>
  simp only[o5.tmps,List.mem_append]at h;simp only[bd,bI (x:=x) (fun t ht=>h t (.inl ht)),bI (x:=k) (fun t ht=>h t (.inr ht))]at hx⊢;exact hx
 | kG sh x k v=>
  simp only[o5.tmps,List.mem_append]at h;simp only[bd,bI (x:=x) (fun t ht=>h t (.inl (.inl ht))),bI (x:=k) (fun t ht=>h t (.inl (.inr ht))),bI (x:=v) (fun t ht=>h t (.inr ht))]at hx⊢;exact hx
 | uY sh z x k=>
  simp only[o5.tmps,List.mem_append]at h;simp only[bd,bI (x:=x) (fun t ht=>h t (.inl ht)),bI (x:=k) (fun t ht=>h t (.inr ht))]at hx⊢;exact hx
 | uZ x s v=>
  simp only[o5.tmps,List.mem_append]at h;simp only[bd,bI (x:=x) (fun t ht=>h t (.inl (.inl ht))),bI (x:=s) (fun t ht=>h t (.inl (.inr ht))),bI (x:=v) (fun t ht=>h t (.inr ht))]at hx⊢;exact hx
 | du=>exact hx
 | Ev x=>simp only[bd,bI (x:=x) h]at hx⊢;exact hx
 | Ew x=>simp only[bd,bI (x:=x) h]at hx⊢;exact hx
 | Ey x=>simp only[bd,bI (x:=x) h]at hx⊢;exact hx
 | mm mx x y=>
  simp only[o5.tmps,List.mem_append]at h;simp only[bd,bI (x:=x) (fun t ht=>h t (.inl ht)),bI (x:=y) (fun t ht=>h t (.inr ht))]at hx⊢;exact hx
 | rU neg x=>simp only[bd,bI (x:=x) h]at hx⊢;exact hx
 | nS t=>simp only[bd,h t (by simp[o5.tmps])]at hx⊢;exact hx
 | aJ esz xs=>simp only[bd,jh (xs:=xs) h]at hx⊢;exact hx
 | call f as=>
  simp only[o5.tmps,List.mem_append]at h;simp only[bd,bI (x:=f) (fun t ht=>h t (.inl ht)),jh (xs:=as) (fun t ht=>h t (.inr ht))]at hx⊢;exact hx
def bX (v:V) (H1:List ak):V->List ak->Prop:=fun r H=>r=v/\H=H1
def eX (P:Program) (o:cK) (e:Env) (H:List ak) (v:V) (H1:List ak):Prop:=
 match o.guard with
 | none=>bd P o.op e H (bX v H1)
 | some (t,want)=>match e t with
  | .bool b=>if b=want then bd P o.op e H (bX v H1)else v=.iP/\H1=H
  | .iP=>v=.iP/\H1=H
  | _=>False
def QO.tmps (q:QO):List Nat:=(match q.o.guard with | none=> [] | some (t,_)=> [t])++q.o.op.tmps
theorem yy {P:Program} {q:QO} {e e':Env} {H H1:List ak} {v:V} (h:∀t∈q.tmps,e t=e' t) (hx:eX P q.o e H v H1):eX P q.o e' H v H1:=by
 have xR:∀K,bd P q.o.op e H K->bd P q.o.op e' H K:=fun K=>Ah fun t ht=>h t (by simp[QO.tmps,ht])
 unfold eX at*
 cases hg:q.o.guard with
 | none=>rw[hg]at hx;exact xR _ hx
 | some tw=>
  obtain⟨t,want⟩:=tw;rw[hg]at hx;have ht:=h t (by simp[QO.tmps,hg]);simp only at hx⊢;rw[<-ht];cases hv:e t<;>rw[hv]at hx<;>first | exact hx | exact hx.elim | skip
  simp only at hx⊢;split
  ·rename_i hb;rw[if_pos hb]at hx;exact xR _ hx
  ·rename_i hb;rw[if_neg hb]at hx;exact hx
def kh (P:Program):List QO->Env->List ak->List (List ak)->List (Env×V)->(List (Env×V)->List (List ak)->Env->List ak->Prop)->Prop
 | [],e,H,Hs,tr,k=>k tr Hs e H
 | q::rest,e,H,Hs,tr,k=>match q.ld with
  | true=>∃v H1,eX P q.o e H v H1/\kh P rest (fh e q.o.dst v) H1 (Hs++ [H1]) (tr++ [(e,v)]) k
  | false=>∃v,eX P q.o e H v H/\kh P rest (fh e q.o.dst v) H Hs (tr++ [(e,v)]) k
def Bx (P:Program) (q:QO) (e:Env) (v:V) (Hs:List (List ak)):Nat->Nat->Prop
 | 0,r=>eX P q.o e (Hs.getD r []) v (Hs.getD r [])
 | c+1,r=>eX P q.o e (Hs.getD r []) v (Hs.getD r [])/\Bx P q e v Hs c (r+1)
def pv (P:Program):List QO->List (Env×V)->List (List ak)->Prop
 | q::qs,(e,v)::tr,Hs=>(match q.ld || q.lo==q.hi with | true=>True | false=>Bx P q e v Hs (q.hi - q.lo) q.lo)/\pv P qs tr Hs
 | _,_,_=>True
inductive GR (P:Program):List QO->Env->List ak->List (Env×V)->List (List ak)->Env->List ak->Prop
 | nil {e H}:GR P [] e H [] [] e H
 | I5 {q rest e H v H1 tr Hs e' H'}:q.ld=true->eX P q.o e H v H1->GR P rest (fh e q.o.dst v) H1 tr Hs e' H'->GR P (q::rest) e H ((e,v)::tr) (H1::Hs) e' H'
 | quiet {q rest e H v tr Hs e' H'}:q.ld=false->eX P q.o e H v H->GR P rest (fh e q.o.dst v) H tr Hs e' H'->GR P (q::rest) e H ((e,v)::tr) Hs e' H'
theorem GR.of_run {P:Program}:∀{ss:List QO} {e:Env} {H:List ak} {WD:List (List ak)} {tr0:List (Env×V)} {k:List (Env×V)->List (List ak)->Env->List ak->Prop},
 kh P ss e H WD tr0 k->∃tr Hs e' H',GR P ss e H tr Hs e' H'/\k (tr0++tr) (WD++Hs) e' H'
 | [],e,H,WD,tr0,k,h=>⟨[],[],e,H,.nil,by simpa[kh]using h⟩
 | q::rest,e,H,WD,tr0,k,h=>by
  simp only[kh]at h;cases hl:q.ld with
  | true=>
   rw[hl]at h;obtain⟨v,H1,hs,h⟩:=h;obtain⟨tr,Hs,e',H',hg,hk⟩:=GR.of_run h;exact⟨(e,v)::tr,H1::Hs,e',H',.I5 hl hs hg,by simpa using hk⟩
  | false=>
   rw[hl]at h;obtain⟨v,hs,h⟩:=h;obtain⟨tr,Hs,e',H',hg,hk⟩:=GR.of_run h;exact⟨(e,v)::tr,Hs,e',H',.quiet hl hs hg,by simpa using hk⟩
def rk (ss:List QO) (i:Nat):Nat:=((ss.take i).filter (·.ld)).length
theorem px (ss:List QO):rk ss 0=0:=by simp[rk]
theorem wH {ss:List QO} {j:Nat} {q:QO} (h:ss[j]? =some q):rk ss (j+1)=rk ss j+(if q.ld then 1 else 0):=by
 unfold rk
 rw[List.take_add_one,h];cases hq:q.ld<;>simp[List.filter_append,hq]
theorem wI {ss:List QO} {i j:Nat} (h:i<=j):rk ss i<=rk ss j:=by
 unfold rk
 have:ss.take i=(ss.take j).take i:=by rw[List.take_take,Nat.min_eq_left h]
 rw[this];have h2:=List.Sublist.filter (·.ld) (List.take_sublist i (ss.take j));exact h2.length_le
def ti (tr:List (Env×V)) (e':Env) (j:Nat):Env:=match tr[j]? with
 | some p=>p.1
 | none=>e'
def tj (tr:List (Env×V)) (j:Nat):V:=match tr[j]? with
 | some p=>p.2
 | none=> .any
theorem GR.length {P:Program} {ss:List QO} {e e':Env} {H H':List ak} {tr:List (Env×V)} {Hs:List (List ak)} (h:GR P ss e H tr Hs e' H'):tr.length=ss.length:=by
 induction h with
 | nil=>rfl
 | I5 _ _ _ ih=>simp[ih]
 | quiet _ _ _ ih=>simp[ih]
theorem GR.bW {P:Program} {ss:List QO} {e e':Env} {H H':List ak} {tr:List (Env×V)} {Hs:List (List ak)} (h:GR P ss e H tr Hs e' H'):ti tr e' 0=e:=by
 cases h<;>rfl
theorem jG {q:QO} {ss:List QO} {j:Nat}:rk (q::ss) (j+1)=(if q.ld then 1 else 0)+rk ss j:=by
 unfold rk
 cases hq:q.ld<;>simp[hq];omega
theorem GR.step {P:Program} {ss:List QO} {e e':Env} {H H':List ak} {tr:List (Env×V)} {Hs:List (List ak)} (h:GR P ss e H tr Hs e' H'):
 ∀(j:Nat) q,ss[j]? =some q->eX P q.o (ti tr e' j) ((H::Hs).getD (rk ss j) []) (tj tr j) ((H::Hs).getD (rk ss (j+1)) [])/\ti tr e' (j+1)=fh (ti tr e' j) q.o.dst (tj tr j):=by
 induction h with
 | nil=>intro j q hq;simp at hq
 | @I5 q rest e H v H1 tr Hs e' H' hl hs hg ih=>
  intro j x hx;cases j with
  | zero=>
   simp at hx;subst hx;refine⟨?_,?_⟩
   ·have:rk (q::rest) (0+1)=1:=by rw[jG,px,hl];rfl
    rw[this,px];exact hs
   ·have:=hg.bW;exact this
  | succ j=>
   obtain⟨h1,h2⟩:=ih j x (by simpa using hx);refine⟨?_,h2⟩;rw[jG,jG,hl];have e1:∀r,(H::H1::Hs).getD ((if true=true then 1 else 0)+r) []=(H1::Hs).getD r []:=by
    intro r;rw[if_pos rfl,Nat.add_comm];rfl
   rw[e1,e1];exact h1
 | @quiet q rest e H v tr Hs e' H' hl hs hg ih=>
  intro j x hx;cases j with
  | zero=>
   simp at hx;subst hx;refine⟨?_,hg.bW⟩;have:rk (q::rest) (0+1)=0:=by rw[jG,px,hl];rfl
   rw[this,px];exact hs
  | succ j=>
   obtain⟨h1,h2⟩:=ih j x (by simpa using hx);refine⟨?_,h2⟩;rw[jG,jG,hl];have e1:∀r,(H::Hs).getD ((if false=true then 1 else 0)+r) []=(H::Hs).getD r []:=by
    intro r;simp
   rw[e1,e1];exact h1
theorem GR.final {P:Program} {ss:List QO} {e e':Env} {H H':List ak} {tr:List (Env×V)} {Hs:List (List ak)} (h:GR P ss e H tr Hs e' H'):
 ti tr e' ss.length=e'/\(H::Hs).getD (rk ss ss.length) []=H':=by
 induction h with
 | nil=>exact⟨rfl,rfl⟩
 | @I5 q rest e H v H1 tr Hs e' H' hl hs hg ih=>
  refine⟨ih.1,?_⟩;rw[List.length_cons,jG,hl,if_pos rfl,Nat.add_comm];exact ih.2
 | @quiet q rest e H v tr Hs e' H' hl hs hg ih=>
  refine⟨ih.1,?_⟩;rw[List.length_cons,jG,hl];simpa using ih.2
theorem tk {P:Program} {q:QO} {e:Env} {v:V} {Hs:List (List ak)}:∀{c r0:Nat},Bx P q e v Hs c r0->∀r,r0<=r->r<=r0+c->eX P q.o e (Hs.getD r []) v (Hs.getD r [])
 | 0,r0,h,r,h1,h2=>by
  have:r=r0:=by omega
  subst this;exact h
 | c+1,r0,h,r,h1,h2=>by
  by_cases hr:r=r0
  ·subst hr;exact h.1
  ·exact tk h.2 r (by omega) (by omega)
theorem tn {P:Program} {Hs:List (List ak)}:∀{ss:List QO} {tr:List (Env×V)},tr.length=ss.length->pv P ss tr Hs->∀(j:Nat) q e v,ss[j]? =some q->tr[j]? =some (e,v)->q.ld=false->q.lo≠q.hi->
 ∀r,q.lo<=r->r<=q.hi->eX P q.o e (Hs.getD r []) v (Hs.getD r [])
 | [],_,_,_,j,q,e,v,h1,_,_,_,_,_,_=>by simp at h1
 | q0::qs,[],hl,_,_,_,_,_,_,h2,_,_,_,_,_=>by simp at h2
 | q0::qs,(e0,v0)::tr,hl,hs,j,q,e,v,h1,h2,Ai,dr,r,Bu,lJ=>by
  cases j with
  | zero=>
   simp at h1 h2;obtain⟨rfl,rfl⟩:=h2;subst h1;have h3:=hs.1;have:(q0.ld || q0.lo==q0.hi)=false:=by simp[Ai,dr]
   rw[this]at h3;exact tk h3 r Bu (by omega)
  | succ j=>exact tn (by simpa using hl) hs.2 j q e v (by simpa using h1) (by simpa using h2) Ai dr r Bu lJ
end Go.Proofs.YtdgoeblpcnjlbaaGreatDoor.Av

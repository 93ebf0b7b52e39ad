/- ReadsFound. Text 1 of 17. -/
import Derived.Tactics
import Derived.Below
import Derived.Deep.LoopGhost
import Derived.Laws.NewBlocks
import Derived.Laws.CopyRow
import Derived.Laws.AppendOwn
import Derived.Maps.RangeRun
import Derived.Deep.Quiet
import Derived.KernelRfl
import Derived.Laws.Tables
import Derived.Laws.Rows
import Derived.Laws.Strings
import Derived.Laws.Small
import Derived.Laws.Slices
set_option linter.all false
set_option maxRecDepth 100000
set_option maxHeartbeats 64000000
namespace Go.Proofs.YtdgoeblpcnjlbaaGreatDoor.Av
open Go.RowKit List
inductive V where
 | any
 | iP
 | bool (b:Bool)
 | int (k:IntKind) (n:Int)
 | str (s:ByteArray)
 | kb
 | ptr (id i c:Nat)
 | bc (cells:List V)
 | ag
 | emp
 | fs (elems:List V)
 | ms (id off len:Nat)
 | cG
 | map (id:Nat)
 | db (keys vals:List V)
 | qH
 | a6 (f:FuncId) (first bB:List V)
 | agg (cells:List V)
 | dJ (vs:List V)
 | x7
 | iface (t:TypeId) (v:V)
 deriving Inhabited
def aw:V->List V
 | .agg cs=>cs
 | v=> [v]
structure Pl where
 dI:Nat
 base:Nat
 size:Nat
 esz:Nat
abbrev IM:=Nat->Option Obj
def Bn (es:Array MapEntry) (clock:Nat):Prop:=(∀x∈es.toList,x.born<clock)/\(es.toList.map (·.born)).Nodup
def BnI (es:Array MapEntry) (clock:Nat):Prop:=clock=es.size/\es.toList.map (·.born)=List.range es.size
theorem BnI.bn {es:Array MapEntry} {clock:Nat} (h:BnI es clock):Bn es clock:=by
 refine⟨fun x hx=> ?_,by rw[h.2];exact List.nodup_range⟩;have:x.born∈es.toList.map (·.born):=List.mem_map.2 ⟨x,hx,rfl⟩;rw[h.2,List.mem_range]at this;rw[h.1];exact this
theorem BnI.at {es:Array MapEntry} {clock:Nat} (h:BnI es clock) {i:Nat} {e:MapEntry} (he:es[i]? =some e):e.born=i:=by
 have h1:(es.toList.map (·.born))[i]? =some e.born:=by rw[List.getElem?_map,Array.getElem?_toList,he];rfl
 rw[h.2,List.getElem?_range (Array.getElem?_eq_some_iff.1 he).1]at h1;simpa using h1.symm
def jD (I:IM) (b o:Nat):Option Value:=
 match I b with
 | some (.cells c _ _)=>c[o]?
 | _=>none
mutual
def aU (B:List Pl) (I:IM):V->Value->Prop
 | .any,_=>True
 | .iP,v=>v=undef
 | .bool b,v=>v=.bool b
 | .int k n,v=>v=.int k n
 | .str s,v=>v=.string s/\s.size<=maxLen
 | .kb,v=>v=.pointer none
 | .ptr id i c,v=>∃p,B[id]? =some p/\v=.pointer (some ⟨p.dI,p.base+i*p.esz+c,none⟩)
 | .bc cells,v=>∃b o,v=.pointer (some ⟨b,o,none⟩)/\cI B I cells (jD I b) o
 | .ag,v=>v=.slice none 0 0
 | .emp,v=>∃a,v=.slice a 0 0
 | .fs elems,v=>∃a cap,v=.slice a elems.length cap/\elems.length<=cap/\cap<=maxLen/\
    (elems=[]\/∃b o sz,a=some ⟨b,o,none⟩/\bK B I elems (jD I b) sz o)
 | .ms id off len,v=>∃p a cap,B[id]? =some p/\v=.slice a len cap/\(0<cap->a=some ⟨p.dI,p.base+off*p.esz,none⟩)/\len<=cap/\cap<=maxLen/\
    p.base+(off+cap)*p.esz<=p.size
 | .cG,v=>v=.map none
 | .map id,v=>∃p,B[id]? =some p/\v=.map (some p.dI)
 | .db ks vs,v=>∃b es clock,v=.map (some b)/\I b=some (.map es clock)/\Bn es clock/\aV B I ks (es.toList.map (·.key))/\aV B I vs (es.toList.map (·.val))
 | .qH,v=>v=.nilFunc
 | .a6 f first bB,v=>∃fs cs:Array Value,v=.func (.func f) fs cs/\aV B I first fs.toList/\aV B I bB cs.toList
 | .agg cells,v=>∃cs:Array Value,v=.agg cs/\aV B I cells cs.toList
 | .dJ vs,v=>∃cs:Array Value,v=.tuple cs/\aV B I vs cs.toList
 | .x7,v=>v=.nilIface
 | .iface t x,v=>∃u,v=.iface t u/\aU B I x u
def aV (B:List Pl) (I:IM):List V->List Value->Prop
 | [],l=>l=[]
 | c::cs,l=>∃v vs,l=v::vs/\aU B I c v/\aV B I cs vs
def cI (B:List Pl) (I:IM):List V->(Nat->Option Value)->Nat->Prop
 | [],_,_=>True
 | c::cs,g,o=>(∃v,g o=some v/\aU B I c v)/\cI B I cs g (o+1)
def bK (B:List Pl) (I:IM):List V->(Nat->Option Value)->Nat->Nat->Prop
 | [],_,_,_=>True
 | .agg cs::es,g,sz,o=>cs.length=sz/\cI B I cs g o/\bK B I es g sz (o+sz)
 | e::es,g,sz,o=>sz=1/\(∃v,g o=some v/\aU B I e v)/\bK B I es g sz (o+sz)
end
theorem fe {B:List Pl} {I:IM} {e:V} {es:List V} {g:Nat->Option Value} {sz o:Nat}:
 bK B I (e::es) g sz o↔(aw e).length=sz/\cI B I (aw e) g o/\bK B I es g sz (o+sz):=by
 cases e<;>simp[bK,aw,cI,eq_comm,and_assoc]
def dY (I I':IM):Prop:=∀b o,I b=some o->I' b=some o
def eA (B B':List Pl):Prop:=∀(i:Nat) p,B[i]? =some p->B'[i]? =some p
theorem dY.refl (I:IM):dY I I:=fun _ _ h=>h
theorem eA.refl (B:List Pl):eA B B:=fun _ _ h=>h
theorem dY.trans {I J K:IM} (h:dY I J) (k:dY J K):dY I K:=fun b o x=>k b o (h b o x)
theorem eA.trans {I J K:List Pl} (h:eA I J) (k:eA J K):eA I K:=fun b o x=>k b o (h b o x)
theorem eA.append (B C:List Pl):eA B (B++C):=fun i p h=>by
 have:=(List.getElem?_eq_some_iff.1 h).1;rw[List.getElem?_append_left this];exact h
theorem sR {I I':IM} (h:dY I I') {b o:Nat} {v:Value} (e:jD I b o=some v):jD I' b o=some v:=by
 unfold jD at*
 cases hb:I b with
 | none=>rw[hb]at e;cases e
 | some x=>rw[hb]at e;rw[h b x hb];exact e
theorem fg {B:List Pl} {I:IM} {g:Nat->Option Value}:∀{cs:List V} {o:Nat},
 cI B I cs g o↔∀(j:Nat) c,cs[j]? =some c->∃v,g (o+j)=some v/\aU B I c v
 | [],o=>by simp[cI]
 | c::cs,o=>by
  simp only[cI,fg (cs:=cs)];constructor
  ·rintro⟨h0,h⟩ j x hj;cases j with
   | zero=>simp at hj;subst hj;exact h0
   | succ j=>have:=h j x (by simpa using hj);rwa[show o+1+j=o+(j+1) by omega]at this
  ·intro h;refine⟨h 0 c (by simp),fun j x hj=> ?_⟩;have:=h (j+1) x (by simpa using hj);rwa[show o+1+j=o+(j+1) by omega]
theorem ch {B:List Pl} {I:IM} {g:Nat->Option Value} {sz:Nat}:∀{es:List V} {o:Nat},
 bK B I es g sz o↔∀(i:Nat) e,es[i]? =some e->(aw e).length=sz/\∀(j:Nat) c,(aw e)[j]? =some c->∃v,g (o+i*sz+j)=some v/\aU B I c v
 | [],o=>by simp[bK]
 | e::es,o=>by
  rw[fe];simp only[fg,ch (es:=es)];constructor
  ·rintro⟨hl,h0,h⟩ i x hi;cases i with
   | zero=>simp at hi;subst hi;exact⟨hl,fun j c hj=>by simpa using h0 j c hj⟩
   | succ i=>
    obtain⟨h1,h2⟩:=h i x (by simpa using hi);refine⟨h1,fun j c hj=> ?_⟩;have:=h2 j c hj;rwa[show o+sz+i*sz=o+(i+1)*sz by rw[Nat.add_mul];omega]at this
  ·intro h;obtain⟨h1,h2⟩:=h 0 e (by simp);refine⟨h1,fun j c hj=>by simpa using h2 j c hj,fun i x hi=> ?_⟩;obtain⟨h3,h4⟩:=h (i+1) x (by simpa using hi);refine⟨h3,fun j c hj=> ?_⟩;have:=h4 j c hj;rwa[show o+(i+1)*sz=o+sz+i*sz by rw[Nat.add_mul];omega]at this
theorem uW {B:List Pl} {I:IM} {g g':Nat->Option Value} (hg:∀o v,g o=some v->g' o=some v) {cs:List V} {o:Nat} (h:cI B I cs g o):cI B I cs g' o:=by
 rw[fg]at*;intro j c hj;obtain⟨v,h1,h2⟩:=h j c hj;exact⟨v,hg _ _ h1,h2⟩
theorem nA {B:List Pl} {I:IM} {g g':Nat->Option Value} (hg:∀o v,g o=some v->g' o=some v) {cs:List V} {o sz:Nat} (h:bK B I cs g sz o):bK B I cs g' sz o:=by
 rw[ch]at*;intro i e hi;obtain⟨h0,h1⟩:=h i e hi;refine⟨h0,fun j c hj=> ?_⟩;obtain⟨v,h1,h2⟩:=h1 j c hj;exact⟨v,hg _ _ h1,h2⟩
mutual
theorem aU.mono {B B':List Pl} {I I':IM} (hB:eA B B') (hI:dY I I'):∀{x:V} {v:Value},aU B I x v->aU B' I' x v
 | .any,_,h=>by simp[aU]
 | .iP,_,h=>by simpa[aU]using h
 | .bool _,_,h=>by simpa[aU]using h
 | .int _ _,_,h=>by simpa[aU]using h
 | .str _,_,h=>by simpa[aU]using h
 | .kb,_,h=>by simpa[aU]using h
 | .ptr id i c,_,h=>by
  simp only[aU]at*;obtain⟨p,h1,h2⟩:=h;exact⟨p,hB _ _ h1,h2⟩
 | .bc cells,_,h=>by
  simp only[aU]at*;obtain⟨b,o,h1,h2⟩:=h;exact⟨b,o,h1,uW (fun _ _=>sR hI) (cI.mono hB hI h2)⟩
 | .ag,_,h=>by simpa[aU]using h
 | .emp,_,h=>by simpa[aU]using h
 | .fs elems,_,h=>by
  simp only[aU]at*;obtain⟨a,cap,h1,h2,h3,h4⟩:=h;refine⟨a,cap,h1,h2,h3,?_⟩;rcases h4 with h4 | ⟨b,o,sz,h5,h6⟩
  ·exact .inl h4
  ·exact .inr ⟨b,o,sz,h5,nA (fun _ _=>sR hI) (bK.mono hB hI h6)⟩
 | .ms id off len,_,h=>by
  simp only[aU]at*;obtain⟨p,a,cap,h1,h2⟩:=h;exact⟨p,a,cap,hB _ _ h1,h2⟩
 | .cG,_,h=>by simpa[aU]using h
 | .map id,_,h=>by
  simp only[aU]at*;obtain⟨p,h1,h2⟩:=h;exact⟨p,hB _ _ h1,h2⟩
 | .db ks vs,_,h=>by
  simp only[aU]at*;obtain⟨b,es,clock,h1,h2,h0,h3,h4⟩:=h;exact⟨b,es,clock,h1,hI _ _ h2,h0,aV.mono hB hI h3,aV.mono hB hI h4⟩
 | .qH,_,h=>by simpa[aU]using h
 | .a6 f first bB,_,h=>by
  simp only[aU]at*;obtain⟨fs,cs,h1,h2,h3⟩:=h;exact⟨fs,cs,h1,aV.mono hB hI h2,aV.mono hB hI h3⟩
 | .agg cells,_,h=>by
  simp only[aU]at*;obtain⟨cs,h1,h2⟩:=h;exact⟨cs,h1,aV.mono hB hI h2⟩
 | .dJ cells,_,h=>by
  simp only[aU]at*;obtain⟨cs,h1,h2⟩:=h;exact⟨cs,h1,aV.mono hB hI h2⟩
 | .x7,_,h=>by simpa[aU]using h
 | .iface t x,_,h=>by
  simp only[aU]at*;obtain⟨u,h1,h2⟩:=h;exact⟨u,h1,aU.mono hB hI h2⟩
theorem aV.mono {B B':List Pl} {I I':IM} (hB:eA B B') (hI:dY I I'):∀{xs:List V} {l:List Value},aV B I xs l->aV B' I' xs l
 | [],_,h=>by simpa[aV]using h
 | c::cs,_,h=>by
  simp only[aV]at*;obtain⟨v,vs,h1,h2,h3⟩:=h;exact⟨v,vs,h1,aU.mono hB hI h2,aV.mono hB hI h3⟩
theorem cI.mono {B B':List Pl} {I I':IM} (hB:eA B B') (hI:dY I I'):∀{xs:List V} {g:Nat->Option Value} {o:Nat},cI B I xs g o->cI B' I' xs g o
 | [],_,_,h=>by simp[cI]
 | c::cs,_,_,h=>by
  simp only[cI]at*;obtain⟨⟨v,h1,h2⟩,h3⟩:=h;exact⟨⟨v,h1,aU.mono hB hI h2⟩,cI.mono hB hI h3⟩
theorem bK.mono {B B':List Pl} {I I':IM} (hB:eA B B') (hI:dY I I'):∀{xs:List V} {g:Nat->Option Value} {sz o:Nat},bK B I xs g sz o->bK B' I' xs g sz o
 | [],_,_,_,h=>by simp[bK]
 | .agg cs::es,_,_,_,h=>by
  simp only[bK]at*;exact⟨h.1,cI.mono hB hI h.2.1,bK.mono hB hI h.2.2⟩
 | e::es,_,_,_,h=>by
  have he:∀v,aU B I e v->aU B' I' e v:=fun v hv=>aU.mono hB hI hv
  have ly:=fun g sz o=>bK.mono hB hI (xs:=es) (g:=g) (sz:=sz) (o:=o)
  cases e with
  | agg cs=>
    simp only[bK]at*;refine⟨h.1,?_,ly _ _ _ h.2.2⟩;obtain⟨v,hv⟩:∃v:Value,v=.agg #[]:=⟨_,rfl⟩;exact cI.mono hB hI h.2.1
  | _=>
   simp only[bK]at*;obtain⟨h0,⟨v,h1,h2⟩,h3⟩:=h;exact⟨h0,⟨v,h1,he v h2⟩,ly _ _ _ h3⟩
end
theorem il {B:List Pl} {I:IM}:∀{cs:List V} {l:List Value},aV B I cs l↔cs.length=l.length/\∀(j:Nat) c,cs[j]? =some c->∃v,l[j]? =some v/\aU B I c v
 | [],l=>by
  simp only[aV,List.length_nil,List.getElem?_nil];constructor
  ·rintro rfl;simp
  ·rintro⟨h,_⟩;cases l<;>simp_all
 | c::cs,l=>by
  simp only[aV,il (cs:=cs)];constructor
  ·rintro⟨v,vs,rfl,hv,hl,h⟩;refine⟨by simp[hl],fun j x hj=> ?_⟩;cases j with
   | zero=>simp at hj;subst hj;exact⟨v,by simp,hv⟩
   | succ j=>simpa using h j x (by simpa using hj)
  ·rintro⟨hl,h⟩;cases l with
   | nil=>simp at hl
   | cons v vs=>
    obtain⟨v',h1,h2⟩:=h 0 c (by simp);simp at h1;subst h1;exact⟨v,vs,rfl,h2,by simpa using hl,fun j x hj=>by simpa using h (j+1) x (by simpa using hj)⟩
theorem aV.length {B:List Pl} {I:IM} {cs:List V} {l:List Value} (h:aV B I cs l):cs.length=l.length:=(il.1 h).1
theorem aV.append {B:List Pl} {I:IM}:∀{cs ds:List V} {l m:List Value},aV B I cs l->aV B I ds m->aV B I (cs++ds) (l++m)
 | [],_,_,_,h,k=>by simp only[aV]at h;subst h;simpa using k
 | c::cs,_,_,_,h,k=>by
  simp only[aV]at h;obtain⟨v,vs,rfl,h1,h2⟩:=h;simp only[List.cons_append,aV];exact⟨v,_,rfl,h1,aV.append h2 k⟩
theorem aV.take {B:List Pl} {I:IM} {cs:List V} {l:List Value} (n:Nat) (h:aV B I cs l):aV B I (cs.take n) (l.take n):=by
 rw[il]at*;obtain⟨h1,h2⟩:=h;refine⟨by simp[h1],fun j c hj=> ?_⟩;rw[List.getElem?_take]at hj⊢;split at hj
 ·rename_i ct;simpa[ct]using h2 j c hj
 ·cases hj
theorem aV.drop {B:List Pl} {I:IM} {cs:List V} {l:List Value} (n:Nat) (h:aV B I cs l):aV B I (cs.drop n) (l.drop n):=by
 rw[il]at*;obtain⟨h1,h2⟩:=h;refine⟨by simp[h1],fun j c hj=> ?_⟩;rw[List.getElem?_drop]at hj⊢;exact h2 _ c hj
theorem aV.get {B:List Pl} {I:IM} {cs:List V} {l:List Value} (h:aV B I cs l) {i:Nat} {c:V} (hi:cs[i]? =some c):∃v,l[i]? =some v/\aU B I c v:=(il.1 h).2 i c hi
inductive ak where
 | row (elems:List V)
 | mp (ks vs:List V)
 | it (ks vs:List V) (cur:Option (V×V))
 | dead
def ak.live:ak->Bool
 | .dead=>false
 | _=>true
def o0 (B:List Pl) (I:IM) (w:World) (p:Pl):ak->Prop
 | .row es=>∃carr e,w.heap[p.dI]? =some (.cells carr e (0,0))/\carr.size=p.size/\p.base+es.length*p.esz<=p.size/\bK B I es (fun o=>carr[o]?) p.esz p.base
 | .mp ks vs=>∃(es:Array MapEntry) (clock:Nat),w.heap[p.dI]? =some (.map es clock)/\BnI es clock/\aV B I ks (es.toList.map (·.key))/\aV B I vs (es.toList.map (·.val))
 | .it ks vs cur=>∃(b:Nat) (es:Array MapEntry) (clock since:Nat) (seen:Array Nat) (c0:Nat),p.base=0/\w.heap[p.dI]? =some (.mapIter (some b) since seen c0)/\I b=some (.map es clock)/\Bn es clock/\(∀x∈es.toList,x.born<since)/\since<=c0/\since<=clock/\
    aV B I ks ((leftOf es seen).toList.map (·.key))/\aV B I vs ((leftOf es seen).toList.map (·.val))/\∀k v,cur=some (k,v)->∃e∈es.toList,seen.back? =some e.born/\c0=clock/\aU B I k e.key/\aU B I v e.val
 | .dead=>True
theorem o0.mono {B B':List Pl} {I I':IM} {w w':World} {p:Pl} {b:ak} (hB:eA B B') (hI:dY I I') (hw:b.live=true->w'.heap[p.dI]? =w.heap[p.dI]?) (h:o0 B I w p b):o0 B' I' w' p b:=by
 cases b with
 | dead=>trivial
 | row es=>
  obtain⟨carr,e,h1,h2,h3,h4⟩:=h;exact⟨carr,e,(hw rfl).trans h1,h2,h3,bK.mono hB hI h4⟩
 | mp ks vs=>
  obtain⟨es,clock,h1,h0,h2,h3⟩:=h;exact⟨es,clock,(hw rfl).trans h1,h0,aV.mono hB hI h2,aV.mono hB hI h3⟩
 | it ks vs cur=>
  obtain⟨b,es,clock,since,seen,c0,h0,h1,h2,h3,h4,h5,h6,h7,h8,h9⟩:=h;exact⟨b,es,clock,since,seen,c0,h0,(hw rfl).trans h1,hI _ _ h2,h3,h4,h5,h6,aV.mono hB hI h7,aV.mono hB hI h8,fun k v hc=>by
   obtain⟨e,h1,h2,h3,h4,h5⟩:=h9 k v hc;exact⟨e,h1,h2,h3,aU.mono hB hI h4,aU.mono hB hI h5⟩⟩
structure Fr where
 w0:World
 M:Nat->Prop
 I0:IM
structure cD (f:Fr) (B:List Pl) (I:IM) (w:World) (H:List ak):Prop where
 len:B.length=H.length
 lH:∀b o,I b=some o->w.heap[b]? =some o
 wy:dY f.I0 I
 dZ:∀b,f.I0 b=none->I b≠none->f.w0.heap.size<=b\/f.M b
 os:w.os=f.w0.os
 tape:w.tape=f.w0.tape
 output:w.output=f.w0.output
 size:f.w0.heap.size<=w.heap.size
 keep:∀k,k<f.w0.heap.size->¬f.M k->w.heap[k]? =f.w0.heap[k]?
 ok:∀(i:Nat) p b,B[i]? =some p->H[i]? =some b->o0 B I w p b
 sep:∀(i j:Nat) p q b c,B[i]? =some p->B[j]? =some q->H[i]? =some b->H[j]? =some c->b.live=true->c.live=true->p.dI=q.dI->i=j
 own:∀(i:Nat) p b,B[i]? =some p->H[i]? =some b->b.live=true->I p.dI=none/\(f.w0.heap.size<=p.dI\/f.M p.dI)/\p.dI<w.heap.size
theorem cD.Mu {f:Fr} {B:List Pl} {I:IM} {w:World} {H:List ak} (h:cD f B I w H) {b:Nat} (hb:I b≠none):b<w.heap.size:=by
 cases hI:I b with
 | none=>exact absurd hI hb
 | some o=>exact(Array.getElem?_eq_some_iff.1 (h.lH b o hI)).1
theorem cD.grow {f:Fr} {B:List Pl} {I I':IM} {w w':World} {H:List ak} (h:cD f B I w H) (hw:Below w.heap.size w w') (hI:dY I I')
 (lH:∀b o,I' b=some o->w'.heap[b]? =some o) (fresh:∀b,I b=none->I' b≠none->w.heap.size<=b):cD f B I' w' H where
 len:=h.len
 lH:=lH
 wy:=h.wy.trans hI
 dZ b h0 h1:=by
  by_cases hb:I b=none
  ·exact .inl (Nat.le_trans h.size (fresh b hb h1))
  ·exact h.dZ b h0 hb
 os:=hw.os.trans h.os
 tape:=hw.tape.trans h.tape
 output:=hw.output.trans h.output
 size:=Nat.le_trans h.size hw.size
 keep k hk hm:=(hw.block k (Nat.lt_of_lt_of_le hk h.size)).trans (h.keep k hk hm)
 ok i p b h1 h2:=by
  refine(h.ok i p b h1 h2).mono (eA.refl _) hI fun hl=> ?_
  exact hw.block _ (h.own i p b h1 h2 hl).2.2
 sep:=h.sep
 own i p b h1 h2 hl:=by
  obtain⟨h3,h4,h5⟩:=h.own i p b h1 h2 hl;refine⟨?_,h4,Nat.lt_of_lt_of_le h5 hw.size⟩;by_cases hx:I' p.dI=none
  ·exact hx
  ·have:=fresh _ h3 hx;omega
theorem cD.drew {f:Fr} {B:List Pl} {I:IM} {w:World} {H:List ak} (h:cD f B I w H):cD f B I w.drew H:=
 h.grow ⟨rfl,rfl,rfl,Nat.le_refl _,fun _ _=>rfl⟩ (dY.refl _) h.lH (fun b h1 h2=>absurd h1 h2)
theorem o4 (w:World) (o:Obj):Below w.heap.size w (w.alloc o):=(Below.refl _ _).alloc (Nat.le_refl _) _
theorem cD.nQ {f:Fr} {B:List Pl} {I:IM} {w:World} {H:List ak} (h:cD f B I w H) (o:Obj):cD f B I (w.alloc o) H:=by
 refine h.grow (o4 w o) (dY.refl _) (fun b x hx=> ?_) (fun b h1 h2=>absurd h1 h2);rw[(o4 w o).block b (h.Mu (by rw[hx];simp))];exact h.lH b x hx
theorem bA {α:Type} (l:List α) (a:α) (i:Nat):(l++ [a])[i]? =if i=l.length then some a else l[i]? :=by
 by_cases h:i<l.length
 ·rw[List.getElem?_append_left h,if_neg (by omega)]
 ·rw[List.getElem?_append_right (by omega)];by_cases h2:i=l.length
  ·subst h2;simp
  ·rw[if_neg h2,List.getElem?_eq_none (by simp;omega),List.getElem?_eq_none (by omega)]
theorem cD.push {f:Fr} {B:List Pl} {I:IM} {w:World} {H:List ak} (h:cD f B I w H) (p:Pl) (b:ak)
 (dx:o0 B I w p b) (x8:∀(i:Nat) q c,B[i]? =some q->H[i]? =some c->c.live=true->q.dI≠p.dI)
 (gh:I p.dI=none/\(f.w0.heap.size<=p.dI\/f.M p.dI)/\p.dI<w.heap.size):cD f (B++ [p]) I w (H++ [b]) where
 len:=by simp[h.len]
 lH:=h.lH
 wy:=h.wy
 dZ:=h.dZ
 os:=h.os
 tape:=h.tape
 output:=h.output
 size:=h.size
 keep:=h.keep
 ok i q c h1 h2:=by
  rw[bA]at h1 h2;rw[h.len]at h1;split at h1
  ·rename_i e;rw[if_pos e]at h2;cases h1;cases h2;exact dx.mono (eA.append _ _) (dY.refl _) (fun _=>rfl)
  ·rename_i e;rw[if_neg e]at h2;exact(h.ok i q c h1 h2).mono (eA.append _ _) (dY.refl _) (fun _=>rfl)
 sep i j q r c d h1 h2 h3 h4 hc hd he:=by
  rw[bA]at h1 h2 h3 h4;rw[h.len]at h1 h2;split at h1<;>split at h2
  ·omega
  ·rename_i e1 e2;rw[if_neg e2]at h4;cases h1;exact absurd he.symm (x8 j r d h2 h4 hd)
  ·rename_i e1 e2;rw[if_neg e1]at h3;cases h2;exact absurd he (x8 i q c h1 h3 hc)
  ·rename_i e1 e2;rw[if_neg e1]at h3;rw[if_neg e2]at h4;exact h.sep i j q r c d h1 h2 h3 h4 hc hd he
 own i q c h1 h2 hl:=by
  rw[bA]at h1 h2;rw[h.len]at h1;split at h1
  ·cases h1;exact gh
  ·rename_i e;rw[if_neg e]at h2;exact h.own i q c h1 h2 hl
theorem cD.alloc {f:Fr} {B:List Pl} {I:IM} {w:World} {H:List ak} (h:cD f B I w H) (carr:Array Value) (t:TypeId) (es:List V) (sz:Nat)
 (hs:es.length*sz<=carr.size) (he:bK B I es (fun o=>carr[o]?) sz 0):
 cD f (B++ [⟨w.heap.size,0,carr.size,sz⟩]) I (w.alloc (.cells carr t)) (H++ [.row es]):=by
 refine(h.nQ (.cells carr t)).push _ _ ?_ ?_ ?_
 ·exact⟨carr,t,by show(w.heap.push _)[w.heap.size]? =_;simp,rfl,by simpa using hs,he⟩
 ·intro i q c h1 h2 hl;have:=(h.own i q c h1 h2 hl).2.2;simp;omega
 ·refine⟨?_,.inl h.size,by simp⟩;cases hx:I w.heap.size with
  | none=>rfl
  | some o=>have:=h.Mu (b:=w.heap.size) (by rw[hx];simp);omega
theorem dh {α:Type} (l:List α) (i j:Nat) (a:α):(l.set i a)[j]? =if i=j then(if i<l.length then some a else none)else l[j]? :=by
 rw[List.getElem?_set]
theorem cD.kill {f:Fr} {B:List Pl} {I:IM} {w:World} {H:List ak} (h:cD f B I w H) (id:Nat):cD f B I w (H.set id .dead) where
 len:=by simp[h.len]
 lH:=h.lH
 wy:=h.wy
 dZ:=h.dZ
 os:=h.os
 tape:=h.tape
 output:=h.output
 size:=h.size
 keep:=h.keep
 ok i q c h1 h2:=by
  rw[dh]at h2;split at h2
  ·split at h2<;>cases h2;trivial
  ·exact h.ok i q c h1 h2
 sep i j q r c d h1 h2 h3 h4 hc hd he:=by
  rw[dh]at h3 h4;split at h3
  ·split at h3<;>cases h3;cases hc
  ·split at h4
   ·split at h4<;>cases h4;cases hd
   ·exact h.sep i j q r c d h1 h2 h3 h4 hc hd he
 own i q c h1 h2 hl:=by
  rw[dh]at h2;split at h2
  ·split at h2<;>cases h2;cases hl
  ·exact h.own i q c h1 h2 hl
theorem cD.rewrite {f:Fr} {B:List Pl} {I:IM} {w:World} {H:List ak} (h:cD f B I w H) {id:Nat} {p:Pl} {es wz:List V} {carr iY:Array Value} {t:TypeId}
 (hp:B[id]? =some p) (hH:H[id]? =some (.row es)) (hc:w.heap[p.dI]? =some (.cells carr t (0,0))) (eW:iY.size=carr.size)
 (ly:p.base+wz.length*p.esz<=p.size) (he:bK B I wz (fun o=>iY[o]?) p.esz p.base):
 cD f B I (w.setRow p.dI iY) (H.set id (.row wz)):=by
 have ct:p.dI<w.heap.size:=(Array.getElem?_eq_some_iff.1 hc).1;have nR:∀k,k≠p.dI->(w.setRow p.dI iY).heap[k]? =w.heap[k]? :=by
  intro k hk;simp only[World.setRow,Array.getElem?_modify];rw[if_neg (by omega)]
 have Q7:(w.setRow p.dI iY).heap[p.dI]? =some (.cells iY t (0,0)):=by
  simp only[World.setRow,Array.getElem?_modify,if_pos,hc,Option.map_some]
 obtain⟨hn,hm,_⟩:=h.own id p _ hp hH rfl;have lP:(w.setRow p.dI iY).heap.size=w.heap.size:=by simp[World.setRow]
 constructor
 ·simp[h.len]
 ·intro b o hb;rw[nR b (by rintro rfl;rw[hn]at hb;cases hb)];exact h.lH b o hb
 ·exact h.wy
 ·exact h.dZ
 ·exact h.os
 ·exact h.tape
 ·exact h.output
 ·rw[lP];exact h.size
 ·intro k hk IE;rw[nR k (by rintro rfl;rcases hm with hm | hm;(omega);exact IE hm)]
  exact h.keep k hk IE
 ·intro i q c h1 h2;rw[dh]at h2;split at h2
  ·rename_i e;subst e;split at h2<;>cases h2;rw[hp]at h1;cases h1;obtain⟨Q8,t0,h3,h4,_,_⟩:=h.ok id p _ hp hH;rw[hc]at h3;cases h3;exact⟨iY,t,Q7,by rw[eW,h4],ly,he⟩
  ·rename_i e;refine(h.ok i q c h1 h2).mono (eA.refl _) (dY.refl _) fun hl=>nR _ fun heq=> ?_
   exact e (h.sep id i p q _ c hp h1 hH h2 rfl hl heq.symm)
 ·intro i j q r c d h1 h2 h3 h4 zI hd kd;have fix:∀(k:Nat) (x:ak),(H.set id (.row wz))[k]? =some x->x.live=true->∃y,H[k]? =some y/\y.live=true:=by
   intro k x hx Q9;rw[dh]at hx;split at hx
   ·rename_i e;subst e;exact⟨_,hH,rfl⟩
   ·exact⟨x,hx,Q9⟩
  obtain⟨c',XM,Mv⟩:=fix i c h3 zI;obtain⟨d',Mw,Mx⟩:=fix j d h4 hd;exact h.sep i j q r c' d' h1 h2 XM Mw Mv Mx kd
 ·intro i q c h1 h2 hl;rw[lP];rw[dh]at h2;split at h2
  ·rename_i e;subst e;exact h.own _ q _ h1 hH rfl
  ·exact h.own i q c h1 h2 hl
theorem cD.rewriteO {f:Fr} {B:List Pl} {I:IM} {w:World} {H:List ak} (h:cD f B I w H) {id:Nat} {p:Pl} {b0 b1:ak} {o:Obj}
 (hp:B[id]? =some p) (hH:H[id]? =some b0) (j5:b0.live=true) (ct:p.dI<w.heap.size)
 (dx:o0 B I {w with heap:=w.heap.setIfInBounds p.dI o} p b1):cD f B I {w with heap:=w.heap.setIfInBounds p.dI o} (H.set id b1):=by
 have nR:∀k,k≠p.dI->(w.heap.setIfInBounds p.dI o)[k]? =w.heap[k]? :=by
  intro k hk;rw[Array.getElem?_setIfInBounds,if_neg (by omega)]
 obtain⟨hn,hm,_⟩:=h.own id p _ hp hH j5;have lP:(w.heap.setIfInBounds p.dI o).size=w.heap.size:=by simp
 constructor
 ·simp[h.len]
 ·intro b x hb;show(w.heap.setIfInBounds p.dI o)[b]? =_;rw[nR b (by rintro rfl;rw[hn]at hb;cases hb)];exact h.lH b x hb
 ·exact h.wy
 ·exact h.dZ
 ·exact h.os
 ·exact h.tape
 ·exact h.output
 ·show _<=(w.heap.setIfInBounds p.dI o).size;rw[lP];exact h.size
 ·intro k hk IE;show(w.heap.setIfInBounds p.dI o)[k]? =_;rw[nR k (by rintro rfl;rcases hm with hm | hm;(omega);exact IE hm)]
  exact h.keep k hk IE
 ·intro i q c h1 h2;rw[dh]at h2;split at h2
  ·rename_i e;subst e;split at h2<;>cases h2;rw[hp]at h1;cases h1;exact dx
  ·rename_i e;refine(h.ok i q c h1 h2).mono (eA.refl _) (dY.refl _) fun hl=>nR _ fun heq=> ?_
   exact e (h.sep id i p q _ c hp h1 hH h2 j5 hl heq.symm)
 ·intro i j q r c d h1 h2 h3 h4 zI hd kd;have fix:∀(k:Nat) (x:ak),(H.set id b1)[k]? =some x->x.live=true->∃y,H[k]? =some y/\y.live=true:=by
   intro k x hx Q9;rw[dh]at hx;split at hx
   ·rename_i e;subst e;exact⟨_,hH,j5⟩
   ·exact⟨x,hx,Q9⟩
  obtain⟨c',XM,Mv⟩:=fix i c h3 zI;obtain⟨d',Mw,Mx⟩:=fix j d h4 hd;exact h.sep i j q r c' d' h1 h2 XM Mw Mv Mx kd
 ·intro i q c h1 h2 hl;show I q.dI=none/\(_\/_)/\q.dI<(w.heap.setIfInBounds p.dI o).size;rw[lP];rw[dh]at h2;split at h2
  ·rename_i e;subst e;exact h.own _ q _ h1 hH j5
  ·exact h.own i q c h1 h2 hl
theorem cD.My {f:Fr} {B:List Pl} {I:IM} {w:World} {H:List ak} (h:cD f B I w H):
 cD f (B++ [⟨w.heap.size,0,0,0⟩]) I (w.alloc (.map #[] 0)) (H++ [.mp [] []]):=by
 refine(h.nQ (.map #[] 0)).push _ _ ?_ ?_ ?_
 ·exact⟨#[],0,by show(w.heap.push _)[w.heap.size]? =_;simp,⟨rfl,rfl⟩,by simp[aV],by simp[aV]⟩
 ·intro i q c h1 h2 hl;have:=(h.own i q c h1 h2 hl).2.2;simp;omega
 ·refine⟨?_,.inl h.size,by simp⟩;cases hx:I w.heap.size with
  | none=>rfl
  | some o=>have:=h.Mu (b:=w.heap.size) (by rw[hx];simp);omega
mutual
def al:V->Bool
 | .ptr _ _ _ | .ms _ _ _ | .map _=>false
 | .bc l | .fs l | .agg l | .dJ l=>ae l
 | .db a b=>ae a && ae b
 | .a6 _ a b=>ae a && ae b
 | .iface _ v=>al v
 | _=>true
def ae:List V->Bool
 | []=>true
 | v::l=>al v && ae l
end
def eI (g:V->Option V):List V->Option (List V)
 | []=>some []
 | v::l=>match g v,eI g l with
  | some x,some xs=>some (x::xs)
  | _,_=>none
def fz (H:List ak):Nat->V->Option V
 | 0,_=>none
 | n+1,v=>match v with
  | .ag=>some (.fs [])
  | .emp=>some (.fs [])
  | .ptr id i c=>match H[id]? with
   | some (.row es)=>if i<es.length/\c<=(aw (es.getD i .any)).length then(eI (fz H n) ((aw (es.getD i .any)).drop c)).map .bc else none
   | _=>none
  | .ms id off len=>match H[id]? with
   | some (.row es)=>if off+len<=es.length then(eI (fz H n) ((es.drop off).take len)).map .fs else none
   | _=>none
  | .map id=>match H[id]? with
   | some (.mp ks vs)=>match eI (fz H n) ks,eI (fz H n) vs with
    | some a,some b=>some (.db a b)
    | _,_=>none
   | _=>none
  | .agg cs=>(eI (fz H n) cs).map .agg
  | .dJ cs=>(eI (fz H n) cs).map .dJ
  | .a6 f a b=>match eI (fz H n) a,eI (fz H n) b with
   | some a,some b=>some (.a6 f a b)
   | _,_=>none
  | v=>if al v then some v else none
def cQ (D:List Nat) (H:List ak):List ak:=H.mapIdx fun i b=>if D.contains i then b else .dead
def bO:List Nat->List ak->List ak
 | [],H=>H
 | d::D,H=>bO D (H.set d .dead)
inductive SX where
 | tmp (t:Nat)
 | val (v:V)
 deriving Inhabited
def dp (env:Nat->V):SX->V
 | .tmp t=>env t
 | .val v=>v
inductive o5 where
 | H7 (x:SX)
 | pick (c a b:SX)
 | alloc (z:V)
 | box (x:SX)
 | build (z:List V) (parts:List (Nat×Nat×SX))
 | jW (esz:Nat) (xs:List SX)
 | load (agg:Bool) (n:Nat) (a:SX)
 | store (n:Nat) (a x:SX)
 | b5 (x:SX)
 | bin (op:BinOp) (x y:SX)
 | beq (neg:Bool) (x y:SX)
 | un (op:UnOp) (x:SX)
 | conv (k:IntKind) (x:SX)
 | sS (x:SX)
 | fC (f:FuncId) (first bB:List SX)
 | slice (esz:Nat) (x:SX) (lo hi:Option SX)
 | x9 (x:SX) (lo hi:Option SX)
 | nB (off:Nat) (x:SX)
 | field (agg:Bool) (off n:Nat) (x:SX)
 | gk (esz:Nat) (x i:SX)
 | uX (x i:SX)
 | extract (x:SX) (i:Nat)
 | call (f:SX) (args:List SX)
 | len (str:Bool) (x:SX)
 | append (esz bytes:Nat) (x y:SX)
 | nS (t:Nat)
 | aJ (esz:Nat) (xs:List SX)
 | o6
 | du
 | rU (neg:Bool) (x:SX)
 | gm
 | Eu (z:V) (x:SX)
 | eu (sh:Bool×List Bool) (ok:Bool) (z:V) (x k:SX)
 | kG (sh:Bool×List Bool) (x k v:SX)
 | uY (sh:Bool×List Bool) (z:V) (x k:SX)
 | uZ (x s v:SX)
 | Ev (x:SX)
 | Ew (x:SX)
 | Ey (x:SX)
 | mm (mx:Bool) (x y:SX)
 deriving Inhabited
structure cK where
 dst:Option Nat
 op:o5
 guard:Option (Nat×Bool)
abbrev sT:=SX.tmp
abbrev ab (d t:Nat):cK:=⟨some d,.H7 (.tmp t),none⟩
abbrev fD (d t g:Nat) (b:Bool):cK:=⟨some d,.H7 (.tmp t),some (g,b)⟩
abbrev aH (d t:Nat):cK:=⟨some d,.load false 1 (.tmp t),none⟩
abbrev dy (d t g:Nat) (b:Bool):cK:=⟨some d,.load false 1 (.tmp t),some (g,b)⟩
abbrev bU (d n t:Nat):cK:=⟨some d,.load true n (.tmp t),none⟩
abbrev aN (d k t:Nat):cK:=⟨some d,.nB k (.tmp t),none⟩
abbrev dP (d k t g:Nat) (b:Bool):cK:=⟨some d,.nB k (.tmp t),some (g,b)⟩
abbrev cL (d:Nat) (o:BinOp) (x y:Nat):cK:=⟨some d,.bin o (.tmp x) (.tmp y),none⟩
abbrev bC (d:Nat) (o:BinOp) (x:Nat) (v:V):cK:=⟨some d,.bin o (.tmp x) (.val v),none⟩
abbrev cJ (d t:Nat):cK:=⟨some d,.len false (.tmp t),none⟩
abbrev cM (d k x y:Nat):cK:=⟨some d,.gk k (.tmp x) (.tmp y),none⟩
abbrev aQ (d:Nat) (v:V):cK:=⟨some d,.H7 (.val v),none⟩
abbrev bw (d:Nat) (f:FuncId) (l:List SX):cK:=⟨some d,.call (.val (.a6 f [] [])) l,none⟩
def cK.Bj:cK->Bool
 | ⟨some d,.nS t,none⟩=>d==t
 | _=>false
def strip:List cK->List cK
 | []=> []
 | s::ss=>if s.Bj then strip ss else s::strip ss
structure QO where
 o:cK
 ld:Bool
 lo:Nat
 hi:Nat
 bs:Nat
inductive aB where
 | skip
 | region (ops:List cK)
 | qregion (ops:List QO)
 | pregion (ops:List QO) (t ia:Nat) (z:Option V) (tail:List cK)
 | fregion (t:Nat) (ops:List QO)
 | seq (a b:aB)
 | cond (c:SX) (t e:aB)
 | block (id:Nat) (c:aB)
 | loop (c:aB)
 | exit (id:Nat)
 | ret
def V.isAny:V->Bool
 | .any=>true
 | _=>false
def V.one:V->Bool
 | .any | .iP | .agg _ | .dJ _=>false
 | _=>true
def iZ (cs:List V) (off:Nat) (vs:List V):List V:=cs.take off++vs++cs.drop (off+vs.length)
def rd (agg:Bool) (n:Nat) (cells:List V):V:=if agg then .agg (cells.take n)else cells.headD .any
def Mz (e:V) (cells:List V):V:=match e with
 | .agg _=> .agg cells
 | _=>cells.headD .any
def az (e:Nat->V) (d:Nat) (v:V):Nat->V:=fun i=>if i=d then v else e i
def fh (e:Nat->V) (d:Option Nat) (v:V):Nat->V:=match d with
 | some d=>az e d v
 | none=>e
def aA (b:Bool) (p q:Prop):Prop:=(b=true->p)/\(b=false->q)
def lQ:List V->List (Nat×Nat×V)->(List V->Prop)->Prop
 | cs,[],k=>k cs
 | cs,(off,n,v)::r,k=>(v.isAny=false/\(aw v).length=n/\off+n<=cs.length)/\lQ (iZ cs off (aw v)) r k
def bt (s:ByteArray) (i:Nat):Int:=((s.data.getD i 0).toNat:Int)
def EX (H:List ak):V->Option (List V)
 | .fs es=>some es
 | .ag=>some []
 | .emp=>some []
 | .ms id off len=>match H[id]? with
  | some (.row es)=>if off+len<=es.length then some ((es.drop off).take len)else none
  | _=>none
 | _=>none
def EY (env:Nat->V) (d:Int):Option SX->Option Int
 | none=>some d
 | some x=>match dp env x with
  | .int _ i=>some i
  | _=>none
def df (sz:Nat) (es:List V):Prop:=∀e,es.head? =some e->(aw e).length=sz
def fF:V->V->Option Bool
 | .int k a,.int k' b=>if k=k' then some (decide (a=b))else none
 | .str a,.str b=>some (decide (a=b))
 | _,_=>none
def sU:List V->List V->Option Bool
 | [],[]=>some true
 | x::xs,y::ys=>match fF x y,sU xs ys with
  | some a,some b=>some (a && b)
  | _,_=>none
 | _,_=>none
def gE:V->V->Option Bool
 | .agg xs,.agg ys=>sU xs ys
 | .agg _,_=>none
 | x,y=>fF x y
def iN:Bool->V->Bool
 | true,.str _=>true
 | false,.int _ _=>true
 | _,_=>false
def o7:List Bool->List V->Bool
 | [],[]=>true
 | b::bs,v::vs=>iN b v && o7 bs vs
 | _,_=>false
def o8:Bool×List Bool->V->Bool
 | (true,l),.agg cs=>o7 l cs
 | (false,[b]),v=>iN b v
 | _,_=>false
def ya (sh:Bool×List Bool) (ks:List V) (k:V):Bool:=o8 sh k && ks.all fun q=>(gE k q).isSome
def gG:List V->List V->V->Option V
 | q::ks,v::vs,k=>if gE k q=some true then some v else gG ks vs k
 | _,_,_=>none
def ja (ks:List V) (k:V):List V:=if ks.any (fun q=>gE k q==some true)then ks else ks++ [k]
def im:List V->List V->V->V->List V
 | q::ks,v::vs,k,x=>if gE k q=some true then x::vs else v::im ks vs k x
 | _,vs,_,x=>vs++ [x]
def lR (ks vs:List V) (k z:V):List V:=if ks.any (fun q=>gE k q==some true)then vs else vs++ [z]
def nT (ks:List V) (k:V):Nat:=ks.findIdx (fun q=>gE k q==some true)
def fT (ok:Bool) (z:V) (r:Option V):V:=if ok then .dJ [r.getD z,.bool r.isSome]else r.getD z
def iD (i:Int) (n:Nat):Prop:=0<=i/\i.toNat<n
def lS (P:Program) (g:FuncId):Bool:=match P.funcs[g]? with
 | some fn=>fn.body.isSome && fn.name != "runtime.NumGoroutine"
 | none=>false
def av (P:Program) (g:FuncId) (vs:List V) (H:List ak) (K:V->List ak->Prop):Prop:=
 lS P g=true/\∀(f:Fr) (B:List Pl) (I:IM) (w:World) (args:Array Value),cD f B I w H->aV B I vs args.toList->
  Calls P g args w (fun e w'=>∃r v H' B' I',e=.returned v/\K r H'/\cD f B' I' w' H'/\eA B B'/\dY I I'/\aU B' I' r v)
def nh (esz bytes:Nat) (src:List V) (yv xv:V) (H:List ak) (K:V->List ak->Prop):Prop:=match xv with
 | .emp=>(src=[]->K .emp H)/\(src≠ []->src.length*bytes<=140737488355328/\K (.ms H.length 0 src.length) (H++ [.row src]))
 | .ag=>(src=[]->K .ag H)/\(src≠ []->src.length*bytes<=140737488355328/\K (.ms H.length 0 src.length) (H++ [.row src]))
 | .ms id off len=>match H[id]? with
  | some (.row es)=>(off+len=es.length/\es≠ []/\df esz es/\(∀i o l,yv=.ms i o l->i≠id)/\(len+src.length)*bytes<=140737488355328)/\
    K (.ms H.length 0 (len+src.length)) (H.set id .dead++ [.row (es.drop off++src)])
  | _=>False
 | _=>False
def bd (P:Program) (o:o5) (env:Nat->V) (H:List ak) (K:V->List ak->Prop):Prop:=
 match o with
 | .H7 x=>K (dp env x) H
 | .pick c a b=>match dp env c with
  | .bool c=>aA c (K (dp env a) H) (K (dp env b) H)
  | _=>False
 | .alloc z=>K (.ptr H.length 0 0) (H++ [.row [z]])
 | .box x=>(dp env x).isAny=false/\K (.ptr H.length 0 0) (H++ [.row [dp env x]])
 | .build z parts=>lQ z (parts.map fun p=>(p.1,p.2.1,dp env p.2.2)) fun cs=>K (.agg cs) H
 | .jW esz xs=>((xs.map (dp env)).all (fun v=> !v.isAny && (aw v).length==esz)=true)/\K (.ms H.length 0 xs.length) (H++ [.row (xs.map (dp env))])
 | .load agg n a=>match dp env a with
  | .ptr id i c=>match H[id]? with
   | some (.row es)=>(i<es.length/\c+n<=(aw (es.getD i .any)).length)/\K (rd agg n ((aw (es.getD i .any)).drop c)) H
   | _=>False
  | .bc cells=>n<=cells.length/\K (rd agg n cells) H
  | _=>False
 | .store n a x=>match dp env a with
  | .ptr id i c=>match H[id]? with
   | some (.row es)=>(i<es.length/\c+n<=(aw (es.getD i .any)).length/\(aw (dp env x)).length=n/\(aw (dp env x)).all V.one=true/\
      aw (Mz (es.getD i .any) (iZ (aw (es.getD i .any)) c (aw (dp env x))))=iZ (aw (es.getD i .any)) c (aw (dp env x)))/\
     K .any (H.set id (.row (es.set i (Mz (es.getD i .any) (iZ (aw (es.getD i .any)) c (aw (dp env x)))))))
   | _=>False
  | _=>False
 | .b5 x=>match dp env x with
  | .ptr id i c=>K (.ptr id i c) H
  | .bc cs=>K (.bc cs) H
  | .a6 f a b=>K (.a6 f a b) H
  | _=>False
 | .bin op x y=>match dp env x,dp env y with
  | .int k a,.int k' b=>k=k'/\(match op with
   | .add=>K (.int k (k.wrap (a+b))) H
   | .sub=>K (.int k (k.wrap (a - b))) H
   | .mul=>K (.int k (k.wrap (a*b))) H
   | .quo=>b≠0/\K (.int k (k.wrap (a.tdiv b))) H
   | .rem=>b≠0/\K (.int k (a.tmod b)) H
   | .eql=>K (.bool (decide (a=b))) H
   | .neq=>K (.bool (!decide (a=b))) H
   | .lss=>K (.bool (decide (a<b))) H
   | .leq=>K (.bool (decide (a<=b))) H
   | .gtr=>K (.bool (decide (b<a))) H
   | .geq=>K (.bool (decide (b<=a))) H
   | _=>False)
  | .str a,.str b=>match op with
   | .add=>a.size+b.size<=9223372036854775807/\K (.str (a++b)) H
   | .eql=>K (.bool (decide (a=b))) H
   | .neq=>K (.bool (!decide (a=b))) H
   | _=>False
  | _,_=>False
 | .beq neg x y=>match dp env x,dp env y with
  | .bool a,.bool b=>K (.bool (if neg then a !=b else a==b)) H
  | _,_=>False
 | .un op x=>match op,dp env x with
  | .not,.bool b=>K (.bool (!b)) H
  | .neg,.int k n=>K (.int k (k.wrap (0 - n))) H
  | _,_=>False
 | .conv k x=>match dp env x with
  | .int _ n=>K (.int k (k.wrap n)) H
  | _=>False
 | .sS x=>match dp env x with
  | .str s=>K (.str s) H
  | _=>False
 | .fC f first bB=>K (.a6 f (first.map (dp env)) (bB.map (dp env))) H
 | .slice esz x lo hi=>match EY env 0 lo with
  | none=>False
  | some l=>match dp env x with
   | .fs es=>match EY env es.length hi with
    | none=>False
    | some h=>(0<=l/\l<=h/\h<=es.length/\df esz es)/\K (.fs ((es.take h.toNat).drop l.toNat)) H
   | .ms id off len=>match EY env len hi with
    | none=>False
    | some h=>match H[id]? with
     | some (.row es)=>(0<=l/\l<=h/\h<=len/\off+len<=es.length/\df esz es)/\K (.ms id (off+l.toNat) (h.toNat - l.toNat)) H
     | _=>False
   | .ag=>match EY env 0 hi with
    | none=>False
    | some h=>(l=0/\h=0)/\K .ag H
   | _=>False
 | .x9 x lo hi=>False
 | .nB off x=>match dp env x with
  | .ptr id i c=>K (.ptr id i (c+off)) H
  | .bc cells=>K (.bc (cells.drop off)) H
  | _=>False
 | .field agg off n x=>match dp env x with
  | .agg cs=>off+n<=cs.length/\K (rd agg n (cs.drop off)) H
  | _=>False
 | .gk esz x i=>match dp env i with
  | .int _ i=>match dp env x with
   | .fs es=>(iD i es.length/\(aw (es.getD i.toNat .any)).length=esz)/\K (.bc (aw (es.getD i.toNat .any))) H
   | .ms id off len=>match H[id]? with
    | some (.row es)=>(iD i len/\off+len<=es.length/\(aw (es.getD (off+i.toNat) .any)).length=esz)/\K (.ptr id (off+i.toNat) 0) H
    | _=>False
   | _=>False
  | _=>False
 | .uX x i=>match dp env x,dp env i with
  | .str s,.int _ i=>iD i s.size/\K (.int .u8 (bt s i.toNat)) H
  | _,_=>False
 | .extract x i=>match dp env x with
  | .dJ vs=>i<vs.length/\K (vs.getD i .any) H
  | _=>False
 | .call fx args=>match dp env fx with
  | .a6 g first bB=>av P g (first++args.map (dp env)++bB) H K
  | _=>False
 | .len str x=>match str,dp env x with
  | false,.fs es=>es.length<=9223372036854775807->K (.int .i64 es.length) H
  | false,.ag=>K (.int .i64 0) H
  | false,.emp=>K (.int .i64 0) H
  | false,.ms id off len=>len<=9223372036854775807->K (.int .i64 len) H
  | true,.str s=>s.size<=9223372036854775807->K (.int .i64 s.size) H
  | _,_=>False
 | .append esz bytes x y=>match EX H (dp env y)with
  | none=>False
  | some src=>(src.all (fun e=>(aw e).length==esz && !e.isAny && (aw e).all V.one)=true)/\nh esz bytes src (dp env y) (dp env x) H K
 | .nS t=>∃D v',fz (cQ D H) 20 (env t)=some v'/\K v' (bO D H)
 | .aJ esz xs=>((xs.map (dp env)).all (fun v=> !v.isAny && (aw v).length==esz)=true)/\K (.fs (xs.map (dp env))) H
 | .o6=>K .emp H
 | .du=>K .any H
 | .rU neg x=>match dp env x with
  | .ag=>K (.bool (!neg)) H
  | .emp=>∀b,K (.bool b) H
  | .fs []=>∀b,K (.bool b) H
  | .fs (_::_)=>K (.bool neg) H
  | .ms _ _ (_+1)=>K (.bool neg) H
  | .ms _ _ 0=>∀b,K (.bool b) H
  | _=>False
 | .gm=>K (.map H.length) (H++ [.mp [] []])
 | .Eu z x=>match dp env x with
  | .int _ n=>(0<=n/\n<=1000000000)/\K (.ms H.length 0 n.toNat) (H++ [.row (List.replicate n.toNat z)])
  | _=>False
 | .eu sh ok z x k=>match dp env x with
  | .cG=>ya sh [] (dp env k)=true/\K (fT ok z none) H
  | .db ks vs=>ya sh ks (dp env k)=true/\K (fT ok z (gG ks vs (dp env k))) H
  | .map id=>match H[id]? with
   | some (.mp ks vs)=>ya sh ks (dp env k)=true/\K (fT ok z (gG ks vs (dp env k))) H
   | _=>False
  | _=>False
 | .kG sh x k v=>match dp env x with
  | .map id=>match H[id]? with
   | some (.mp ks vs)=>ya sh ks (dp env k)=true/\K .any (H.set id (.mp (ja ks (dp env k)) (im ks vs (dp env k) (dp env v))))
   | _=>False
  | _=>False
 | .uY sh z x k=>match dp env x with
  | .map id=>match H[id]? with
   | some (.mp ks vs)=>ya sh ks (dp env k)=true/\K (.dJ [(gG ks vs (dp env k)).getD z,.int .i64 (nT ks (dp env k))]) (H.set id (.mp (ja ks (dp env k)) (lR ks vs (dp env k) z)))
   | _=>False
  | _=>False
 | .uZ x s v=>match dp env x,dp env s with
  | .map id,.int _ n=>match H[id]? with
   | some (.mp ks vs)=>(0<=n/\n.toNat<ks.length)/\K .any (H.set id (.mp ks (vs.set n.toNat (dp env v))))
   | _=>False
  | _,_=>False
 | .Ev x=>match dp env x with
  | .db ks vs=>K (.ptr H.length 0 0) (H++ [.it ks vs none])
  | _=>False
 | .Ew x=>match dp env x with
  | .ptr id 0 0=>match H[id]? with
   | some (.it ks vs _)=>(ks=[]->K (.dJ [.bool false]) H)/\∀(i:Nat) k v,ks[i]? =some k->vs[i]? =some v->K (.dJ [.bool true,k,v]) (H.set id (.it (ks.eraseIdx i) (vs.eraseIdx i) (some (k,v))))
   | _=>False
  | _=>False
 | .Ey x=>match dp env x with
  | .ptr id 0 0=>match H[id]? with
   | some (.it _ _ (some (k,v)))=>K (.dJ [k,v]) H
   | _=>False
  | _=>False
 | .mm mx x y=>match dp env x,dp env y with
  | .int k a,.int k' b=>k=k'/\K (.int k (if mx then(if a<b then b else a)else(if b<a then b else a))) H
  | _,_=>False
def o9:Value->V->Bool
 | .bool b,.bool c=>b==c
 | .int k n,.int k' n'=>k==k' && n==n'
 | .string s,.str t=>s.data==t.data && s.size<=1000000
 | .pointer none,.kb=>true
 | .slice none 0 0,.ag=>true
 | .slice none 0 0,.fs []=>true
 | .map none,.cG=>true
 | .nilFunc,.qH=>true
 | .nilIface,.x7=>true
 | _,_=>false
def zX:List Value->List V->Bool
 | [],[]=>true
 | v::vs,x::xs=>o9 v x && zX vs xs
 | _,_=>false
def jc:Value->V->Bool
 | .agg cs,.agg xs=>zX cs.toList xs
 | v,x=>o9 v x
def cz (n:Nat):Operand->SX->Bool
 | .tmp t,.tmp u=>t==u && t<n
 | .const v,.val x=>jc v x
 | .func f,.val (.a6 g [] [])=>f==g
 | _,_=>false
def nC (n:Nat):List Operand->List SX->Bool
 | [],[]=>true
 | x::xs,y::ys=>cz n x y && nC n xs ys
 | _,_=>false
def C4 (n:Nat):Option Operand->Option SX->Bool
 | none,none=>true
 | some x,some y=>cz n x y
 | _,_=>false
def pc (P:Program) (t:TypeId):Option Bool:=
 match P.underlying t with
 | some (.struct _) | some (.array _ _)=>some true
 | some _=>some false
 | none=>none
def fU (P:Program) (t:TypeId):Option Nat:=(P.info? t).map (·.size)
def kf (n:Nat) (place:Nat->Option (Nat×Nat)):List (Nat×Operand)->List (Nat×Nat×SX)->Bool
 | [],[]=>true
 | (i,x)::r,(off,sz,y)::s=>place i==some (off,sz) && cz n x y && kf n place r s
 | _,_=>false
def gH (n:Nat):Nat->List (Nat×Operand)->List SX->Bool
 | _,[],[]=>true
 | j,(i,x)::r,y::s=>i==j && cz n x y && gH n (j+1) r s
 | _,_,_=>false
def sj (P:Program) (fs:Array Field) (i:Nat):Option (Nat×Nat):=(fs[i]?).bind fun f=>(fU P f.type).map fun s=>(f.offset,s)
def zeroOf (P:Program) (t:TypeId):Option Value:=(P.info? t).bind (·.zero)
def wA (P:Program) (t:TypeId):Option IntKind:=match P.underlying t with
 | some (.int k)=>some k
 | _=>none
def EZ (P:Program) (t:TypeId):Option TypeId:=match P.underlying t with
 | some (.slice e)=>some e
 | _=>none
def H8 (P:Program) (t:TypeId):Bool->Bool
 | true=>match P.underlying t with | some .string=>true | _=>false
 | false=>match P.underlying t with | some (.int _)=>true | _=>false
def wB (P:Program):Nat->List Field->List Bool->Bool
 | _,[],[]=>true
 | i,f::fs,b::bs=>f.name != "_" && H8 P f.type b && f.offset==i && fU P f.type==some 1 && pc P f.type==some false && wB P (i+1) fs bs
 | _,_,_=>false
def kH (P:Program) (t:TypeId):Bool×List Bool->Bool
 | (false,[b])=>H8 P t b
 | (true,l)=>match P.underlying t with
   | some (.struct fs)=> !P.stoodInHeld t && wB P 0 fs.toList l
   | _=>false
 | _=>false
def bg (P:Program) (n:Nat):Op->TypeId->o5->Bool
 | .move x,_,.H7 y | .assign x,_,.H7 y=>cz n x y
 | .pick c a b,_,.pick c' a' b'=>cz n c c' && cz n a a' && cz n b b'
 | .alloc t,_,.alloc z=>match zeroOf P t with
  | some v=>jc v z
  | none=>false
 | .box t x,_,.box y=>cz n x y
 | .build t parts,_,.build z ps=>match P.underlying t,zeroOf P t with
  | some (.struct fs),some (.agg v)=>zX v.toList z && kf n (sj P fs) parts.toList ps && fs.toList.all fun f=>(fU P f.type).isSome
  | _,_=>false
 | .buildSlice t len parts,_,.jW esz xs=>match (EZ P t)with
  | some e=>fU P e==some esz && xs.length==len && (decide (len*esz<=10000)) && decide (0<esz) && gH n 0 parts.toList xs && (zeroOf P e).isSome && decide (0<len)
  | none=>false
 | .load t a,_,.load g m a'=>pc P t==some g && fU P t==some m && (g || m==1) && cz n a a'
 | .store t a x,_,.store m a' x'=>fU P t==some m && cz n a a' && cz n x x'
 | .nilCheck x,_,.b5 y=>cz n x y
 | .binOp op t x y u,_,.bin XN x' y'=>decide (op=XN) && cz n x x' && cz n y y'
 | .binOp .eql t x y u,_,.beq false x' y'=>cz n x x' && cz n y y' && (match P.underlying t with | some .bool=>true | _=>false)
 | .binOp .neq t x y u,_,.beq true x' y'=>cz n x x' && cz n y y' && (match P.underlying t with | some .bool=>true | _=>false)
 | .unOp op _ x,_,.un XN x'=>decide (op=XN) && cz n x x'
 | .convert s d x,_,.conv k x'=>(P.underlying s).isSome && wA P d==some k && cz n x x'
 | .convert s d x,_,.sS x'=>(P.underlying s).isSome && (match P.underlying d with | some .string=>true | _=>false) && cz n x x'
 | .makeFunc (.func f) first bB,_,.fC g a b=>f==g && nC n first.toList a && nC n bB.toList b
 | .slice t x lo hi none,_,.slice esz x' H9 xP=>match EZ P t with
  | some e=>fU P e==some esz && cz n x x' && C4 n lo H9 && C4 n hi xP
  | none=>false
 | .fieldAddr t x i,_,.nB off x'=>match P.underlying t with
  | some (.struct fs)=>match fs[i]? with
   | some f=>f.offset==off && (match fU P f.type with | some s=>s !=0 | none=>false) && cz n x x'
   | none=>false
  | _=>false
 | .field t x i,_,.field g off m x'=>match P.underlying t with
  | some (.struct fs)=>match fs[i]? with
   | some f=>f.offset==off && fU P f.type==some m && pc P f.type==some g && (g || m==1) && cz n x x'
   | none=>false
  | _=>false
 | .indexAddr t x i,_,.gk esz x' i'=>match EZ P t with
  | some e=>fU P e==some esz && cz n x x' && cz n i i'
  | none=>false
 | .index t x i,_,.uX x' i'=>(match P.underlying t with | some .string=>true | _=>false) && cz n x x' && cz n i i'
 | .extract x i,_,.extract x' i'=>i==i' && cz n x x'
 | .call c,_,.call f args=>match c.callee with
  | .value g=>cz n g f && nC n c.args.toList args
  | _=>false
 | .call c,_,.len str x=>match c.callee,c.args.toList,c.argTypes.toList with
  | .builtin .len,[y],[t]=>cz n y x && (match str,P.underlying t with | true,some .string=>true | false,some (.slice _)=>true | _,_=>false)
  | _,_,_=>false
 | .call c,_,.append esz bytes x y=>match c.callee,c.args.toList,c.argTypes.toList with
  | .builtin .append,[x',y'],[t,u]=>match EZ P t with
   | some e=>t==u && fU P e==some esz && decide (0<esz) && ((P.info? e).map (·.bytes))==some bytes && decide (0<bytes) && (match zeroOf P e with | some z=>z.cells.size==esz | none=>false) && cz n x' x && cz n y' y
   | _=>false
  | _,_,_=>false
 | .buildSlice t len parts,_,.aJ esz xs=>match (EZ P t)with
  | some e=>fU P e==some esz && xs.length==len && (decide (len*esz<=10000)) && decide (0<esz) && gH n 0 parts.toList xs && (zeroOf P e).isSome && decide (0<len)
  | none=>false
 | .alloc t,_,.du=>(zeroOf P t).isSome
 | .makeMap t none,_,.du=>(match P.underlying t with | some (.map _ _)=>true | _=>false)
 | .buildSlice t len parts,_,.o6=>(match EZ P t with | some e=>(fU P e).isSome | none=>false) && len==0 && parts.toList.isEmpty
 | .binOp op t x y u,_,.rU neg x'=>decide (op=if neg then .neq else .eql) && (EZ P t).isSome && cz n x x' && (match y with | .const (.slice none 0 0)=>true | _=>false)
 | .makeSlice t x y,_,.Eu z x'=>(match EZ P t with
  | some e=>fU P e==some 1 && (match zeroOf P e with | some v=>jc v z && v.cells.size==1 | none=>false) && (aw z).length==1 && (match P.info? e with | some i=>decide (i.bytes<=4096) | none=>false)
  | none=>false) && cz n x x' && cz n y x'
 | .makeMap t none,_,.gm=>(match P.underlying t with | some (.map _ _)=>true | _=>false)
 | .lookup t x k ok,_,.eu sh Wz z x' k'=>(match P.underlying t with
  | some (.map kt e)=>kH P kt sh && (match zeroOf P e with | some v=>jc v z | none=>false)
  | _=>false) && ok==Wz && cz n x x' && cz n k k'
 | .mapUpdate t x k v,_,.kG sh x' k' v'=>(match P.underlying t with | some (.map kt _)=>kH P kt sh | _=>false) && cz n x x' && cz n k k' && cz n v v'
 | .mapEntry t x k,_,.uY sh z x' k'=>(match P.underlying t with
  | some (.map kt e)=>kH P kt sh && (match zeroOf P e with | some v=>jc v z | none=>false)
  | _=>false) && cz n x x' && cz n k k'
 | .entryStore _ x s v,_,.uZ x' s' v'=>cz n x x' && cz n s s' && cz n v v'
 | .range t x,_,.Ev x'=>(match P.underlying t with | some (.map _ _)=>true | _=>false) && cz n x x'
 | .next x false,_,.Ew x'=>cz n x x'
 | .entry x,_,.Ey x'=>cz n x x'
 | .call c,_,.mm mx x y=>match c.callee,c.args.toList,c.argTypes.toList with
  | .builtin b,[x',y'],[t,u]=>decide (b=if mx then .max else .min) && (wA P t).isSome && cz n x' x && cz n y' y
  | _,_,_=>false
 | _,_,_=>false
def jd (n:Nat) (all:Array Oper):Option (Nat×Bool)->Option (Nat×Bool)->Bool
 | none,none=>true
 | some (j,b),some (t,c)=>b==c && ((all[j]?).bind (·.dst))==some t && t<n
 | _,_=>false
def wC (n:Nat):Option Nat->Option Nat->Bool
 | none,none=>true
 | some d,some e=>d==e && d<n
 | _,_=>false
def jE (P:Program) (n:Nat) (all:Array Oper) (o:Oper) (s:cK):Bool:=
 wC n o.dst s.dst && jd n all o.guard s.guard && bg P n o.op o.type s.op
def fV (P:Program) (n:Nat) (all:Array Oper):List Oper->List cK->Bool
 | [],[]=>true
 | o::os,s::ss=>jE P n all o s && fV P n all os ss
 | _,_=>false
def cy (B:List Pl) (I:IM) (env:Nat->V) (t:Array Value):Prop:=∀(i:Nat) v,t[i]? =some v->aU B I (env i) v
theorem cy.mono {B B':List Pl} {I I':IM} {env:Nat->V} {t:Array Value} (hB:eA B B') (hI:dY I I') (h:cy B I env t):cy B' I' env t:=fun i v hv=>(h i v hv).mono hB hI
theorem cy.set {B:List Pl} {I:IM} {env:Nat->V} {t:Array Value} (h:cy B I env t) (d:Nat) {x:V} {v:Value} (hx:aU B I x v):cy B I (az env d x) (t.setIfInBounds d v):=by
 intro i u hu;unfold az
 rw[Array.getElem?_setIfInBounds]at hu;split at hu
 ·rename_i e;subst e;rw[if_pos rfl];split at hu
  ·cases hu;exact hx
  ·cases hu
 ·rename_i e;rw[if_neg (by omega)];exact h i u hu
theorem cy.put {B:List Pl} {I:IM} {env:Nat->V} {a:Act} (h:cy B I env a.tmps) (d:Option Nat) {x:V} {v:Value} (hx:aU B I x v):cy B I (fh env d x) (a.put d v).tmps:=by
 cases d with
 | none=>exact h
 | some d=>exact h.set d hx
theorem iq (a:Act) (d:Option Nat) (v:Value):(a.put d v).tmps.size=a.tmps.size:=by cases d<;>simp[Act.put]
theorem put_defers (a:Act) (d:Option Nat) (v:Value):(a.put d v).defers=a.defers:=by cases d<;>simp[Act.put]
theorem yb {B:List Pl} {I:IM}:∀{v:Value} {x:V},o9 v x=true->aU B I x v:=by
 intro v x h;unfold o9 at h
 split at h<;>simp_all[aU,maxLen]
 case h_6=>exact⟨none,0,⟨rfl,rfl⟩,by omega⟩
 ·obtain⟨h1,h2⟩:=h;rename_i s t;have:s=t:=by cases s;cases t;simp_all
  subst this;exact⟨rfl,by omega⟩
theorem sV {B:List Pl} {I:IM}:∀{l:List Value} {xs:List V},zX l xs=true->aV B I xs l
 | [],[],_=>by simp[aV]
 | v::vs,x::xs,h=>by
  simp only[zX,Bool.and_eq_true]at h;simp only[aV];exact⟨v,vs,rfl,yb h.1,sV h.2⟩
 | [],_::_,h=>by simp[zX]at h
 | _::_,[],h=>by simp[zX]at h
theorem kJ {B:List Pl} {I:IM} {v:Value} {x:V} (h:jc v x=true):aU B I x v:=by
 unfold jc at h
 split at h
 ·simp only[aU];exact⟨_,rfl,sV h⟩
 ·exact yb h
theorem bh {B:List Pl} {I:IM} {env:Nat->V} {a:Act} {x:Operand} {y:SX} (h:cz a.tmps.size x y=true) (he:cy B I env a.tmps):aU B I (dp env y) (a.eval x):=by
 unfold cz at h
 split at h
 ·rename_i t u;simp only[Bool.and_eq_true,beq_iff_eq,decide_eq_true_eq]at h;obtain⟨rfl,ct⟩:=h;simp only[dp,Act.eval];refine he t _ ?_;simp[Array.getD,ct]
 ·simp only[dp,Act.eval];exact kJ h
 ·simp only[beq_iff_eq]at h;subst h;simp only[dp,Act.eval,aU];exact⟨_,_,rfl,by simp[aV],by simp[aV]⟩
 ·cases h
theorem mM {B:List Pl} {I:IM} {env:Nat->V} {a:Act} (he:cy B I env a.tmps):∀{xs:List Operand} {ys:List SX},nC a.tmps.size xs ys=true->aV B I (ys.map (dp env)) (xs.map a.eval)
 | [],[],_=>by simp[aV]
 | x::xs,y::ys,h=>by
  simp only[nC,Bool.and_eq_true]at h;simp only[List.map_cons,aV];exact⟨_,_,rfl,bh h.1 he,mM he h.2⟩
 | [],_::_,h=>by simp[nC]at h
 | _::_,[],h=>by simp[nC]at h
def Out (f:Fr) (B:List Pl) (I:IM) (K:V->List ak->Prop) (r:Result Next):Prop:=
 ∃v w' x H' B' I',(r=.ok (.value v) w'\/(r=.ok .skip w'/\v=undef))/\K x H'/\cD f B' I' w' H'/\eA B B'/\dY I I'/\aU B' I' x v
section
variable {P:Program} {f:Fr} {B:List Pl} {I:IM} {w:World} {H:List ak} {K:V->List ak->Prop} {a:Act} {env:Nat->V} {o:Oper}
theorem Out.quiet {r:Result Next} {v:Value} {x:V} (hr:r=.ok (.value v) w) (hk:K x H) (hs:cD f B I w H) (hx:aU B I x v):Out f B I K r:=
 ⟨v,w,x,H,B,I,.inl hr,hk,hs,eA.refl _,dY.refl _,hx⟩
theorem pd (s:Sem Value):((do pure (.value (<-s)):Sem Next)).run P w=(s.run P w).andThen fun v w'=> .ok (.value v) w':=by simp[Sem.run_bind]
theorem K7 {x:Operand} {y:SX} (ho:o.op=.move x\/o.op=.assign x) (hc:cz a.tmps.size x y=true) (he:cy B I env a.tmps) (hs:cD f B I w H) (hk:K (dp env y) H):
 Out f B I K ((execOp a.eval o).run P w):=by
 refine Out.quiet (v:=a.eval x) ?_ hk hs (bh hc he);rcases ho with ho | ho<;>simp[execOp,ho]
theorem MB {c x y:Operand} {c' x' y':SX} (ho:o.op=.pick c x y) (hc:cz a.tmps.size c c'=true) (h1:cz a.tmps.size x x'=true) (h2:cz a.tmps.size y y'=true)
 (he:cy B I env a.tmps) (hs:cD f B I w H) (hk:bd P (.pick c' x' y') env H K):Out f B I K ((execOp a.eval o).run P w):=by
 have hr:=bh hc he;simp only[bd]at hk;split at hk
 ·rename_i b e;rw[e]at hr;simp only[aU]at hr;cases b with
  | true=>exact Out.quiet (v:=a.eval x) (by simp[execOp,ho,hr,asBool]) (hk.1 rfl) hs (bh h1 he)
  | false=>exact Out.quiet (v:=a.eval y) (by simp[execOp,ho,hr,asBool]) (hk.2 rfl) hs (bh h2 he)
 ·exact hk.elim
theorem gI {x:V} {v:Value} (h:aU B I x v) (hx:x.isAny=false):aV B I (aw x) v.cells.toList:=by
 cases x with
 | any=>cases hx
 | agg cs=>
  simp only[aU]at h;obtain⟨vs,rfl,h⟩:=h;simpa[aw,Value.cells]using h
 | _=>
  simp only[aw,aV];have h':=h;simp only[aU]at h;first
   | (subst h;exact⟨_,_,rfl,h',rfl⟩)
   | (obtain⟨rfl,_⟩:=h;exact⟨_,_,rfl,h',rfl⟩)
   | (obtain⟨_,_,rfl⟩:=h;exact⟨_,_,rfl,h',rfl⟩)
   | (obtain⟨_,rfl,_⟩:=h;exact⟨_,_,rfl,h',rfl⟩)
   | (obtain⟨_,_,rfl,_⟩:=h;exact⟨_,_,rfl,h',rfl⟩)
   | (obtain⟨_,_,_,rfl,_⟩:=h;exact⟨_,_,rfl,h',rfl⟩)
   | (obtain⟨_,_,_,_,rfl,_⟩:=h;exact⟨_,_,rfl,h',rfl⟩)
theorem lT {cs:List V} {l:List Value} {g:Nat->Option Value} {o:Nat} (h:aV B I cs l) (hg:∀(j:Nat) v,l[j]? =some v->g (o+j)=some v):cI B I cs g o:=by
 rw[fg];intro j c hj;obtain⟨v,h1,h2⟩:=h.get hj;exact⟨v,hg j v h1,h2⟩
theorem repL_of_cellsG {g:Nat->Option Value}:∀{cs:List V} {o:Nat},cI B I cs g o->∃l:List Value,aV B I cs l/\∀(j:Nat) v,l[j]? =some v->g (o+j)=some v:=by
 intro cs;induction cs with
 | nil=>intro o _;exact⟨[],by simp[aV],by simp⟩
 | cons c cs ih=>
  intro o h;simp only[cI]at h;obtain⟨⟨v,h1,h2⟩,h3⟩:=h;obtain⟨l,h4,h5⟩:=ih h3;refine⟨v::l,by simp only[aV];exact⟨v,l,rfl,h2,h4⟩,fun j u hj=> ?_⟩;cases j with
  | zero=>simp at hj;subst hj;exact h1
  | succ j=>have:=h5 j u (by simpa using hj);rwa[show o+1+j=o+(j+1) by omega]at this
theorem yc {x:V} {v:Value} (h:aU B I x v) (hx:x.isAny=false):bK B I [x] (fun o=>v.cells[o]?) (aw x).length 0:=by
 rw[fe];refine⟨rfl,lT (gI h hx) (fun j u hj=> ?_),by simp[bK]⟩;simpa using hj
theorem kK {v:Value} {z:V} (h:jc v z=true):z.isAny=false:=by
 cases z<;>first | rfl | (unfold jc at h;split at h<;>simp_all[o9])
theorem nU (t:TypeId) (v:Value):(newVar t v).run P w=.ok ⟨w.heap.size,0,none⟩ (w.alloc (.cells v.cells t)):=by
 simp[newVar,newRow]
theorem kg {t:TypeId} {z:Value} (h:zeroOf P t=some z):(zeroValue t).run P w=.ok z w:=by
 unfold zeroOf at h
 cases hi:P.info? t with
 | none=>rw[hi]at h;cases h
 | some i=>
  rw[hi]at h;have h':i.zero=some z:=h;simp[zeroValue,typeInfo,hi,h']
theorem yf {x:V} {v:Value} (t:TypeId) (h:aU B I x v) (hx:x.isAny=false) (hs:cD f B I w H) (hk:K (.ptr H.length 0 0) (H++ [.row [x]]))
 (r:Result Next) (hr:r=.ok (.value (.pointer (some ⟨w.heap.size,0,none⟩))) (w.alloc (.cells v.cells t))):Out f B I K r:=by
 have hlen:=(gI h hx).length;refine⟨_,_,_,_,_,_,.inl hr,hk,hs.alloc v.cells t [x] (aw x).length (by simp at hlen⊢;omega) (yc h hx),eA.append _ _,dY.refl _,?_⟩;simp only[aU];exact⟨_,by rw[<-hs.len,bA,if_pos rfl],by simp⟩
theorem IF {t:TypeId} {z:V} (ho:o.op=.alloc t) (hc:bg P a.tmps.size (.alloc t) o.type (.alloc z)=true) (hs:cD f B I w H)
 (hk:bd P (.alloc z) env H K):Out f B I K ((execOp a.eval o).run P w):=by
 simp only[bg]at hc;split at hc
 ·rename_i v hz;refine yf t (kJ hc) (kK hc) hs hk _ ?_;simp[execOp,ho,Instr.alloc,kg hz,nU]
 ·cases hc
theorem sW {t:TypeId} (ho:o.op=.alloc t) {v:Value} (hz:zeroOf P t=some v):(execOp a.eval o).run P w=.ok (.value (.pointer (some ⟨w.heap.size,0,none⟩))) (w.alloc (.cells v.cells t)):=by
 simp[execOp,ho,Instr.alloc,kg hz,nU]
theorem E0 {t:TypeId} (ho:o.op=.alloc t) (hc:bg P a.tmps.size (.alloc t) o.type .du=true) (hs:cD f B I w H)
 (hk:bd P .du env H K):Out f B I K ((execOp a.eval o).run P w):=by
 simp only[bg,Option.isSome_iff_exists]at hc;obtain⟨v,hz⟩:=hc;exact⟨_,_,_,_,_,_,.inl (sW ho hz),hk,hs.nQ _,eA.refl _,dY.refl _,trivial⟩
theorem Ra {t:TypeId} {x:Operand} {y:SX} (ho:o.op=.box t x) (hc:cz a.tmps.size x y=true) (he:cy B I env a.tmps) (hs:cD f B I w H)
 (hk:bd P (.box y) env H K):Out f B I K ((execOp a.eval o).run P w):=by
 simp only[bd]at hk;refine yf t (bh hc he) hk.1 hs hk.2 _ ?_;simp[execOp,ho,Instr.box,nU]
theorem sX (hs:cD f B I w H) {id i c n:Nat} {es:List V} {p:Pl} (hp:B[id]? =some p) (hH:H[id]? =some (.row es)) (hi:i<es.length) (hn:c+n<=(aw (es.getD i .any)).length):
 ∃carr t,w.heap[p.dI]? =some (.cells carr t (0,0))/\p.base+i*p.esz+c+n<=carr.size/\carr.size=p.size/\(aw (es.getD i .any)).length=p.esz/\
  ∀(j:Nat) x,(aw (es.getD i .any))[j]? =some x->∃v,carr[p.base+i*p.esz+j]? =some v/\aU B I x v:=by
 obtain⟨carr,t,h1,h2,h3,h4⟩:=hs.ok id p _ hp hH;rw[ch]at h4;have hg:es[i]? =some (es.getD i .any):=by simp[hi]
 obtain⟨h5,h6⟩:=h4 i _ hg;refine⟨carr,t,h1,?_,h2,h5,h6⟩;have:i*p.esz+p.esz<=es.length*p.esz:=by rw[<-Nat.succ_mul];exact Nat.mul_le_mul_right _ hi
 omega
theorem cell_of_heap {g:Nat} {carr:Array Value} {t:TypeId} {fr:Nat×Nat} (h:w.heap[g]? =some (.cells carr t fr)) (j:Nat):w.cell? ⟨g,j,none⟩=carr[j]? :=by
 simp[World.cell?,h]
theorem dQ (g o j:Nat):(⟨g,o,none⟩:Addr).add j=⟨g,o+j,none⟩:=by
 unfold Addr.add;split<;>simp_all
theorem ll {t:TypeId} {g:Bool} {m:Nat} (hg:pc P t=some g) (hm:fU P t=some m) (b o:Nat) (l:List Value) (hl:l.length=m) (h1:g=true\/m=1)
 (hc:∀(j:Nat) v,l[j]? =some v->w.cell? ⟨b,o+j,none⟩=some v):
 (loadVar t ⟨b,o,none⟩).run P w=.ok (if g then .agg l.toArray else l.headD undef) w:=by
 have eW:(sizeOf t).run P w=.ok m w:=by
  unfold fU at hm
  cases hi:P.info? t with
  | none=>rw[hi]at hm;cases hm
  | some i=>rw[hi]at hm;simp[sizeOf,typeInfo,hi];simpa using hm
 have xQ:(isAgg t).run P w=.ok g w:=by
  unfold pc at hg
  cases hu:P.underlying t with
  | none=>rw[hu]at hg;cases hg
  | some d=>
   rw[hu]at hg;simp only[isAgg,Sem.run_bind,run_underlying hu,Result.andThen_ok];cases d<;>simp_all
 cases g with
 | true=>
  simp only[loadVar,Sem.run_bind,xQ,eW,Result.andThen_ok,if_true];rw[<-hl,run_loadCells_list w ⟨b,o,none⟩ l (fun j v hj=>by rw[dQ];exact hc j v hj)];simp
 | false=>
  have oM:m=1:=by simpa using h1
  subst oM;match l,hl with
  | [v],_=>
   simp only[loadVar,Sem.run_bind,xQ,Result.andThen_ok];have:=hc 0 v (by simp);simp at this;simp[this]
theorem zY {cs:List V} {l:List Value} {g:Bool} {m:Nat} (h:aV B I cs l) (hm:m<=cs.length) (h1:g=true\/m=1):aU B I (rd g m cs) (if g then .agg (l.take m).toArray else(l.take m).headD undef):=by
 unfold rd
 cases g with
 | true=>simp only[if_true,aU];exact⟨_,rfl,by simpa using h.take m⟩
 | false=>
  have oM:m=1:=by simpa using h1
  subst oM;cases cs with
  | nil=>simp at hm
  | cons c cs=>
   simp only[aV]at h;obtain⟨v,vs,rfl,h2,_⟩:=h;simpa using h2
theorem Bk {t:TypeId} {x:Operand} {g:Bool} {m:Nat} {y:SX} (ho:o.op=.load t x) (hc:bg P a.tmps.size (.load t x) o.type (.load g m y)=true) (he:cy B I env a.tmps) (hs:cD f B I w H)
 (hk:bd P (.load g m y) env H K):∃v x,(execOp a.eval o).run P w=.ok (.value v) w/\K x H/\aU B I x v:=by
 simp only[bg,Bool.and_eq_true,beq_iff_eq,Bool.or_eq_true]at hc;obtain⟨⟨⟨hg,hm⟩,h1⟩,hx⟩:=hc;have hr:=bh hx he;simp only[bd]at hk;split at hk
 ·rename_i id i c e;rw[e]at hr;simp only[aU]at hr;obtain⟨p,hp,hv⟩:=hr;split at hk
  ·rename_i es hH;obtain⟨⟨hi,hn⟩,hk⟩:=hk;obtain⟨carr,tt,hh,eW,_,hl,cr⟩:=sX hs hp hH hi hn;obtain⟨l,uN,jf⟩:=repL_of_cellsG (B:=B) (I:=I) (g:=fun o=>carr[o]?) (cs:=aw (es.getD i .any)) (o:=p.base+i*p.esz) (by rw[fg];exact cr);have MD:=uN.length;have cV:=ll (P:=P) (w:=w) hg hm p.dI (p.base+i*p.esz+c) ((l.drop c).take m) (by rw[List.length_take,List.length_drop];omega) h1 (fun j v hj=>by
    rw[cell_of_heap hh];rw[List.getElem?_take]at hj;split at hj
    ·rw[List.getElem?_drop]at hj;have:=jf _ _ hj;rwa[show p.base+i*p.esz+c+j=p.base+i*p.esz+(c+j) by omega]
    ·cases hj)
   refine⟨_,_,?_,hk,zY (uN.drop c) (by rw[List.length_drop];omega) h1⟩;simp[execOp,ho,Instr.loadAt,hv,Instr.sureAddr,cV]
  ·exact hk.elim
 ·rename_i cells e;rw[e]at hr;simp only[aU]at hr;obtain⟨b,o',hv,cr⟩:=hr;obtain⟨hn,hk⟩:=hk;obtain⟨l,uN,jf⟩:=repL_of_cellsG (B:=B) (I:=I) cr;have MD:=uN.length;have cV:=ll (P:=P) (w:=w) hg hm b o' (l.take m) (by rw[List.length_take];omega) h1 (fun j v hj=>by
   rw[List.getElem?_take]at hj;split at hj
   ·have:=jf _ _ hj;unfold jD at this
    cases hI:I b with
    | none=>rw[hI]at this;cases this
    | some ob=>
     rw[hI]at this;cases ob with
     | cells cc tt fr=>rw[cell_of_heap (hs.lH b _ hI)];exact this
     | _=>cases this
   ·cases hj)
  refine⟨_,_,?_,hk,zY uN hn h1⟩;simp[execOp,ho,Instr.loadAt,hv,Instr.sureAddr,cV]
 ·exact hk.elim
theorem ME {t:TypeId} {x:Operand} {g:Bool} {m:Nat} {y:SX} (ho:o.op=.load t x) (hc:bg P a.tmps.size (.load t x) o.type (.load g m y)=true) (he:cy B I env a.tmps) (hs:cD f B I w H)
 (hk:bd P (.load g m y) env H K):Out f B I K ((execOp a.eval o).run P w):=by
 obtain⟨v,z,h1,h2,h3⟩:=Bk ho hc he hs hk;exact Out.quiet h1 h2 hs h3
end
section
variable {P:Program} {f:Fr} {B:List Pl} {I:IM} {w:World} {H:List ak} {K:V->List ak->Prop} {a:Act} {env:Nat->V} {o:Oper}
theorem kL {α:Type} (l vs:List α) (o k:Nat) (h:o+vs.length<=l.length):
 (l.take o++vs++l.drop (o+vs.length))[k]? =if k<o then l[k]? else if k<o+vs.length then vs[k - o]? else l[k]? :=by
 by_cases h1:k<o
 ·rw[if_pos h1,List.append_assoc,List.getElem?_append_left (by rw[List.length_take];omega),List.getElem?_take,if_pos h1]
 ·rw[if_neg h1];by_cases h2:k<o+vs.length
  ·rw[if_pos h2,List.append_assoc,List.getElem?_append_right (by rw[List.length_take];omega),List.getElem?_append_left (by rw[List.length_take];omega),List.length_take];congr 1;omega
  ·rw[if_neg h2,List.getElem?_append_right (by rw[List.length_append,List.length_take];omega),List.getElem?_drop,List.length_append,List.length_take];congr 1;omega
theorem gZ {α:Type} (l vs:List α) (o:Nat) (h:o+vs.length<=l.length):(l.take o++vs++l.drop (o+vs.length)).length=l.length:=by
 rw[List.length_append,List.length_append,List.length_take,List.length_drop];omega
theorem Bl {x:V} {v:Value} (h:aU B I x v) (hx:x.one=true):v.oneCell'=true:=by
 cases x<;>simp_all[V.one,aU]<;>first
  | (subst h;rfl)
  | (obtain⟨rfl,_⟩:=h;rfl)
  | (obtain⟨_,_,rfl⟩:=h;rfl)
  | (obtain⟨_,rfl,_⟩:=h;rfl)
  | (obtain⟨_,_,rfl,_⟩:=h;rfl)
  | (obtain⟨_,_,_,rfl,_⟩:=h;rfl)
  | (obtain⟨_,_,_,_,rfl,_⟩:=h;rfl)
theorem zZ {x:V} (h:(aw x).all V.one=true):x.isAny=false:=by
 cases x<;>first | rfl | (simp[aw,V.one]at h)
theorem IG {t:TypeId} {x z:Operand} {m:Nat} {y u:SX} (ho:o.op=.store t x z) (hc:bg P a.tmps.size (.store t x z) o.type (.store m y u)=true) (he:cy B I env a.tmps) (hs:cD f B I w H)
 (hk:bd P (.store m y u) env H K):Out f B I K ((execOp a.eval o).run P w):=by
 simp only[bg,Bool.and_eq_true,beq_iff_eq]at hc;obtain⟨⟨hm,hx⟩,hz⟩:=hc;have hr:=bh hx he;have hv:=bh hz he;simp only[bd]at hk;split at hk
 ·rename_i id i c e;rw[e]at hr;simp only[aU]at hr;obtain⟨p,hp,XO⟩:=hr;split at hk
  ·rename_i es hH;obtain⟨⟨hi,hn,hl,ba,WA⟩,hk⟩:=hk;obtain⟨carr,tt,hh,eW,hpsz,XP,cr⟩:=sX hs hp hH hi hn;have XQ:=gI hv (zZ ba);have hlv:=XQ.length;generalize hE:es.getD i .any=E at*;generalize hX:dp env u=X at*;generalize hVV:a.eval z=VV at*;have lP:(sizeOf t).run P w=.ok m w:=by
    unfold fU at hm
    cases hi:P.info? t with
    | none=>rw[hi]at hm;cases hm
    | some i=>rw[hi]at hm;simp[sizeOf,typeInfo,hi];simpa using hm
   have E1:∀v∈VV.cells.toList,v.oneCell'=true:=by
    intro v hvm;obtain⟨j,hj⟩:=List.getElem?_of_mem hvm;have oN:=(List.getElem?_eq_some_iff.1 hj).1;have zI:(aw X)[j]? =some ((aw X)[j]'(by omega)):=List.getElem?_eq_getElem _;obtain⟨v',h1,h2⟩:=XQ.get zI;rw[hj]at h1;cases h1;exact Bl h2 (List.all_eq_true.1 ba _ (List.getElem_mem _))
   have E2:=run_storeCells_at (P:=P) p.dI (p.base+i*p.esz+c) tt VV.cells.toList 0 carr w hh (by omega) E1;have yg:p.base+i*p.esz+c+VV.cells.toList.length<=carr.toList.length:=by simp at hlv⊢;omega
   have yh:c+(aw X).length<=(aw E).length:=by omega
   have cV:(execOp a.eval o).run P w=.ok .skip (w.setRow p.dI (carr.toList.take (p.base+i*p.esz+c)++VV.cells.toList++carr.toList.drop (p.base+i*p.esz+c+VV.cells.toList.length)).toArray):=by
    have h0:VV.cells.size=m:=by simp at hlv;omega
    simp only[Nat.add_zero]at E2;simp[execOp,ho,Instr.storeAt,XO,Instr.sureAddr,storeVar,lP,hVV,h0,E2,-List.append_assoc]
   obtain⟨_,_,h1,h2,h3,h4⟩:=hs.ok id p _ hp hH;rw[hh]at h1;cases h1;refine⟨undef,_,_,_,_,_,.inr ⟨cV,rfl⟩,hk,hs.rewrite hp hH hh ?_ (by simpa using h3) ?_,eA.refl _,dY.refl _,by simp[aU]⟩
   ·rw[List.size_toArray,gZ _ _ _ yg];simp
   ·rw[ch]at h4⊢;intro k x hx;rw[dh]at hx;have qI:∀q,((carr.toList.take (p.base+i*p.esz+c)++VV.cells.toList++carr.toList.drop (p.base+i*p.esz+c+VV.cells.toList.length)).toArray)[q]? =if q<p.base+i*p.esz+c then carr[q]? else if q<p.base+i*p.esz+c+VV.cells.toList.length then VV.cells.toList[q - (p.base+i*p.esz+c)]? else carr[q]? :=by
     intro q;rw[List.getElem?_toArray,kL _ _ _ _ yg];simp
    split at hx
    ·rename_i sY;subst sY;first | (rw[if_pos hi]at hx;cases hx) | cases hx
     rw[WA];refine⟨by rw[<-XP];exact gZ _ _ _ yh,fun j y hj=> ?_⟩;unfold iZ at hj
     rw[kL _ _ _ _ yh]at hj;rw[qI];split at hj
     ·rw[if_pos (by omega)];exact cr j y hj
     ·split at hj
      ·rw[if_neg (by omega),if_pos (by omega)];obtain⟨v',h5,h6⟩:=XQ.get hj;exact⟨v',by rw[<-h5];congr 1;omega,h6⟩
      ·rw[if_neg (by omega),if_neg (by omega)];exact cr j y hj
    ·rename_i sY;obtain⟨h5,h6⟩:=h4 k x hx;refine⟨h5,fun j y hj=> ?_⟩;have oN:=(List.getElem?_eq_some_iff.1 hj).1;rw[qI];have dr:p.base+k*p.esz+j<p.base+i*p.esz+c\/¬p.base+k*p.esz+j<p.base+i*p.esz+c+VV.cells.toList.length:=by
      rcases Nat.lt_or_gt_of_ne sY with ct | ct
      ·right;have:i*p.esz+p.esz<=k*p.esz:=by rw[<-Nat.succ_mul];exact Nat.mul_le_mul_right _ ct
       omega
      ·left;have:k*p.esz+p.esz<=i*p.esz:=by rw[<-Nat.succ_mul];exact Nat.mul_le_mul_right _ ct
       omega
     rcases dr with dr | dr
     ·rw[if_pos dr];exact h6 j y hj
     ·rw[if_neg (by omega),if_neg dr];exact h6 j y hj
  ·exact hk.elim
 ·exact hk.elim
end
section
variable {P:Program} {f:Fr} {B:List Pl} {I:IM} {w:World} {H:List ak} {K:V->List ak->Prop} {a:Act} {env:Nat->V} {o:Oper}
theorem MF {x:Operand} {y:SX} (ho:o.op=.nilCheck x) (hc:cz a.tmps.size x y=true) (he:cy B I env a.tmps) (hs:cD f B I w H)
 (hk:bd P (.b5 y) env H K):Out f B I K ((execOp a.eval o).run P w):=by
 have hr:=bh hc he;simp only[bd]at hk;split at hk
 ·rename_i id i c e;rw[e]at hr;refine Out.quiet (v:=a.eval x) ?_ hk hs hr;simp only[aU]at hr;obtain⟨p,hp,hv⟩:=hr;simp[execOp,ho,hv]
 ·rename_i cs e;rw[e]at hr;refine Out.quiet (v:=a.eval x) ?_ hk hs hr;simp only[aU]at hr;obtain⟨b,o',hv,_⟩:=hr;simp[execOp,ho,hv]
 ·rename_i g q r e;rw[e]at hr;refine Out.quiet (v:=a.eval x) ?_ hk hs hr;simp only[aU]at hr;obtain⟨b,o',hv,_⟩:=hr;simp[execOp,ho,hv]
 ·exact hk.elim
theorem jX (x y:ByteArray):(x.toList==y.toList)=decide (x=y):=by
 have h:x.toList=y.toList↔x=y:=by
  constructor
  ·intro h;rw[ByteArray.toList_eq,ByteArray.toList_eq]at h;cases x;cases y;congr 1
   exact Array.toList_inj.1 h
  ·rintro rfl;rfl
 rw[Bool.eq_iff_iff];simp[h]
theorem Rb {t u:TypeId} {op:BinOp} {x y:Operand} {x' y':SX} (ho:o.op=.binOp op t x y u) (hx:cz a.tmps.size x x'=true) (hy:cz a.tmps.size y y'=true) (he:cy B I env a.tmps) (hs:cD f B I w H)
 (hk:bd P (.bin op x' y') env H K):Out f B I K ((execOp a.eval o).run P w):=by
 have hr:=bh hx he;have rV:=bh hy he;simp only[bd]at hk;split at hk
 ·rename_i k n k' n' e e';rw[e]at hr;rw[e']at rV;simp only[aU]at hr rV;obtain⟨rfl,hk⟩:=hk;cases op<;>simp only at hk<;>first
   | exact hk.elim
   | (refine Out.quiet ?_ hk hs (by simp only[aU];rfl);simp[execOp,ho,hr,rV,eqGuard,binOp,Op.intArith,Op.intCmp,Op.intDiv,hk];done)
   | (refine Out.quiet ?_ hk hs (by simp only[aU];rfl);simp[execOp,ho,hr,rV,eqGuard,binOp,Op.intArith,Op.intCmp,Op.intDiv,hk,bne,BEq.beq,instBEqOfDecidableEq];done)
   | (refine Out.quiet ?_ hk.2 hs (by simp only[aU];rfl);simp[execOp,ho,hr,rV,eqGuard,binOp,Op.intArith,Op.intCmp,Op.intDiv,hk.1];done)
 ·rename_i s s' e e';rw[e]at hr;rw[e']at rV;simp only[aU]at hr rV;obtain⟨hr,u5⟩:=hr;obtain⟨rV,lz⟩:=rV;cases op<;>simp only at hk<;>first
   | exact hk.elim
   | (refine Out.quiet ?_ hk hs (by simp only[aU];rfl);simp[execOp,ho,hr,rV,eqGuard,binOp,Op.stringOp,jX];done)
   | (refine Out.quiet ?_ hk hs (by simp only[aU];rfl);simp[execOp,ho,hr,rV,eqGuard,binOp,Op.stringOp,jX,ByteArray.toList_eq];done)
   | (refine Out.quiet (v:=.string (s++s')) ?_ hk.2 hs (by have:=hk.1;simp[aU,maxLen];omega)
      have h0:=hk.1;have:¬(9223372036854775807:Int)<(s.size:Int)+(s'.size:Int):=by omega
      simp[execOp,ho,hr,rV,eqGuard,binOp,Op.stringOp,IntKind.max,IntKind.signed,IntKind.bits,this])
 ·exact hk.elim
theorem Rc {t u:TypeId} {neg:Bool} {x y:Operand} {x' y':SX} (ho:o.op=.binOp (if neg then .neq else .eql) t x y u) (hx:cz a.tmps.size x x'=true) (hy:cz a.tmps.size y y'=true)
 (ht:P.underlying t=some .bool) (he:cy B I env a.tmps) (hs:cD f B I w H)
 (hk:bd P (.beq neg x' y') env H K):Out f B I K ((execOp a.eval o).run P w):=by
 have hr:=bh hx he;have rV:=bh hy he;simp only[bd]at hk;split at hk
 ·rename_i b c e e';rw[e]at hr;rw[e']at rV;simp only[aU]at hr rV;cases neg<;>simp only[if_true,if_false,Bool.false_eq_true]at hk ho<;>
  ·refine Out.quiet ?_ hk hs (by simp only[aU];rfl);simp only[execOp,ho,hr,rV,eqGuard,Sem.run_bind];first
    | (simp[run_eql_bool w t b c ht];done)
    | simp[run_neq_bool w t b c ht,bne]
 ·exact hk.elim
theorem sZ (d:Nat) (t e:TypeId) (a:Option Addr) (l c:Nat) (h:P.underlying t=some (.slice e)):(Op.equalIn (d+1) t (.slice a l c) (.slice none 0 0)).run P w=.ok a.isNone w:=by
 cases a<;>simp[Op.equalIn,run_underlying h]
theorem run_equal_sn (t e:TypeId) (a:Option Addr) (l c:Nat) (h:P.underlying t=some (.slice e)):(Op.equal t (.slice a l c) (.slice none 0 0)).run P w=.ok a.isNone w:=sZ 9999 t e a l c h
theorem z1 (t e:TypeId) (a:Option Addr) (l c:Nat) (h:P.underlying t=some (.slice e)):(binOp .eql t (.slice a l c) (.slice none 0 0)).run P w=.ok (.bool a.isNone) w:=by
 simp only[binOp];simp[run_equal_sn t e a l c h]
theorem z6 (t e:TypeId) (a:Option Addr) (l c:Nat) (h:P.underlying t=some (.slice e)):(binOp .neq t (.slice a l c) (.slice none 0 0)).run P w=.ok (.bool (!a.isNone)) w:=by
 simp only[binOp];simp[run_equal_sn t e a l c h]
theorem MG {t u:TypeId} {op:BinOp} {neg:Bool} {x y:Operand} {x':SX} (ho:o.op=.binOp op t x y u) (hc:bg P a.tmps.size (.binOp op t x y u) o.type (.rU neg x')=true) (he:cy B I env a.tmps) (hs:cD f B I w H)
 (hk:bd P (.rU neg x') env H K):Out f B I K ((execOp a.eval o).run P w):=by
 simp only[bg,Bool.and_eq_true,decide_eq_true_eq]at hc;obtain⟨⟨⟨xR,ht⟩,hx⟩,hy⟩:=hc;obtain⟨e,Re⟩:=Option.isSome_iff_exists.1 ht;have ht:=(show P.underlying t=some (.slice e) by
  unfold EZ at Re
  split at Re
  ·rename_i h;cases Re;exact h
  ·cases Re)
 have hy:y=.const (.slice none 0 0):=by
  split at hy
  ·rfl
  ·cases hy
 subst hy;have hr:=bh hx he;have run:∀(ad:Option Addr) (l c:Nat) (b:Bool),a.eval x=.slice ad l c->ad.isNone=b->K (.bool (if neg then !b else b)) H->Out f B I K ((execOp a.eval o).run P w):=by
  intro ad l c b hv hb hk;refine Out.quiet (v:=.bool (if neg then !b else b)) ?_ hk hs (by simp[aU]);subst xR;have h2:a.eval (.const (.slice none 0 0))=.slice none 0 0:=rfl;cases neg with
  | true=>
   have:=z6 (P:=P) (w:=w) t e ad l c ht;simp only[execOp,ho,hv,h2,eqGuard,Sem.run_bind,if_true,this,hb];simp[Sem.run_bind,this,hb]
  | false=>
   have:=z1 (P:=P) (w:=w) t e ad l c ht;simp only[execOp,ho,hv,h2,eqGuard,Sem.run_bind,this,hb,Bool.false_eq_true,if_false];simp[Sem.run_bind,this,hb]
 simp only[bd]at hk;split at hk
 ·rename_i e1;rw[e1]at hr;simp only[aU]at hr;refine run none 0 0 true hr rfl ?_;cases neg<;>exact hk
 ·rename_i e1;rw[e1]at hr;simp only[aU]at hr;obtain⟨ad,hr⟩:=hr;exact run ad 0 0 _ hr rfl (hk _)
 ·rename_i e1;rw[e1]at hr;simp only[aU]at hr;obtain⟨ad,cap,hr,_⟩:=hr;exact run ad _ _ _ hr rfl (hk _)
 ·rename_i e1;rw[e1]at hr;simp only[aU]at hr;obtain⟨ad,cap,hr,_,_,h4⟩:=hr;rcases h4 with h4 | ⟨b,o',sz,h5,_⟩
  ·cases h4
  ·refine run ad _ _ false hr (by rw[h5];rfl) ?_;cases neg<;>exact hk
 ·rename_i e1;rw[e1]at hr;simp only[aU]at hr;obtain⟨p,ad,cap,_,hr,h4,h5,_⟩:=hr;refine run ad _ _ false hr (by rw[h4 (by omega)];rfl) ?_;cases neg<;>exact hk
 ·rename_i e1;rw[e1]at hr;simp only[aU]at hr;obtain⟨p,ad,cap,_,hr,h4,h5,_⟩:=hr;exact run ad _ _ _ hr rfl (hk _)
 ·exact hk.elim
theorem XR {t:TypeId} {op:UnOp} {x:Operand} {x':SX} (ho:o.op=.unOp op t x) (hx:cz a.tmps.size x x'=true) (he:cy B I env a.tmps) (hs:cD f B I w H)
 (hk:bd P (.un op x') env H K):Out f B I K ((execOp a.eval o).run P w):=by
 have hr:=bh hx he;simp only[bd]at hk;split at hk
 ·rename_i e;rw[e]at hr;simp only[aU]at hr;refine Out.quiet ?_ hk hs (by simp only[aU];rfl);simp[execOp,ho,hr,Op.unary]
 ·rename_i e;rw[e]at hr;simp only[aU]at hr;refine Out.quiet ?_ hk hs (by simp only[aU];rfl);simp[execOp,ho,hr,Op.unary,Op.intArith]
 ·exact hk.elim
theorem MH {s d:TypeId} {k:IntKind} {x:Operand} {x':SX} (ho:o.op=.convert s d x) (gn:(P.underlying s).isSome=true) (hd:wA P d=some k) (hx:cz a.tmps.size x x'=true) (he:cy B I env a.tmps) (hs:cD f B I w H)
 (hk:bd P (.conv k x') env H K):Out f B I K ((execOp a.eval o).run P w):=by
 have hr:=bh hx he;simp only[bd]at hk;obtain⟨ds,XT⟩:=Option.isSome_iff_exists.1 gn;have sl:P.underlying d=some (.int k):=by
  unfold wA at hd
  split at hd
  ·rename_i e;rw[e];cases hd;rfl
  ·cases hd
 split at hk
 ·rename_i e;rw[e]at hr;simp only[aU]at hr;refine Out.quiet ?_ hk hs (by simp only[aU];rfl);simp[execOp,ho,hr,convert,run_underlying XT,run_underlying sl,Conv.intToInt]
 ·exact hk.elim
theorem IH {s d:TypeId} {x:Operand} {x':SX} (ho:o.op=.convert s d x) (gn:(P.underlying s).isSome=true) (sl:P.underlying d=some .string) (hx:cz a.tmps.size x x'=true) (he:cy B I env a.tmps) (hs:cD f B I w H)
 (hk:bd P (.sS x') env H K):Out f B I K ((execOp a.eval o).run P w):=by
 have hr:=bh hx he;simp only[bd]at hk;obtain⟨ds,XT⟩:=Option.isSome_iff_exists.1 gn;split at hk
 ·rename_i e;rw[e]at hr;refine Out.quiet ?_ hk hs hr;simp only[aU]at hr;cases ds<;>simp[execOp,ho,hr.1,convert,run_underlying XT,run_underlying sl]
 ·exact hk.elim
theorem MI {g:FuncId} {fs cs:Array Operand} {XU z7:List SX} (ho:o.op=.makeFunc (.func g) fs cs) (h1:nC a.tmps.size fs.toList XU=true) (h2:nC a.tmps.size cs.toList z7=true) (he:cy B I env a.tmps) (hs:cD f B I w H)
 (hk:bd P (.fC g XU z7) env H K):Out f B I K ((execOp a.eval o).run P w):=by
 simp only[bd]at hk;refine Out.quiet (v:=.func (.func g) (fs.map a.eval) (cs.map a.eval)) ?_ hk hs ?_
 ·simp[execOp,ho,Instr.makeFunc]
 ·simp only[aU];exact⟨_,_,rfl,by simpa using mM he h1,by simpa using mM he h2⟩
theorem II {t:TypeId} {i off:Nat} {x:Operand} {x':SX} (ho:o.op=.fieldAddr t x i) (hc:bg P a.tmps.size (.fieldAddr t x i) o.type (.nB off x')=true) (he:cy B I env a.tmps) (hs:cD f B I w H)
 (hk:bd P (.nB off x') env H K):Out f B I K ((execOp a.eval o).run P w):=by
 simp only[bg]at hc;split at hc
 ·rename_i fs ht;split at hc
  ·rename_i fd WB;simp only[Bool.and_eq_true,beq_iff_eq]at hc;obtain⟨⟨rfl,eW⟩,hx⟩:=hc;obtain⟨s,z8,u5⟩:∃s,(sizeOf fd.type).run P w=.ok s w/\s≠0:=by
    split at eW
    ·rename_i s hq;unfold fU at hq
     cases hi:P.info? fd.type with
     | none=>rw[hi]at hq;cases hq
     | some ii=>rw[hi]at hq;exact⟨s,by simp[sizeOf,typeInfo,hi];simpa using hq,by simpa using eW⟩
    ·cases eW
   have hfp:∀ad:Addr,(fieldPlace ad fd).run P w=.ok (ad.add fd.offset) w:=fun ad=>by simp[fieldPlace,z8,u5]
   have hr:=bh hx he;simp only[bd]at hk;split at hk
   ·rename_i id j c e;rw[e]at hr;simp only[aU]at hr;obtain⟨p,hp,hv⟩:=hr;refine Out.quiet (v:=.pointer (some ⟨p.dI,p.base+j*p.esz+(c+fd.offset),none⟩)) ?_ hk hs ?_
    ·simp[execOp,ho,Instr.fieldAt,run_underlying ht,WB,hv,Instr.sureAddr,hfp,dQ];omega
    ·simp only[aU];exact⟨p,hp,rfl⟩
   ·rename_i cells e;rw[e]at hr;simp only[aU]at hr;obtain⟨b,o',hv,cr⟩:=hr;refine Out.quiet (v:=.pointer (some ⟨b,o'+fd.offset,none⟩)) ?_ hk hs ?_
    ·simp[execOp,ho,Instr.fieldAt,run_underlying ht,WB,hv,Instr.sureAddr,hfp,dQ]
    ·simp only[aU];refine⟨b,_,rfl,?_⟩;rw[fg]at cr⊢;intro j c hj;rw[List.getElem?_drop]at hj;obtain⟨v,h1,h2⟩:=cr _ c hj;exact⟨v,by rw[<-h1];congr 1;omega,h2⟩
   ·exact hk.elim
  ·cases hc
 ·cases hc
theorem pf {t:TypeId} {g:Bool} {m:Nat} (hg:pc P t=some g) (hm:fU P t=some m) (h1:g=true\/m=1) (l:List Value) (off:Nat) (hl:off+m<=l.length):
 (part t l.toArray off).run P w=.ok (if g then .agg ((l.drop off).take m).toArray else((l.drop off).take m).headD undef) w:=by
 have eW:(sizeOf t).run P w=.ok m w:=by
  unfold fU at hm
  cases hi:P.info? t with
  | none=>rw[hi]at hm;cases hm
  | some i=>rw[hi]at hm;simp[sizeOf,typeInfo,hi];simpa using hm
 have xQ:(isAgg t).run P w=.ok g w:=by
  unfold pc at hg
  cases hu:P.underlying t with
  | none=>rw[hu]at hg;cases hg
  | some d=>
   rw[hu]at hg;simp only[isAgg,Sem.run_bind,run_underlying hu,Result.andThen_ok];cases d<;>simp_all
 cases g with
 | true=>
  simp[part,xQ,eW]
 | false=>
  have oM:m=1:=by simpa using h1
  subst oM;have ct:off<l.length:=by omega
  simp[part,xQ,List.getElem?_eq_getElem ct];rw[List.drop_eq_getElem_cons ct];rfl
end
section
variable {P:Program} {f:Fr} {B:List Pl} {I:IM} {w:World} {H:List ak} {K:V->List ak->Prop} {a:Act} {env:Nat->V} {o:Oper}
theorem IJ {t:TypeId} {i off m:Nat} {g:Bool} {x:Operand} {x':SX} (ho:o.op=.field t x i) (hc:bg P a.tmps.size (.field t x i) o.type (.field g off m x')=true) (he:cy B I env a.tmps) (hs:cD f B I w H)
 (hk:bd P (.field g off m x') env H K):Out f B I K ((execOp a.eval o).run P w):=by
 simp only[bg]at hc;split at hc
 ·rename_i fs ht;split at hc
  ·rename_i fd WB;simp only[Bool.and_eq_true,beq_iff_eq,Bool.or_eq_true]at hc;obtain⟨⟨⟨⟨rfl,hm⟩,hg⟩,h1⟩,hx⟩:=hc;have hr:=bh hx he;simp only[bd]at hk;split at hk
   ·rename_i cs e;rw[e]at hr;simp only[aU]at hr;obtain⟨vs,hv,hl⟩:=hr;obtain⟨hn,hk⟩:=hk;have MD:=hl.length;have cV:=pf (P:=P) (w:=w) hg hm h1 vs.toList fd.offset (by omega);refine Out.quiet ?_ hk hs (zY (hl.drop fd.offset) (by rw[List.length_drop];omega) h1);simp only[Array.toArray_toList]at cV;simp only[execOp,ho,Instr.field,Sem.run_bind,run_underlying ht,Result.andThen_ok,WB,hv,asAgg,Sem.run_pure,cV]
   ·exact hk.elim
  ·cases hc
 ·cases hc
theorem C5 {i:Nat} {x:Operand} {x':SX} (ho:o.op=.extract x i) (hx:cz a.tmps.size x x'=true) (he:cy B I env a.tmps) (hs:cD f B I w H)
 (hk:bd P (.extract x' i) env H K):Out f B I K ((execOp a.eval o).run P w):=by
 have hr:=bh hx he;simp only[bd]at hk;split at hk
 ·rename_i vs e;rw[e]at hr;simp only[aU]at hr;obtain⟨cs,hv,hl⟩:=hr;obtain⟨hi,hk⟩:=hk;obtain⟨v,h1,h2⟩:=hl.get (i:=i) (c:=vs.getD i .any) (by simp[hi]);have s3:cs[i]? =some v:=by simpa using h1
  refine Out.quiet (v:=v) ?_ hk hs h2;simp[execOp,ho,Instr.extract,hv,s3]
 ·exact hk.elim
theorem nV {t e:TypeId} (h:EZ P t=some e):P.underlying t=some (.slice e):=by
 unfold EZ at h
 split at h
 ·rename_i q;rw[q];cases h;rfl
 ·cases h
theorem lU {e:TypeId} {m:Nat} (hm:fU P e=some m):(sizeOf e).run P w=.ok m w:=by
 unfold fU at hm
 cases hi:P.info? e with
 | none=>rw[hi]at hm;cases hm
 | some i=>rw[hi]at hm;simp[sizeOf,typeInfo,hi];simpa using hm
theorem IK {t:TypeId} {esz:Nat} {x i:Operand} {x' i':SX} (ho:o.op=.indexAddr t x i) (hc:bg P a.tmps.size (.indexAddr t x i) o.type (.gk esz x' i')=true) (he:cy B I env a.tmps) (hs:cD f B I w H)
 (hk:bd P (.gk esz x' i') env H K):Out f B I K ((execOp a.eval o).run P w):=by
 simp only[bg]at hc;split at hc
 ·rename_i el kD;simp only[Bool.and_eq_true,beq_iff_eq]at hc;obtain⟨⟨eW,hx⟩,hi⟩:=hc;have ht:=nV kD;have C6:=fun w=>lU (P:=P) (w:=w) eW
  have hr:=bh hx he;have Ia:=bh hi he;simp only[bd]at hk;split at hk
  ·rename_i k n ei;rw[ei]at Ia;simp only[aU]at Ia;split at hk
   ·rename_i es e;rw[e]at hr;simp only[aU]at hr;obtain⟨ad,cap,hv,hl,iQ,hh⟩:=hr;obtain⟨⟨⟨h0,h1⟩,lI⟩,hk⟩:=hk;rcases hh with rfl | ⟨b,o',sz,rfl,C7⟩
    ·simp at h1
    ·rw[ch]at C7;obtain⟨hq,cr⟩:=C7 n.toNat (es.getD n.toNat .any) (by simp[h1]);have MJ:sz=esz:=by omega
     subst MJ;refine Out.quiet (v:=.pointer (some ⟨b,o'+n.toNat*sz,none⟩)) ?_ hk hs ?_
     ·have:0<=n/\n<(es.length:Int):=by omega
      simp[execOp,ho,Instr.indexAt,run_underlying ht,Ia,hv,asIntOf,C6,this,dQ]
     ·simp only[aU];exact⟨b,_,rfl,by rw[fg];exact cr⟩
   ·rename_i id off len e;rw[e]at hr;simp only[aU]at hr;obtain⟨p,ad,cap,hp,hv,s4,hl,iQ,nD⟩:=hr;split at hk
    ·rename_i es hH;obtain⟨⟨⟨h0,h1⟩,IL,lI⟩,hk⟩:=hk;obtain⟨carr,tt,hh,hsz1,_,Ez,cr⟩:=sX (c:=0) (n:=0) hs hp hH (i:=off+n.toNat) (by omega) (by omega);have XV:p.esz=esz:=by omega
     have had:=s4 (by omega);subst had;refine Out.quiet (v:=.pointer (some ⟨p.dI,p.base+(off+n.toNat)*p.esz+0,none⟩)) ?_ hk hs ?_
     ·have:0<=n/\n<(len:Int):=by omega
      simp[execOp,ho,Instr.indexAt,run_underlying ht,Ia,hv,asIntOf,C6,this,dQ,XV,Nat.add_mul];omega
     ·simp only[aU];exact⟨p,hp,rfl⟩
    ·exact hk.elim
   ·exact hk.elim
  ·exact hk.elim
 ·cases hc
theorem ML {t:TypeId} {x i:Operand} {x' i':SX} (ho:o.op=.index t x i) (ht:P.underlying t=some .string) (hx:cz a.tmps.size x x'=true) (hi:cz a.tmps.size i i'=true) (he:cy B I env a.tmps) (hs:cD f B I w H)
 (hk:bd P (.uX x' i') env H K):Out f B I K ((execOp a.eval o).run P w):=by
 have hr:=bh hx he;have Ia:=bh hi he;simp only[bd]at hk;split at hk
 ·rename_i s k n e ei;rw[e]at hr;rw[ei]at Ia;simp only[aU]at hr Ia;obtain⟨⟨h0,h1⟩,hk⟩:=hk;refine Out.quiet (v:=.int .u8 (bt s n.toNat)) ?_ hk hs (by simp only[aU]);have qI:s[n.toNat]? =some (s[n.toNat]'h1):=by simp[getElem?_pos,h1]
  simp[execOp,ho,Instr.index,run_underlying ht,Ia,hr.1,asIntOf,h0,qI,bt];have s3:n.toNat<s.data.size:=h1;rw[Array.getElem?_eq_getElem s3];rfl
 ·exact hk.elim
theorem Rf {c:Call} {str:Bool} {x':SX} (ho:o.op=.call c) (hc:bg P a.tmps.size (.call c) o.type (.len str x')=true) (he:cy B I env a.tmps) (hs:cD f B I w H)
 (hk:bd P (.len str x') env H K):Out f B I K ((execOp a.eval o).run P w):=by
 simp only[bg]at hc;split at hc
 ·rename_i y t rW eD IN;simp only[Bool.and_eq_true]at hc;obtain⟨hx,Ql⟩:=hc;have hr:=bh hx he;have ha:c.args= #[y]:=by apply Array.toList_inj.1;simpa using eD
  have hT:c.argTypes= #[t]:=by apply Array.toList_inj.1;simpa using IN
  simp only[bd]at hk;split at Ql
  ·rename_i hu;split at hk<;>try exact hk.elim
   all_goals rename_i e
   all_goals first | (cases ‹true=false›) | skip
   rw[e]at hr;simp only[aU]at hr;obtain⟨hv,hm⟩:=hr;refine Out.quiet ?_ (hk hm) hs (by simp only[aU];first | rfl | trivial)
   simp[execOp,ho,resolve,rW,ha,hT,invoke,builtin,Builtin.len_,run_underlying hu,hv,goInt]
  ·rename_i el hu;split at hk<;>first | exact hk.elim | (cases ‹false=true›) | skip
   ·rename_i e;rw[e]at hr;simp only[aU]at hr;obtain⟨ad,cap,hv,hl,iQ,hh⟩:=hr;refine Out.quiet ?_ (hk (by simp[maxLen]at iQ;omega)) hs (by simp only[aU];first | rfl | trivial)
    simp[execOp,ho,resolve,rW,ha,hT,invoke,builtin,Builtin.len_,run_underlying hu,hv,goInt]
   ·rename_i e;rw[e]at hr;simp only[aU]at hr;refine Out.quiet ?_ hk hs (by simp only[aU];first | rfl | trivial)
    simp[execOp,ho,resolve,rW,ha,hT,invoke,builtin,Builtin.len_,run_underlying hu,hr,goInt]
   ·rename_i e;rw[e]at hr;simp only[aU]at hr;obtain⟨ad,hr⟩:=hr;refine Out.quiet ?_ hk hs (by simp only[aU];first | rfl | trivial)
    simp[execOp,ho,resolve,rW,ha,hT,invoke,builtin,Builtin.len_,run_underlying hu,hr,goInt]
   ·rename_i e;rw[e]at hr;simp only[aU]at hr;obtain⟨p,ad,cap,hp,hv,s4,hl,iQ,nD⟩:=hr;refine Out.quiet ?_ (hk (by simp[maxLen]at iQ;omega)) hs (by simp only[aU];first | rfl | trivial)
    simp[execOp,ho,resolve,rW,ha,hT,invoke,builtin,Builtin.len_,run_underlying hu,hv,goInt]
  ·cases Ql
 ·cases hc
end
section
variable {P:Program} {f:Fr} {B:List Pl} {I:IM} {w:World} {H:List ak} {K:V->List ak->Prop} {a:Act} {env:Nat->V} {o:Oper}
theorem mN {lo:Option Operand} {H9:Option SX} {d l:Int} (hc:C4 a.tmps.size lo H9=true) (he:cy B I env a.tmps)
 (h:EY env d H9=some l):(lo.map a.eval=none/\l=d)\/∃k,lo.map a.eval=some (.int k l):=by
 cases lo with
 | none=>
  cases H9 with
  | none=>left;simp[EY]at h;simp[h]
  | some y=>simp[C4]at hc
 | some x=>
  cases H9 with
  | none=>simp[C4]at hc
  | some y=>
   right;simp only[C4]at hc;have hr:=bh hc he;simp only[EY]at h;split at h
   ·rename_i k i e;rw[e]at hr;simp only[aU]at hr;cases h;exact⟨k,by simp[hr]⟩
   ·cases h
theorem jY {t e:TypeId} {sz len cap:Nat} {ad:Option Addr} {l h:Int} {lo hi:Option Value} (ht:P.underlying t=some (.slice e)) (eW:fU P e=some sz)
 (yj:(lo=none/\l=0)\/∃k,lo=some (.int k l)) (IP:(hi=none/\h=len)\/∃k,hi=some (.int k h)) (h0:0<=l) (h1:l<=h) (h2:h<=cap) (Ib:len<=cap):
 (Instr.sliceAt t (.slice ad len cap) lo hi none).run P w=.ok (.slice (if cap=l.toNat then ad else ad.map (·.add (l.toNat*sz))) (h.toNat - l.toNat) (cap - l.toNat)) w:=by
 have C6:=fun w=>lU (P:=P) (w:=w) eW
 have hb:∀(k:IntKind) (i:Int) (y:Nat) (c:BoundsCode),0<=i->i<=y->(Instr.sliceBound (.int k i) y c).run P w=.ok i.toNat w:=by
  intro k i y c h0 h1;simp[Instr.sliceBound,asIntOf,h0,h1]
 rcases yj with⟨rfl,rfl⟩ | ⟨k,rfl⟩<;>rcases IP with⟨rfl,rfl⟩ | ⟨k',rfl⟩
 ·simp[Instr.sliceAt,run_underlying ht,Instr.slice,Instr.sliceBounds,C6]
 ·simp[Instr.sliceAt,run_underlying ht,Instr.slice,Instr.sliceBounds,C6,hb _ _ _ _ (by omega:0<=h) h2]
 ·simp[Instr.sliceAt,run_underlying ht,Instr.slice,Instr.sliceBounds,C6,hb _ _ _ _ h0 h1]
 ·simp[Instr.sliceAt,run_underlying ht,Instr.slice,Instr.sliceBounds,C6,hb _ _ _ _ (by omega:0<=h) h2,hb _ l h.toNat _ h0 (by omega)]
theorem IQ {t:TypeId} {esz:Nat} {x:Operand} {lo hi:Option Operand} {x':SX} {H9 xP:Option SX} (ho:o.op=.slice t x lo hi none) (hc:bg P a.tmps.size (.slice t x lo hi none) o.type (.slice esz x' H9 xP)=true) (he:cy B I env a.tmps) (hs:cD f B I w H)
 (hk:bd P (.slice esz x' H9 xP) env H K):Out f B I K ((execOp a.eval o).run P w):=by
 simp only[bg]at hc;split at hc
 ·rename_i el kD;simp only[Bool.and_eq_true,beq_iff_eq]at hc;obtain⟨⟨⟨eW,hx⟩,hl⟩,hh⟩:=hc;have ht:=nV kD;have hr:=bh hx he;have cV:∀r,(Instr.sliceAt t (a.eval x) (lo.map a.eval) (hi.map a.eval) none).run P w=.ok r w->(execOp a.eval o).run P w=.ok (.value r) w:=by
   intro r h;simp[execOp,ho,h]
  simp only[bd]at hk;split at hk
  ·exact hk.elim
  ·rename_i l hle;have yj:=mN (d:=0) hl he hle;split at hk
   ·rename_i es e;rw[e]at hr;simp only[aU]at hr;obtain⟨ad,cap,hv,Ib,iQ,hh'⟩:=hr;split at hk
    ·exact hk.elim
    ·rename_i h Rg;have IP:=mN (d:=(es.length:Int)) hh he Rg;obtain⟨⟨h0,h1,h2,ym⟩,hk⟩:=hk;have hg:=jY (P:=P) (w:=w) (ad:=ad) (len:=es.length) (cap:=cap) (l:=l) (h:=h) ht eW yj IP h0 h1 (by omega) Ib;rw[<-hv]at hg;refine Out.quiet (cV _ hg) hk hs ?_;simp only[aU];have hlen:((es.take h.toNat).drop l.toNat).length=h.toNat - l.toNat:=by rw[List.length_drop,List.length_take];omega
     refine⟨_,_,by rw[hlen],by rw[hlen];omega,by omega,?_⟩;rcases hh' with rfl | ⟨b,o',sz,rfl,C7⟩
     ·left;simp
     ·by_cases hz:(es.take h.toNat).drop l.toNat=[]
      ·exact .inl hz
      ·right;have gp:0<((es.take h.toNat).drop l.toNat).length:=List.length_pos_iff.2 hz;have dr:¬cap=l.toNat:=by omega
       rw[ch]at C7;have MJ:sz=esz:=by
        cases es with
        | nil=>simp at gp
        | cons x xs=>
         have:=(C7 0 x (by simp)).1;have:=ym x rfl;omega
       subst MJ;refine⟨b,o'+l.toNat*sz,sz,?_,?_⟩
       ·rw[if_neg dr];simp only[Option.map_some,dQ]
       ·rw[ch];intro i x hi;rw[List.getElem?_drop,List.getElem?_take]at hi;split at hi
        ·obtain⟨h5,h6⟩:=C7 _ x hi;refine⟨h5,fun j c hj=> ?_⟩;obtain⟨v,h7,h8⟩:=h6 j c hj;exact⟨v,by rw[<-h7];congr 1;rw[Nat.add_mul];omega,h8⟩
        ·cases hi
   ·rename_i id off len e;rw[e]at hr;simp only[aU]at hr;obtain⟨p,ad,cap,hp,hv,s4,Ib,iQ,nD⟩:=hr;split at hk
    ·exact hk.elim
    ·rename_i h Rg;have IP:=mN (d:=(len:Int)) hh he Rg;split at hk
     ·rename_i es hH;obtain⟨⟨h0,h1,h2,IL,ym⟩,hk⟩:=hk;have hg:=jY (P:=P) (w:=w) (ad:=ad) (len:=len) (cap:=cap) (l:=l) (h:=h) ht eW yj IP h0 h1 (by omega) Ib;rw[<-hv]at hg;refine Out.quiet (cV _ hg) hk hs ?_;simp only[aU];have XW:l.toNat=0\/p.esz=esz:=by
       by_cases j5:l.toNat=0
       ·exact .inl j5
       ·right;cases es with
        | nil=>simp at IL;omega
        | cons x xs=>
         obtain⟨_,_,_,_,_,Ez,_⟩:=sX (c:=0) (n:=0) hs hp hH (i:=0) (by simp) (by simp);have:=ym x rfl;simp at Ez;omega
      refine⟨p,_,cap - l.toNat,hp,rfl,?_,by omega,by omega,?_⟩
      ·intro zJ;have:=s4 (by omega);subst this;rw[if_neg (by omega)];simp only[Option.map_some,dQ];rcases XW with h3 | h3
       ·rw[h3];simp
       ·rw[h3,Nat.add_mul,Nat.add_assoc]
      ·have:off+l.toNat+(cap - l.toNat)=off+cap:=by omega
       rw[this];exact nD
     ·exact hk.elim
   ·rename_i e;rw[e]at hr;simp only[aU]at hr;split at hk
    ·exact hk.elim
    ·rename_i h Rg;have IP:=mN (d:=0) hh he Rg;obtain⟨⟨rfl,rfl⟩,hk⟩:=hk;have hg:=jY (P:=P) (w:=w) (ad:=none) (len:=0) (cap:=0) (l:=0) (h:=0) ht eW yj IP (by omega) (by omega) (by omega) (by omega);rw[<-hr]at hg;refine Out.quiet (cV _ hg) hk hs ?_;simp[aU]
   ·exact hk.elim
 ·cases hc
end
section
variable {P:Program} {f:Fr} {B:List Pl} {I:IM} {w:World} {H:List ak} {K:V->List ak->Prop} {a:Act} {env:Nat->V} {o:Oper}
theorem yo (off:Nat):∀(l:List Value) (s:Nat) (cells:Array Value) (k:Nat),off+s+l.length<=cells.size->
 ((l.zipIdx s).foldl (fun cs (x:Value×Nat)=>cs.setIfInBounds (off+x.2) x.1) cells)[k]? =if k<off+s then cells[k]? else if k<off+s+l.length then l[k - (off+s)]? else cells[k]?
 | [],s,cells,k,h=>by simp;intro h1 h2;omega
 | v::l,s,cells,k,h=>by
  simp only[List.zipIdx_cons,List.foldl_cons];rw[yo off l (s+1) _ k (by simp at h⊢;omega)];simp only[Array.getElem?_setIfInBounds,List.length_cons];simp only[List.length_cons]at h;by_cases h1:k<off+s
  ·rw[if_pos (by omega),if_pos h1,if_neg (by omega)]
  ·rw[if_neg h1];by_cases h2:k=off+s
   ·subst h2;rw[if_pos (by omega),if_pos rfl,if_pos (by omega),if_pos (by omega)];simp
   ·rw[if_neg (by omega)];by_cases h3:k<off+s+(l.length+1)
    ·rw[if_pos (by omega),if_pos (by omega),show k - (off+s)=(k - (off+(s+1)))+1 by omega];simp
    ·rw[if_neg (by omega),if_neg (by omega),if_neg (by omega)]
theorem yq {cs vs:List V} {zc:Array Value} {u:Value} {off:Nat} (lI:aV B I cs zc.toList) (EA:aV B I vs u.cells.toList) (h:off+vs.length<=cs.length):
 aV B I (iZ cs off vs) (u.cells.zipIdx.foldl (fun cs (x:Value×Nat)=>cs.setIfInBounds (off+x.2) x.1) zc).toList:=by
 have e:u.cells.zipIdx.foldl (fun cs (x:Value×Nat)=>cs.setIfInBounds (off+x.2) x.1) zc=(u.cells.toList.zipIdx 0).foldl (fun cs (x:Value×Nat)=>cs.setIfInBounds (off+x.2) x.1) zc:=by
  rw[<-Array.foldl_toList,Array.toList_zipIdx]
 have hl:=lI.length;have hv:=EA.length;have hz:zc.toList.length=zc.size:=by simp
 have qI:=fun k=>yo off u.cells.toList 0 zc k (by omega)
 rw[e];generalize hR:((u.cells.toList.zipIdx 0).foldl (fun cs (x:Value×Nat)=>cs.setIfInBounds (off+x.2) x.1) zc)=R at*;have eW:R.size=zc.size:=by
  have h1:=qI zc.size;have h2:R[zc.size]? =none:=by rw[h1];split;(omega);split;(omega);simp
  have h3:zc.size=0\/R[zc.size - 1]? ≠none:=by
   by_cases h0:zc.size=0
   ·exact .inl h0
   ·right;rw[qI];split
    ·simp;omega
    ·split
     ·rw[List.getElem?_eq_getElem (by omega)];simp
     ·simp;omega
  have h4:R.size<=zc.size:=by
   have:=Array.getElem?_eq_none_iff.1 h2;omega
  rcases h3 with h3 | h3
  ·omega
  ·have:¬R.size<=zc.size - 1:=fun hh=>h3 (Array.getElem?_eq_none hh)
   omega
 rw[il];refine⟨by unfold iZ;rw[gZ _ _ _ h];simp;omega,fun j c hj=> ?_⟩;unfold iZ at hj
 rw[kL _ _ _ _ h]at hj;rw[show R.toList[j]? =R[j]? by simp,qI];simp only[Nat.add_zero];split at hj
 ·rename_i h1;rw[if_pos h1];simpa using lI.get hj
 ·rename_i h1;rw[if_neg h1];split at hj
  ·rename_i h2;rw[if_pos (by omega)];exact EA.get hj
  ·rename_i h2;rw[if_neg (by omega)];simpa using lI.get hj
theorem s7 {place Aa:Nat->Option (Nat×Nat)} (cR:∀i,place i≠none->Aa i=place i) (he:cy B I env a.tmps) {k:List V->Prop}:∀(parts:List (Nat×Operand)) (ps:List (Nat×Nat×SX)) (zc:Array Value) (cs:List V),
 kf a.tmps.size place parts ps=true->aV B I cs zc.toList->lQ cs (ps.map fun p=>(p.1,p.2.1,dp env p.2.2)) k->
 ∃cells z7,Instr.fill Aa zc (parts.map fun p=>(p.1,a.eval p.2))=some cells/\aV B I z7 cells.toList/\k z7
 | [],[],zc,cs,_,hr,hk=>⟨zc,cs,by simp[Instr.fill],hr,by simpa[lQ]using hk⟩
 | (i,x)::r,(off,sz,y)::s,zc,cs,hc,hr,hk=>by
   simp only[kf,Bool.and_eq_true,beq_iff_eq]at hc;obtain⟨⟨hp,hx⟩,hc⟩:=hc;simp only[List.map_cons,lQ]at hk;obtain⟨⟨h1,h2,h3⟩,hk⟩:=hk;have hv:=gI (bh hx he) h1;have hl:=hr.length;have Rh:=hv.length;simp only[List.map_cons,Instr.fill,cR i (by rw[hp];simp),hp];have e:(((a.eval x).cells.size≠sz) || decide (off+(a.eval x).cells.size>zc.size))=false:=by
    simp at hl Rh⊢;omega
   rw[if_neg (by simpa using e)];exact s7 cR he r s _ _ hc (yq hr hv (by omega)) hk
 | [],_::_,_,_,h,_,_=>by simp[kf]at h
 | _::_,[],_,_,h,_,_=>by simp[kf]at h
theorem IS {t:TypeId} {parts:Array (Nat×Operand)} {z:List V} {ps:List (Nat×Nat×SX)} (ho:o.op=.build t parts) (hc:bg P a.tmps.size (.build t parts) o.type (.build z ps)=true) (he:cy B I env a.tmps) (hs:cD f B I w H)
 (hk:bd P (.build z ps) env H K):Out f B I K ((execOp a.eval o).run P w):=by
 simp only[bg]at hc;split at hc
 ·rename_i fs v ht hz;simp only[Bool.and_eq_true]at hc;obtain⟨⟨qJ,jA⟩,ey⟩:=hc;simp only[bd]at hk;obtain⟨it,hit,XX⟩:∃it,P.info? t=some it/\it.zero=some (.agg v):=by
   unfold zeroOf at hz
   cases hi:P.info? t with
   | none=>rw[hi]at hz;cases hz
   | some it=>rw[hi]at hz;exact⟨it,rfl,hz⟩
  obtain⟨places,IT,cR⟩:∃places,fs.toList.mapM (fun f=>(P.info? f.type).map fun i=>(f.offset,i.size))=some places/\∀i:Nat,places[i]? =sj P fs i:=by
   have key:∀l:List Field,(l.all fun f=>(fU P f.type).isSome)=true->∃places,l.mapM (fun f=>(P.info? f.type).map fun i=>(f.offset,i.size))=some places/\∀i:Nat,places[i]? =Option.bind (l[i]?) (fun(f:Field)=>(fU P f.type).map fun s=>(f.offset,s)):=by
    intro l;induction l with
    | nil=>intro _;exact⟨[],by simp,by simp⟩
    | cons x l ih=>
     intro h;simp only[List.all_cons,Bool.and_eq_true]at h;obtain⟨pl,h1,h2⟩:=ih h.2;obtain⟨s,hs⟩:=Option.isSome_iff_exists.1 h.1;unfold fU at hs
     cases hi:P.info? x.type with
     | none=>rw[hi]at hs;cases hs
     | some ii=>
      rw[hi]at hs;refine⟨(x.offset,ii.size)::pl,by simp[hi,h1],fun i=> ?_⟩;cases i with
      | zero=>simp[fU,hi]
      | succ i=>simpa using h2 i
   obtain⟨pl,h1,h2⟩:=key fs.toList ey;exact⟨pl,h1,fun i=>by rw[h2];simp[sj]⟩
  obtain⟨cells,z7,hf,hr,hk⟩:=s7 (place:=sj P fs) (Aa:=(places.toArray[·]?)) (by intro i hi;simp[cR]) he parts.toList ps v z jA (sV qJ) hk;refine Out.quiet (v:=.agg cells) ?_ hk hs (by simp only[aU];exact⟨cells,rfl,hr⟩);have hb:P.built t (parts.map fun(i,x)=>(i,a.eval x)).toList=some cells:=by
   unfold Program.built
   rw[hit,ht];simp only[XX,IT,Value.cells];simpa using hf
  have:=run_build (P:=P) w t _ cells hb;simp[execOp,ho,this]
 ·cases hc
end
end Go.Proofs.YtdgoeblpcnjlbaaGreatDoor.Av

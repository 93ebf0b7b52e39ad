/- ReadsFound. Text 6 of 17. -/
import Derived.Test.YtdgoeblpcnjlbaaGreatDoorM5
set_option linter.all false
set_option maxRecDepth 100000
set_option maxHeartbeats 64000000
namespace Go.Proofs.YtdgoeblpcnjlbaaGreatDoor.Av
open Go.RowKit List
theorem t69 (s:ByteArray) (c:Int):af Tryz.prog 159 [.str s,.int .u8 c] (·=.int .i64 (Lib.indexByte s.data.toList c.toNat.toUInt8)):=by
 refine⟨c69.call,fun I w args l4 hr=> ?_⟩;have ha:args= #[.string s,.int .u8 c]:=by
  apply Array.toList_inj.1
  simp only[aV,aU]at hr;obtain⟨v,vs,h1,h2,u,us,h3,h4,h5⟩:=hr;rw[h1,h3,h5,h2.1,h4]
 subst ha;refine(Any.strings_IndexByte Tryz.Jp s c w).mono ?_;rintro e w' ⟨rfl,rfl⟩;exact⟨_,_,I,rfl,rfl,dY.refl _,l4,fun b h1 h2=>absurd h1 h2,by simp[aU],Below.refl _ _⟩
theorem t85 (s cs:ByteArray) (lI:cs.size<4294967281) (Nx:∀(j:Nat) b,cs.data.toList[j]? =some b->b.toNat<128):
 af Tryz.prog 194 [.str s,.str cs] (·=.str ⟨(Lib.trimS s.data.toList cs.data.toList).toArray⟩):=by
 refine⟨by kernel_rfl,fun I w args l4 hr=> ?_⟩;have ha:args= #[.string s,.string cs]/\s.size<=maxLen:=by
  simp only[aV,aU]at hr;obtain⟨v,vs,h1,h2,u,us,h3,h4,h5⟩:=hr;refine⟨?_,h2.2⟩;apply Array.toList_inj.1
  rw[h1,h3,h5,h2.1,h4.1]
 obtain⟨rfl,hs⟩:=ha;refine(Any.strings_Trim_ascii Tryz.Jq (fun w=>(Tryz.zeroValue297 w).trans (congrArg (fun x=>Result.ok x w) (by kernel_rfl))) (by kernel_rfl) s cs w hs lI Nx).mono ?_;rintro e w' ⟨rfl,hb⟩;refine⟨_,_,I,rfl,rfl,dY.refl _,fun b o h=> ?_,fun b h1 h2=>absurd h1 h2,?_,hb⟩
 ·have:=l4 b o h;have ct:=(Array.getElem?_eq_some_iff.1 this).1;rw[hb.block b ct];exact this
 ·simp only[aU];refine⟨trivial,?_⟩;have h1:(Lib.trimS s.data.toList cs.data.toList).length<=s.data.toList.length:=by
   unfold Lib.trimS Lib.trimLeftS Lib.trimRightS
   refine Nat.le_trans (List.dropWhile_sublist _).length_le ?_;rw[List.length_reverse];refine Nat.le_trans (List.dropWhile_sublist _).length_le ?_;rw[List.length_reverse];exact Nat.le_refl _
  have h2:=Lib.size_eq s;show(Lib.trimS s.data.toList cs.data.toList).toArray.size<=_;simp only[List.size_toArray];omega
theorem t84 (s:ByteArray):af Tryz.prog 193 [.str s] (·=.bool ([⟨#[112,114,111,99]⟩,⟨#[109,97,105,110]⟩,⟨#[105,102]⟩,⟨#[101,108,115,101]⟩].any fun y=>decide (s=y))):=by
 refine af.intro c84 200 (by simp) 20 ?_;simp -implicitDefEqProofs only[s84,go_sem];simp -implicitDefEqProofs only[r84,push_cast,go_sem_proc];repeat' (refine aA.mk (fun _=> ?_) (fun _=> ?_))
 all_goals (try simp_all)
 all_goals (try omega)
theorem t31 (n lo hi:Int):af Tryz.prog 158 [.int .i64 n,.int .i64 lo,.int .i64 hi] (·=.bool (decide (lo<=n) && decide (n<=hi))):=by
 refine af.intro c31 200 (by simp) 20 ?_;simp -implicitDefEqProofs only[s31,go_sem];simp -implicitDefEqProofs only[r31,push_cast,go_sem_proc];repeat' (refine aA.mk (fun _=> ?_) (fun _=> ?_))
 all_goals (try simp_all)
 all_goals (try omega)
theorem t86 (n lo hi:Int):af Tryz.prog 243 [.int .i64 n,.int .i64 lo,.int .i64 hi] (·=.bool (decide (n<lo) || decide (hi<n))):=by
 refine af.intro c86 200 (by simp) 20 ?_;simp -implicitDefEqProofs only[s86,go_sem];simp -implicitDefEqProofs only[r86,push_cast,go_sem_proc];repeat' (refine aA.mk (fun _=> ?_) (fun _=> ?_))
 all_goals (try simp_all)
 all_goals (try omega)
def Aw:List UInt8:=[97,98,99,100,101,102,103,104,105,106,107,108,109,110,111,112,113,114,115,116,117,118,119,120,121,122]
def ji:List UInt8:=[97,98,99,100,101,102,103,104,105,106,107,108,109,110,111,112,113,114,115,116,117,118,119,120,121,122,48,49,50,51,52,53,54,55,56,57,95]
def kw (s:ByteArray):Bool:=[⟨#[112,114,111,99]⟩,⟨#[109,97,105,110]⟩,⟨#[105,102]⟩,⟨#[101,108,115,101]⟩].any fun y=>decide (s=y)
def dt (s:ByteArray):Bool:=decide (1<=s.size) && decide (s.size<=40) && Aw.contains (s.data.getD 0 0) && !kw s && s.data.toList.all (ji.contains ·)
theorem FH (l:List UInt8) (c:UInt8):l.contains c=decide (0<=Lib.indexByte l c):=by
 induction l with
 | nil=>simp[Lib.indexByte]
 | cons b l ih=>
  have:=Lib.indexByte_ge l c;simp only[List.contains_cons,Lib.indexByte,ih];by_cases h:b=c
  ·subst h;simp
  ·have h':(c==b)=false:=by simp[Ne.symm h]
   have h2:(b==c)=false:=by simp[h]
   simp only[h',h2,Bool.false_or];split
   ·contradiction
   ·split
    ·rename_i h3;simp at h3;simp[h3]
    ·rename_i h3;simp at h3;simp;omega
theorem BO (s:ByteArray) (i:Nat):(bt s i).toNat.toUInt8=s.data.getD i 0:=by simp[bt]
theorem dropWhile_nil {α:Type} (p:α->Bool):∀l:List α,l.dropWhile p=[]↔l.all p=true
 | []=>by simp
 | x::l=>by
  simp only[List.dropWhile_cons,List.all_cons];by_cases h:p x=true
  ·simp only[h,if_true,Bool.true_and];exact dropWhile_nil p l
  ·simp[h]
theorem FI (s:ByteArray) (l:List UInt8):(((⟨(Lib.trimS s.data.toList l).toArray⟩:ByteArray)=⟨#[]⟩)=(s.data.toList.all (l.contains ·)=true)):=by
 have h1:((⟨(Lib.trimS s.data.toList l).toArray⟩:ByteArray)=⟨#[]⟩)↔Lib.trimS s.data.toList l=[]:=by simp
 apply propext
 rw[h1];unfold Lib.trimS Lib.trimLeftS Lib.trimRightS
 rw[dropWhile_nil,List.all_reverse];constructor
 ·intro h;have h2:(s.data.toList.reverse.dropWhile (l.contains ·))=[]:=by
   cases hd:s.data.toList.reverse.dropWhile (l.contains ·)with
   | nil=>rfl
   | cons a t=>
    have h3:=List.head?_dropWhile_not (l.contains ·) s.data.toList.reverse;rw[hd]at h3 h;simp only[List.head?_cons,List.all_cons,Bool.and_eq_true]at h3 h;rw[h.1]at h3;simp at h3
  rw[dropWhile_nil,List.all_reverse]at h2;exact h2
 ·intro h;have h2:(s.data.toList.reverse.dropWhile (l.contains ·))=[]:=by rw[dropWhile_nil,List.all_reverse];exact h
  rw[h2];rfl
theorem Sm (s:ByteArray):(s=⟨#[]⟩)=(s.size=0):=by
 apply propext
 constructor
 ·rintro rfl;rfl
 ·intro h;rcases s with⟨a⟩
  have:a.size=0:=h;rw[Array.size_eq_zero_iff]at this;rw[this]
theorem Sn (s:ByteArray):af Tryz.prog 194 [.str s,.str ⟨#[97,98,99,100,101,102,103,104,105,106,107,108,109,110,111,112,113,114,115,116,117,118,119,120,121,122,48,49,50,51,52,53,54,55,56,57,95]⟩] (·=.str ⟨(Lib.trimS s.data.toList ji).toArray⟩):=
 t85 s ⟨ji.toArray⟩ (by decide) (fun j b h=>by
  have h1:∀b∈ji,b.toNat<128:=by decide
  exact h1 b (List.mem_of_getElem? (by simpa using h)))
theorem FJ (c:UInt8):decide (0<=Lib.indexByte [97,98,99,100,101,102,103,104,105,106,107,108,109,110,111,112,113,114,115,116,117,118,119,120,121,122] c)=Aw.contains c:=(FH Aw c).symm
theorem BP (c:UInt8):decide (Lib.indexByte [97,98,99,100,101,102,103,104,105,106,107,108,109,110,111,112,113,114,115,116,117,118,119,120,121,122] c<0)= !Aw.contains c:=by
 rw[<-FJ];by_cases h:(0<=Lib.indexByte [97,98,99,100,101,102,103,104,105,106,107,108,109,110,111,112,113,114,115,116,117,118,119,120,121,122] c)<;>simp[h]<;>omega
theorem FK (c:UInt8):decide (Lib.indexByte [97,98,99,100,101,102,103,104,105,106,107,108,109,110,111,112,113,114,115,116,117,118,119,120,121,122,48,49,50,51,52,53,54,55,56,57,95] c<0)= !ji.contains c:=by
 rw[FH];by_cases h:(0<=Lib.indexByte ji c)
 ·have:¬(Lib.indexByte ji c<0):=by omega
  rw[decide_eq_true h];exact decide_eq_false this
 ·have:(Lib.indexByte ji c<0):=by omega
  rw[decide_eq_false h];exact decide_eq_true this
theorem FL (s:ByteArray):([⟨#[112,114,111,99]⟩,⟨#[109,97,105,110]⟩,⟨#[105,102]⟩,⟨#[101,108,115,101]⟩].any fun y=>decide (s=y))=kw s:=rfl
theorem FM (s:ByteArray) (l:List UInt8):decide ((⟨(Lib.trimS s.data.toList l).toArray⟩:ByteArray)=⟨#[]⟩)=s.data.toList.all (l.contains ·):=by simp only[FI];simp
theorem FN (s:ByteArray):decide (s=⟨#[]⟩)=decide (s.size=0):=by simp only[Sm]
theorem Ny (n:Nat):decide (1<=n)= !decide (n=0):=by cases n<;>simp
theorem t72 (s:ByteArray):af Tryz.prog 145 [.str s] (·=.bool (dt s)):=by
 refine af.intro c72 200 (by simp) 20 ?_;simp -implicitDefEqProofs only[s72,go_sem];repeat' (first | ((first | ((with_reducible first | refine bj (t84 s) ?_ ?_ | refine bj (t69 _ _) ?_ ?_ | refine bj (Sn _) ?_ ?_);(·simp[ae,al,cm])) | ((with_reducible apply cj);(·simp -implicitDefEqProofs only[List.map_cons,List.map_nil,push_cast,go_sem_proc]<;>rfl);(with_reducible first | exact(t84 s) | exact(t69 _ _) | exact(Sn _));(·rfl)) | (with_reducible refine aD ?_));simp -implicitDefEqProofs only[go_sem]) | (with_reducible refine aA.mk ?_ ?_) | (with_reducible refine And.intro ?_ ?_) | ((with_reducible refine bz ?_);simp -implicitDefEqProofs only[r72,push_cast,go_sem_proc]) | intro _)
 all_goals (try simp only[FM]at*)
 all_goals simp only[FJ,BO,FL,FN,dt,Ny]at*
 all_goals (generalize s.data.toList.all (ji.contains ·)=A at*;generalize kw s=k at*;generalize Aw.contains (s.data.getD 0 0)=c at*;generalize s.size=n at*)
 all_goals (try simp_all)
 all_goals (try omega)
theorem su (s:ByteArray):s.data.toList.length=s.size:=by simp;try rfl
theorem Nz {s:ByteArray} {pre post:List UInt8} {y:UInt8} (h:s.data.toList=pre++y::post):s.data.getD pre.length 0=y:=by
 have h1:s.data.toList[pre.length]? =some y:=by rw[h];simp
 rw[Array.getElem?_toList]at h1;simp[Array.getD_eq_getD_getElem?,h1]
theorem wO (s:ByteArray) (A:Bool) (hA:s.data.toList.all (ji.contains ·)=A):dt s=((decide (1<=(s.size:Int)) && decide ((s.size:Int)<=40)) && (Aw.contains (s.data.getD 0 0)) && !kw s && A):=by
 rw[dt,hA];have h1:decide (1<=(s.size:Int))=decide (1<=s.size):=by apply decide_eq_decide.2;omega
 have h2:decide ((s.size:Int)<=40)=decide (s.size<=40):=by apply decide_eq_decide.2;omega
 rw[h1,h2]
theorem t54 (s:ByteArray):af Tryz.prog 82 [.str s] (·=.bool (dt s)):=by
 refine af.intro c54 200 (by simp) 20 ?_;simp -implicitDefEqProofs only[s54,go_sem];repeat' (first | ((first | ((with_reducible first | refine bj (t31 _ _ _) ?_ ?_ | refine bj (t69 _ _) ?_ ?_ | refine bj (t29 [⟨#[112,114,111,99]⟩,⟨#[109,97,105,110]⟩,⟨#[105,102]⟩,⟨#[101,108,115,101]⟩] s) ?_ ?_);(·simp[ae,al,cm])) | ((with_reducible apply cj);(·simp -implicitDefEqProofs only[List.map_cons,List.map_nil,push_cast,go_sem_proc]<;>rfl);(with_reducible first | exact(t31 _ _ _) | exact(t69 _ _) | exact(t29 [⟨#[112,114,111,99]⟩,⟨#[109,97,105,110]⟩,⟨#[105,102]⟩,⟨#[101,108,115,101]⟩] s));(·rfl)) | (with_reducible refine aD ?_));simp -implicitDefEqProofs only[go_sem]) | (with_reducible refine aA.mk ?_ ?_) | (with_reducible refine And.intro ?_ ?_) | ((with_reducible refine bz ?_);simp -implicitDefEqProofs only[WV,push_cast,go_sem_proc]) | intro _)
 case' refine_2.refine_2.refine_2.refine_2.refine_2.refine_2.refine_2=>
  rename_i eW h1 h2 h3 hl;rw[BO,BP]at h2;rw[FL]at h3;refine aL (fun m e H=>∃pre post,s.data.toList=pre++post/\m=post.length/\(pre.all (ji.contains ·)=true)/\e 0=.str s/\e 20=.int .i64 s.size/\e 21=.int .i64 pre.length) s.size ⟨[],s.data.toList,by simp[az,aC,su]⟩ ?_;rintro m e H ⟨pre,post,ao,rfl,hp,i0,i20,i21⟩;cases post with
  | nil=>
   have hc:¬((pre.length:Int)<s.size):=by rw[<-su s,ao];simp
   simp -implicitDefEqProofs only[i0,i20,i21,hc,decide_false,go_sem];simp -implicitDefEqProofs only[WV,push_cast,go_sem_proc];rw[wO s true (by rw[ao];simpa using hp)];simp_all
  | cons y post=>
   have hc:((pre.length:Int)<s.size):=by rw[<-su s,ao];simp;omega
   have j8:pre.length<s.size:=by rw[<-su s,ao];simp
   have hw:IntKind.i64.wrap ((pre.length:Int)+1)=((pre.length+1:Nat):Int):=bG (by omega);simp -implicitDefEqProofs only[i0,i20,i21,hc,j8,hw,decide_true,go_sem];repeat' (first | ((first | ((with_reducible refine bj (t69 _ _) ?_ ?_);(·simp[ae,al,cm])) | ((with_reducible apply cj);(·simp -implicitDefEqProofs only[List.map_cons,List.map_nil,push_cast,go_sem_proc]<;>rfl);(with_reducible exact(t69 _ _));(·rfl)) | (with_reducible refine aD ?_));simp -implicitDefEqProofs only[i0,i20,i21,hc,j8,hw,go_sem]) | (with_reducible refine aA.mk ?_ ?_) | (with_reducible refine And.intro ?_ ?_) | ((with_reducible refine bz ?_);simp -implicitDefEqProofs only[WV,push_cast,go_sem_proc]) | intro _)
   all_goals (rename_i hy;rw[BO,FK,Nz ao]at hy)
   ·have:s.data.toList.all (ji.contains ·)=false:=by
     rw[ao,List.all_append,List.all_cons];have:ji.contains y=false:=by simpa using hy
     rw[this];simp
    rw[wO s false this];simp
   ·refine⟨_,Nat.lt_succ_self _,pre++ [y],post,by simp[ao],rfl,?_,by simp⟩;rw[List.all_append,hp,List.all_cons];have:ji.contains y=true:=by simpa using hy
    rw[this];rfl
 all_goals (try rw[wO s _ rfl])
 all_goals (try simp only[BO,BP,FL]at*)
 all_goals (generalize s.data.toList.all (ji.contains ·)=A at*;generalize kw s=k at*;generalize Aw.contains (s.data.getD 0 0)=c at*;generalize s.size=n at*)
 all_goals (try simp_all)
 all_goals (try omega)
theorem t106 (s:ByteArray):af Tryz.prog 276 [.str s] (·=.bool (!dt s)):=by
 refine af.intro YZ 200 (by simp) 20 ?_;simp -implicitDefEqProofs only[Sf,go_sem];repeat' (first | ((first | ((with_reducible refine bj (t72 s) ?_ ?_);(·simp[ae,al,cm])) | ((with_reducible apply cj);(·simp -implicitDefEqProofs only[List.map_cons,List.map_nil,push_cast,go_sem_proc]<;>rfl);(with_reducible exact(t72 s));(·rfl)) | (with_reducible refine aD ?_));simp -implicitDefEqProofs only[go_sem]) | (with_reducible refine aA.mk ?_ ?_) | (with_reducible refine And.intro ?_ ?_) | ((with_reducible refine bz ?_);simp -implicitDefEqProofs only[Sg,push_cast,go_sem_proc]) | intro _)
 all_goals (try rfl)
theorem t94 (s:ByteArray):af Tryz.prog 271 [.str s] (·=.bool (!dt s)):=by
 refine af.intro c94 200 (by simp) 20 ?_;simp -implicitDefEqProofs only[s94,go_sem];repeat' (first | ((first | ((with_reducible refine bj (t54 s) ?_ ?_);(·simp[ae,al,cm])) | ((with_reducible apply cj);(·simp -implicitDefEqProofs only[List.map_cons,List.map_nil,push_cast,go_sem_proc]<;>rfl);(with_reducible exact(t54 s));(·rfl)) | (with_reducible refine aD ?_));simp -implicitDefEqProofs only[go_sem]) | (with_reducible refine aA.mk ?_ ?_) | (with_reducible refine And.intro ?_ ?_) | ((with_reducible refine bz ?_);simp -implicitDefEqProofs only[r94,push_cast,go_sem_proc]) | intro _)
 all_goals (try rfl)
theorem t104 (b:Bool) (s:ByteArray):af Tryz.prog 274 [.bool b,.str s] (·=.bool (b && !dt s)):=by
 refine af.intro YX 200 (by simp) 20 ?_;simp -implicitDefEqProofs only[Sc,go_sem];repeat' (first | ((first | ((with_reducible refine bj (t72 s) ?_ ?_);(·simp[ae,al,cm])) | ((with_reducible apply cj);(·simp -implicitDefEqProofs only[List.map_cons,List.map_nil,push_cast,go_sem_proc]<;>rfl);(with_reducible exact(t72 s));(·rfl)) | (with_reducible refine aD ?_));simp -implicitDefEqProofs only[go_sem]) | (with_reducible refine aA.mk ?_ ?_) | (with_reducible refine And.intro ?_ ?_) | ((with_reducible refine bz ?_);simp -implicitDefEqProofs only[Sd,push_cast,go_sem_proc]) | intro _)
 all_goals (simp_all)
theorem t60 (p:Pr) (x:ByteArray):af Tryz.prog 130 [aF p,.bc [.str x]] (·=.bool (decide (p.name=x))):=by
 refine af.intro c60 200 (by simp) 20 ?_;simp -implicitDefEqProofs only[s60,aF,go_sem];repeat' (first | ((with_reducible refine aD ?_);simp -implicitDefEqProofs only[go_sem]) | (with_reducible refine aA.mk ?_ ?_) | (with_reducible refine And.intro ?_ ?_) | ((with_reducible refine bz ?_);simp -implicitDefEqProofs only[r60,push_cast,go_sem_proc]) | intro _)
 all_goals (try rfl)
theorem t76 (p:Pr) (x:ByteArray):af Tryz.prog 249 [aF p,.bc [.str x]] (·=.bool (decide (p.name=x))):=by
 refine af.intro c76 200 (by simp) 20 ?_;simp -implicitDefEqProofs only[s76,aF,go_sem];repeat' (first | ((with_reducible refine aD ?_);simp -implicitDefEqProofs only[go_sem]) | (with_reducible refine aA.mk ?_ ?_) | (with_reducible refine And.intro ?_ ?_) | ((with_reducible refine bz ?_);simp -implicitDefEqProofs only[r76,push_cast,go_sem_proc]) | intro _)
 all_goals (try rfl)
theorem t74 (p q:Pr):af Tryz.prog 189 [aF p,.bc [.str q.name,.fs (q.au.map .str),.fs (q.steps.map encS)]] (·=.bool (decide (p.name=q.name))):=by
 refine af.intro c74 200 (by simp) 20 ?_;simp -implicitDefEqProofs only[s74,aF,go_sem];repeat' (first | ((with_reducible refine aD ?_);simp -implicitDefEqProofs only[go_sem]) | (with_reducible refine aA.mk ?_ ?_) | (with_reducible refine And.intro ?_ ?_) | ((with_reducible refine bz ?_);simp -implicitDefEqProofs only[r74,push_cast,go_sem_proc]) | intro _)
 all_goals (try rfl)
def ar (k:Int):Int:=if k<1\/9<k then -1 else if k<=2 then 0 else if k=8 then 1 else if k=9 then 3 else 2
theorem t112 (k:Int):af Tryz.prog 285 [.int .i64 k] (·=.int .i64 (ar k)):=by
 refine af.intro Y1 200 (by simp) 20 ?_;simp -implicitDefEqProofs only[Sj,go_sem];repeat' (first | ((first | ((with_reducible refine bj (t86 _ _ _) ?_ ?_);(·simp[ae,al,cm])) | ((with_reducible apply cj);(·simp -implicitDefEqProofs only[List.map_cons,List.map_nil,push_cast,go_sem_proc]<;>rfl);(with_reducible exact(t86 _ _ _));(·rfl)) | (with_reducible refine aD ?_));simp -implicitDefEqProofs only[go_sem]) | (with_reducible refine aA.mk ?_ ?_) | (with_reducible refine And.intro ?_ ?_) | ((with_reducible refine bz ?_);simp -implicitDefEqProofs only[Sk,push_cast,go_sem_proc]) | intro _)
 all_goals (simp_all[ar])
 all_goals (try omega)
theorem t107 (k:Int):af Tryz.prog 284 [.int .i64 k] (·=.int .i64 (ar k)):=by
 refine af.intro Y0 200 (by simp) 20 ?_;simp -implicitDefEqProofs only[Sh,go_sem];repeat' (first | ((first | ((with_reducible refine bj (t31 _ _ _) ?_ ?_);(·simp[ae,al,cm])) | ((with_reducible apply cj);(·simp -implicitDefEqProofs only[List.map_cons,List.map_nil,push_cast,go_sem_proc]<;>rfl);(with_reducible exact(t31 _ _ _));(·rfl)) | (with_reducible refine aD ?_));simp -implicitDefEqProofs only[go_sem]) | (with_reducible refine aA.mk ?_ ?_) | (with_reducible refine And.intro ?_ ?_) | ((with_reducible refine bz ?_);simp -implicitDefEqProofs only[Si,push_cast,go_sem_proc]) | intro _)
 all_goals rename_i h
 ·simp at h;simp[ar];omega
 all_goals
  have hk:k=1\/k=2\/k=3\/k=4\/k=5\/k=6\/k=7\/k=8\/k=9:=by simp at h;omega
  rcases hk with rfl | rfl | rfl | rfl | rfl | rfl | rfl | rfl | rfl<;>simp[IntKind.wrap,IntKind.signed,IntKind.bits,iD,oe,ar,jZ]
theorem t81 (k n:Int) (s:ByteArray) (xs:List Ex):af Tryz.prog 239 [bu (.mk k n s xs)] (·=.bool (decide (k=0) && decide (n=0) && decide (s=⟨#[]⟩) && decide (xs.length=0))):=by
 refine af.intro c81 200 (by simp) 20 ?_;simp -implicitDefEqProofs only[s81,bp,go_sem];repeat' (first | ((with_reducible refine aD ?_);simp -implicitDefEqProofs only[go_sem]) | (with_reducible refine aA.mk ?_ ?_) | (with_reducible refine And.intro ?_ ?_) | ((with_reducible refine bz ?_);simp -implicitDefEqProofs only[r81,push_cast,go_sem_proc]) | intro _)
 all_goals (simp_all)
theorem NA (xs:List ByteArray):af Tryz.prog 16 [.fs (xs.map .str),.fs (xs.map .str)] (·=.bool true):=by
 refine af.intro c36 200 (by simp) 20 ?_;simp -implicitDefEqProofs only[s36,decide_true,go_sem];intro hlen _ _;refine aL (fun m e H=>∃pre post,xs=pre++post/\m=post.length/\e 0=.fs (xs.map .str)/\e 1=.fs (xs.map .str)/\e 12=.int .i64 xs.length/\e 13=.int .i64 pre.length) xs.length ⟨[],xs,by simp[az,aC]⟩ ?_;rintro m e H ⟨pre,post,ao,rfl,h1,h2,cZ,ea⟩;cases post with
 | nil=>
  simp -implicitDefEqProofs only[h1,h2,cZ,ea,aI ao,decide_false,go_sem];simp -implicitDefEqProofs only[Yz,push_cast,go_sem_proc]
 | cons y post=>
  have hg:=aO V.str ao;simp -implicitDefEqProofs only[h1,h2,cZ,ea,hg,an ao,aa ao hlen,decide_true,go_sem];repeat' (first | ((with_reducible refine aD ?_);simp -implicitDefEqProofs only[h1,h2,cZ,ea,hg,an ao,aa ao hlen,go_sem]) | (with_reducible refine aA.mk ?_ ?_) | (with_reducible refine And.intro ?_ ?_) | ((with_reducible refine bz ?_);simp -implicitDefEqProofs only[Yz,push_cast,go_sem_proc]) | intro _)
  exact⟨_,Nat.lt_succ_self _,pre++ [y],post,by simp[ao],rfl,by simp⟩
mutual
def mb:Ex->Int->Int
 | .mk k n s xs,d=>if d>20 then 2 else if ar k<0 then 4 else if(xs.length:Int)≠ar k\/(k≠1/\n≠0)\/(k≠2/\s≠⟨#[]⟩)then 3
   else if n<0\/999<n then 1 else if k=2/\dt s=false then 5 else qT xs (d+1)
def qT:List Ex->Int->Int
 | [],_=>0
 | x::l,d=>if mb x d≠0 then mb x d else qT l d
end
theorem iv:∀(pre post:List Ex) (d:Int),(∀y∈pre,mb y d=0)->qT (pre++post) d=qT post d
 | [],post,d,_=>rfl
 | x::pre,post,d,h=>by
  rw[List.cons_append,qT,h x (by simp)];simp only[ne_eq,not_true_eq_false,if_false];exact iv pre post d (fun y hy=>h y (by simp[hy]))
theorem wrap_small {d:Int} (h1: -1000<=d) (h2:d<=1000000):IntKind.i64.wrap (d+1)=d+1:=by
 simp[IntKind.wrap,IntKind.signed,IntKind.bits];omega
theorem Sr (k n:Int) (s:ByteArray) (xs:List Ex) (d:Int) (uO:0<=d) (hd:d<=21) (h:∀y∈xs,∀d',0<=d'->d'<=21->af Tryz.prog 275 [bu y,.int .i64 d'] (·=.int .i64 (mb y d'))):
 af Tryz.prog 275 [bu (.mk k n s xs),.int .i64 d] (·=.int .i64 (mb (.mk k n s xs) d)):=by
 refine af.intro YY 300 (by simp) 20 ?_;simp -implicitDefEqProofs only[Se,bp,go_sem];repeat' (first | ((first | ((with_reducible first | refine bj (t112 k) ?_ ?_ | refine bj (t86 _ _ _) ?_ ?_ | refine bj (t72 s) ?_ ?_);(·simp[ae,al,cm])) | ((with_reducible apply cj);(·simp -implicitDefEqProofs only[List.map_cons,List.map_nil,push_cast,go_sem_proc]<;>rfl);(with_reducible first | exact(t112 k) | exact(t86 _ _ _) | exact(t72 s));(·rfl)) | (with_reducible refine aD ?_));simp -implicitDefEqProofs only[go_sem]) | (with_reducible refine aA.mk ?_ ?_) | (with_reducible refine And.intro ?_ ?_) | ((with_reducible refine bz ?_);simp -implicitDefEqProofs only[Jo,push_cast,go_sem_proc]) | intro _)
 all_goals first
  | ((with_reducible show F _ _ _)
     have hR:mb (.mk k n s xs) d=qT xs (d+1):=by clear h;simp_all[mb]<;>omega
     have NC:d<=20:=by clear h;simp_all<;>omega
     have hw:=wrap_small (d:=d) (by omega) (by omega);have hlen:xs.length<=9223372036854775807:=by assumption
     refine aL (fun m e H=>∃pre post,xs=pre++post/\m=post.length/\(∀y∈pre,mb y (d+1)=0)/\e 1=.int .i64 d/\e 59=.fs (xs.map bu)/\e 60=.int .i64 xs.length/\e 61=.int .i64 pre.length) xs.length ⟨[],xs,by simp[az,aC]⟩ ?_;rintro m e H ⟨pre,post,ao,rfl,hp,h1,wP,Dq,oP⟩;cases post with
     | nil=>
      simp -implicitDefEqProofs only[h1,wP,Dq,oP,aI ao,go_sem];simp -implicitDefEqProofs only[Jo,push_cast,go_sem_proc];rw[hR,ao,iv pre [] _ hp];rfl
     | cons y post=>
      have hy:=h y (by simp[ao]) (d+1) (by omega) (by omega);have hg:=aO bu ao;have hE:qT (pre++y::post) (d+1)=if mb y (d+1)≠0 then mb y (d+1)else qT post (d+1):=by rw[iv pre _ _ hp,qT]
      generalize Jv:mb y (d+1)=yr at*;generalize Ss:bu y=ye at*;rcases y with⟨k',n',s',zs⟩
      rw[bp]at Ss;subst Ss;simp -implicitDefEqProofs only[h1,wP,Dq,oP,hg,an ao,aa ao hlen,hw,go_sem];repeat' (first | ((first | ((with_reducible refine bj hy ?_ ?_);(·simp[ae,al,cm])) | ((with_reducible apply cj);(·simp -implicitDefEqProofs only[List.map_cons,List.map_nil,push_cast,go_sem_proc]<;>rfl);(with_reducible exact hy);(·rfl)) | (with_reducible refine aD ?_));simp -implicitDefEqProofs only[h1,wP,Dq,oP,hg,an ao,aa ao hlen,hw,go_sem]) | (with_reducible refine aA.mk ?_ ?_) | (with_reducible refine And.intro ?_ ?_) | ((with_reducible refine bz ?_);simp -implicitDefEqProofs only[Jo,push_cast,go_sem_proc]) | intro _)
      ·rename_i hc;rw[hR,ao,hE,if_pos (by simpa using hc)]
      ·rename_i hc;exact⟨_,Nat.lt_succ_self _,pre++ [_],post,by simp[ao];rfl,rfl,fun z hz=>by rcases List.mem_append.1 hz with hz | hz;exact hp z hz;simp at hz;subst hz;rw[Jv];simpa using hc,by simp⟩)
  | (clear h;simp_all[mb];done)
  | (clear h;simp_all[mb];omega)
theorem t105:(x:Ex)->∀d:Int,0<=d->d<=21->af Tryz.prog 275 [bu x,.int .i64 d] (·=.int .i64 (mb x d))
 | .mk k n s xs=>fun d h1 h2=>Sr k n s xs d h1 h2 (fun y hy=>t105 y)
termination_by x=>SizeOf.sizeOf x
decreasing_by
 have:=List.sizeOf_lt_of_mem hy;simp;omega
theorem t90 (x:Ex):af Tryz.prog 247 [bu x] (·=.int .i64 (mb x 1)):=by
 have h:=t105 x 1 (by omega) (by omega);rcases x with⟨k,n,s,xs⟩
 rw[bp]at h;refine af.intro c90 200 (by simp) 20 ?_;simp -implicitDefEqProofs only[s90,bp,go_sem];repeat' (first | ((first | ((with_reducible refine bj h ?_ ?_);(·simp[ae,al,cm])) | ((with_reducible apply cj);(·simp -implicitDefEqProofs only[List.map_cons,List.map_nil,push_cast,go_sem_proc]<;>rfl);(with_reducible exact h);(·rfl)) | (with_reducible refine aD ?_));simp -implicitDefEqProofs only[go_sem]) | (with_reducible refine aA.mk ?_ ?_) | (with_reducible refine And.intro ?_ ?_) | ((with_reducible refine bz ?_);simp -implicitDefEqProofs only[r90,push_cast,go_sem_proc]) | intro _)
 all_goals rfl
theorem Y6 (k n:Int) (s:ByteArray) (xs:List Ex) (d:Int) (uO:0<=d) (hd:d<=21) (h:∀y∈xs,∀d',0<=d'->d'<=21->af Tryz.prog 272 [bu y,.int .i64 d'] (·=.int .i64 (mb y d'))):
 af Tryz.prog 272 [bu (.mk k n s xs),.int .i64 d] (·=.int .i64 (mb (.mk k n s xs) d)):=by
 refine af.intro c95 300 (by simp) 20 ?_;simp -implicitDefEqProofs only[s95,bp,go_sem];repeat' (first | ((first | ((with_reducible first | refine bj (t107 k) ?_ ?_ | refine bj (t31 _ _ _) ?_ ?_ | refine bj (t54 s) ?_ ?_);(·simp[ae,al,cm])) | ((with_reducible apply cj);(·simp -implicitDefEqProofs only[List.map_cons,List.map_nil,push_cast,go_sem_proc]<;>rfl);(with_reducible first | exact(t107 k) | exact(t31 _ _ _) | exact(t54 s));(·rfl)) | (with_reducible refine aD ?_));simp -implicitDefEqProofs only[go_sem]) | (with_reducible refine aA.mk ?_ ?_) | (with_reducible refine And.intro ?_ ?_) | ((with_reducible refine bz ?_);simp -implicitDefEqProofs only[WZ,push_cast,go_sem_proc]) | intro _)
 all_goals first
  | ((with_reducible show F _ _ _)
     have hR:mb (.mk k n s xs) d=qT xs (d+1):=by clear h;simp_all[mb]<;>omega
     have NC:d<=20:=by clear h;simp_all<;>omega
     have hw:=wrap_small (d:=d) (by omega) (by omega);have hlen:xs.length<=9223372036854775807:=by assumption
     refine aL (fun m e H=>∃pre post,xs=pre++post/\m=post.length/\(∀y∈pre,mb y (d+1)=0)/\e 1=.int .i64 d/\e 60=.fs (xs.map bu)/\e 61=.int .i64 xs.length/\e 62=.int .i64 pre.length) xs.length ⟨[],xs,by simp[az,aC]⟩ ?_;rintro m e H ⟨pre,post,ao,rfl,hp,h1,wP,Dq,oP⟩;cases post with
     | nil=>
      simp -implicitDefEqProofs only[h1,wP,Dq,oP,aI ao,go_sem];simp -implicitDefEqProofs only[WZ,push_cast,go_sem_proc];rw[hR,ao,iv pre [] _ hp];rfl
     | cons y post=>
      have hy:=h y (by simp[ao]) (d+1) (by omega) (by omega);have hg:=aO bu ao;have hE:qT (pre++y::post) (d+1)=if mb y (d+1)≠0 then mb y (d+1)else qT post (d+1):=by rw[iv pre _ _ hp,qT]
      generalize Jv:mb y (d+1)=yr at*;generalize Ss:bu y=ye at*;rcases y with⟨k',n',s',zs⟩
      rw[bp]at Ss;subst Ss;simp -implicitDefEqProofs only[h1,wP,Dq,oP,hg,an ao,aa ao hlen,hw,go_sem];repeat' (first | ((first | ((with_reducible refine bj hy ?_ ?_);(·simp[ae,al,cm])) | ((with_reducible apply cj);(·simp -implicitDefEqProofs only[List.map_cons,List.map_nil,push_cast,go_sem_proc]<;>rfl);(with_reducible exact hy);(·rfl)) | (with_reducible refine aD ?_));simp -implicitDefEqProofs only[h1,wP,Dq,oP,hg,an ao,aa ao hlen,hw,go_sem]) | (with_reducible refine aA.mk ?_ ?_) | (with_reducible refine And.intro ?_ ?_) | ((with_reducible refine bz ?_);simp -implicitDefEqProofs only[WZ,push_cast,go_sem_proc]) | intro _)
      ·rename_i hc;rw[hR,ao,hE,if_pos (by simpa using hc)]
      ·rename_i hc;exact⟨_,Nat.lt_succ_self _,pre++ [_],post,by simp[ao];rfl,rfl,fun z hz=>by rcases List.mem_append.1 hz with hz | hz;exact hp z hz;simp at hz;subst hz;rw[Jv];simpa using hc,by simp⟩)
  | (clear h;simp_all[mb];done)
  | (clear h;simp_all[mb];omega)
theorem t95:(x:Ex)->∀d:Int,0<=d->d<=21->af Tryz.prog 272 [bu x,.int .i64 d] (·=.int .i64 (mb x d))
 | .mk k n s xs=>fun d h1 h2=>Y6 k n s xs d h1 h2 (fun y hy=>t95 y)
termination_by x=>SizeOf.sizeOf x
decreasing_by
 have:=List.sizeOf_lt_of_mem hy;simp;omega
theorem t83 (x:Ex):af Tryz.prog 241 [bu x] (·=.int .i64 (mb x 1)):=by
 have h:=t95 x 1 (by omega) (by omega);rcases x with⟨k,n,s,xs⟩
 rw[bp]at h;refine af.intro c83 200 (by simp) 20 ?_;simp -implicitDefEqProofs only[s83,bp,go_sem];repeat' (first | ((first | ((with_reducible refine bj h ?_ ?_);(·simp[ae,al,cm])) | ((with_reducible apply cj);(·simp -implicitDefEqProofs only[List.map_cons,List.map_nil,push_cast,go_sem_proc]<;>rfl);(with_reducible exact h);(·rfl)) | (with_reducible refine aD ?_));simp -implicitDefEqProofs only[go_sem]) | (with_reducible refine aA.mk ?_ ?_) | (with_reducible refine And.intro ?_ ?_) | ((with_reducible refine bz ?_);simp -implicitDefEqProofs only[r83,push_cast,go_sem_proc]) | intro _)
 all_goals rfl
def us (a b c d e f g:Bool):V:=.agg [.bool a,.bool b,.bool c,.bool d,.bool e,.bool f,.bool g]
def uz (k:Int):V:=if k=1 then us true true true false true false false else if k=2 then us true true false true false false false
 else if k=3 then us true false true false true false false else if k=4 then us true false false false true true false else us false false false false false false true
theorem t89 (k:Int):af Tryz.prog 246 [.int .i64 k] (·=uz k):=by
 refine af.intro c89 200 (by simp) 20 ?_;simp -implicitDefEqProofs only[s89,go_sem];repeat' (first | ((with_reducible refine aD ?_);simp -implicitDefEqProofs only[go_sem]) | (with_reducible refine aA.mk ?_ ?_) | (with_reducible refine And.intro ?_ ?_) | ((with_reducible refine bz ?_);simp -implicitDefEqProofs only[r89,push_cast,go_sem_proc]) | intro _)
 all_goals (simp_all[uz,us])
def isNone (k n:Int) (s:ByteArray) (xs:List Ex):Bool:=decide (k=0) && decide (n=0) && decide (s=⟨#[]⟩) && decide (xs.length=0)
theorem Su (k n:Int) (s:ByteArray) (xs:List Ex):af Tryz.prog 273 [bu (.mk k n s xs),.agg [.int .i64 0,.int .i64 0,.str ⟨#[]⟩,.fs []]] (·=.bool (isNone k n s xs)):=by
 refine af.intro YW 200 (by simp) 20 ?_;simp -implicitDefEqProofs only[Sb,bp,go_sem];repeat' (first | ((with_reducible refine aD ?_);simp -implicitDefEqProofs only[go_sem]) | (with_reducible refine aA.mk ?_ ?_) | (with_reducible refine And.intro ?_ ?_) | ((with_reducible refine bz ?_);simp -implicitDefEqProofs only[Nv,push_cast,go_sem_proc]) | intro _)
 all_goals first
  | ((with_reducible show F _ _ _)
     have hx:xs=[]:=by
      rename_i hx _;cases xs with
      | nil=>rfl
      | cons a l=>simp at hx;omega
     have hR:isNone k n s xs=true:=by simp_all[isNone]
     refine aL (fun m e H=>e 37=.int .i64 0/\e 38=.int .i64 0) 0 (by simp[az,aC,hx]) ?_;rintro m e H ⟨h1,h2⟩;simp -implicitDefEqProofs only[h1,h2,Int.lt_irrefl,go_sem];simp -implicitDefEqProofs only[Nv,push_cast,go_sem_proc];exact hR.symm)
  | (simp_all[isNone];done)
  | (simp_all[isNone];omega)
theorem t91 (k:Int) (r t v l:ByteArray) (e:Ex) (a b:List St) (p:ByteArray) (ps:List ByteArray):
 af Tryz.prog 248 [encS (.mk k r t v l e a b p ps)] (·=.int .i64 (if k≠5 then 0 else if ps.length=0 then 8 else if ps.length>12 then 2 else if ps.any (fun s=> !dt s)then 5 else 0)):=by
 rcases e with⟨ek,en,es,aR⟩
 refine af.intro c91 200 (by simp) 20 ?_;simp -implicitDefEqProofs only[s91,ay,go_sem];have gu:=t26 ps 276 [] [] (fun s=> !dt s) rfl rfl (fun x _=>t106 x);repeat' (first | ((first | ((with_reducible refine bj gu ?_ ?_);(·simp[ae,al,cm])) | ((with_reducible apply cj);(·simp -implicitDefEqProofs only[List.map_cons,List.map_nil,push_cast,go_sem_proc]<;>rfl);(with_reducible exact gu);(·rfl)) | (with_reducible refine aD ?_));simp -implicitDefEqProofs only[go_sem]) | (with_reducible refine aA.mk ?_ ?_) | (with_reducible refine And.intro ?_ ?_) | ((with_reducible refine bz ?_);simp -implicitDefEqProofs only[r91,push_cast,go_sem_proc]) | intro _)
 all_goals clear gu
 all_goals (generalize (ps.any fun s=> !dt s)=B at*;generalize ps.length=n at*)
 all_goals (try simp_all)
 all_goals (try omega)
def nE (s:ByteArray):Bool:= !decide (s=⟨#[]⟩)
def yK (k:Int) (r t v l:ByteArray) (none:Bool) (a b:Nat) (p:ByteArray) (ps:Nat):Int:=
 if((k<1\/4<k)/\nE r=true)\/((k<1\/2<k)/\nE t=true)\/((k≠1/\k≠3)/\nE v=true)\/(k≠2/\nE l=true)\/((k≠1/\k≠3/\k≠4)/\none=false)\/(k≠4/\a+b>0)\/((1<=k/\k<=4)/\(nE p=true\/ps>0))then 3 else 0
theorem wrap_add {m n:Nat} (h:m+n<=1000000):IntKind.i64.wrap ((m:Int)+(n:Int))=((m+n:Nat):Int):=by
 simp[IntKind.wrap,IntKind.signed,IntKind.bits];omega
theorem t87 (k:Int) (hk:1<=k/\k<=5) (r t v l:ByteArray) (ek en:Int) (es:ByteArray) (aR:List Ex) (a b:List St) (p:ByteArray) (ps:List ByteArray) (wQ:a.length+b.length<=1000000):
 af Tryz.prog 244 [encS (.mk k r t v l (.mk ek en es aR) a b p ps)] (·=.int .i64 (yK k r t v l (isNone ek en es aR) a.length b.length p ps.length)):=by
 have Jw:=Su ek en es aR;rw[bp]at Jw;have BQ:=t89 k;have hk:k=1\/k=2\/k=3\/k=4\/k=5:=by omega
 refine af.intro c87 400 (by simp) 20 ?_;rcases hk with rfl | rfl | rfl | rfl | rfl
 all_goals
  simp(config:={decide:=true}) only[uz,us,if_true,if_false,↓reduceIte]at BQ;simp -implicitDefEqProofs only[s87,ay,wrap_add wQ,go_sem];repeat' (first | ((first | ((with_reducible first | refine bj BQ ?_ ?_ | refine bj Jw ?_ ?_);(·simp[ae,al,cm])) | ((with_reducible apply cj);(·simp -implicitDefEqProofs only[List.map_cons,List.map_nil,push_cast,go_sem_proc]<;>rfl);(with_reducible first | exact BQ | exact Jw);(·rfl)) | (with_reducible refine aD ?_));simp -implicitDefEqProofs only[wrap_add wQ,go_sem]) | (with_reducible refine aA.mk ?_ ?_) | (with_reducible refine And.intro ?_ ?_) | ((with_reducible refine bz ?_);simp -implicitDefEqProofs only[r87,push_cast,go_sem_proc]) | intro _)
 all_goals clear Jw BQ
 all_goals (generalize isNone ek en es aR=Z at*;generalize a.length=m at*;generalize b.length=n at*;generalize ps.length=q at*)
 all_goals (first | (simp_all[yK,nE];done) | (simp_all[yK,nE];omega))
def zO (k:Int) (r t v l p:ByteArray):Int:=
 if((1<=k/\k<=4)/\dt r=false)\/((k=1\/k=2)/\dt t=false)\/((k=1\/k=3)/\dt v=false)\/(k=2/\dt l=false)\/((k<1\/4<k)/\dt p=false)then 5 else 0
theorem t88 (k:Int) (hk:1<=k/\k<=5) (r t v l:ByteArray) (ek en:Int) (es:ByteArray) (aR:List Ex) (a b:List St) (p:ByteArray) (ps:List ByteArray):
 af Tryz.prog 245 [encS (.mk k r t v l (.mk ek en es aR) a b p ps)] (·=.int .i64 (zO k r t v l p)):=by
 have BQ:=t89 k;have hk:k=1\/k=2\/k=3\/k=4\/k=5:=by omega
 refine af.intro c88 400 (by simp) 20 ?_;rcases hk with rfl | rfl | rfl | rfl | rfl
 all_goals
  simp(config:={decide:=true}) only[uz,us,if_true,if_false,↓reduceIte]at BQ;simp -implicitDefEqProofs only[s88,ay,go_sem];repeat' (first | ((first | ((with_reducible first | refine bj BQ ?_ ?_ | refine bj (t104 _ _) ?_ ?_);(·simp[ae,al,cm])) | ((with_reducible apply cj);(·simp -implicitDefEqProofs only[List.map_cons,List.map_nil,push_cast,go_sem_proc]<;>rfl);(with_reducible first | exact BQ | exact(t104 _ _));(·rfl)) | (with_reducible refine aD ?_));simp -implicitDefEqProofs only[go_sem]) | (with_reducible refine aA.mk ?_ ?_) | (with_reducible refine And.intro ?_ ?_) | ((with_reducible refine bz ?_);simp -implicitDefEqProofs only[r88,push_cast,go_sem_proc]) | intro _)
 all_goals clear BQ
 all_goals (first | (simp_all[zO];done) | (simp_all[zO];omega))
def rA (k:Int) (r t v l:ByteArray) (e:Ex) (none:Bool) (na nb:Nat) (p:ByteArray) (ps:List ByteArray) (d:Int):Int:=
 if d>20 then 2 else if k<1\/5<k then 4 else if yK k r t v l none na nb p ps.length≠0 then 3 else if zO k r t v l p≠0 then 5
 else if(k=1\/k=3\/k=4)/\mb e 1≠0 then mb e 1
 else if k≠5 then 0 else if ps.length=0 then 8 else if ps.length>12 then 2 else if ps.any (fun s=> !dt s)then 5 else 0
theorem foF_vals (k:Int) (r t v l:ByteArray) (none:Bool) (a b:Nat) (p:ByteArray) (ps:Nat):yK k r t v l none a b p ps=0\/yK k r t v l none a b p ps=3:=by
 unfold yK;split<;>simp
theorem FP (k:Int) (r t v l p:ByteArray):zO k r t v l p=0\/zO k r t v l p=5:=by
 unfold zO;split<;>simp
theorem t75 (k:Int) (r t v l:ByteArray) (ek en:Int) (es:ByteArray) (aR:List Ex) (a b:List St) (p:ByteArray) (ps:List ByteArray) (wQ:a.length+b.length<=1000000) (d:Int):
 af Tryz.prog 190 [encS (.mk k r t v l (.mk ek en es aR) a b p ps),.int .i64 d] (·=.int .i64 (rA k r t v l (.mk ek en es aR) (isNone ek en es aR) a.length b.length p ps d)):=by
 have Sv:=t90 (.mk ek en es aR);have BR:=t91 k r t v l (.mk ek en es aR) a b p ps;rw[ay]at BR;rw[bp]at Sv;have hf:=foF_vals k r t v l (isNone ek en es aR) a.length b.length p ps.length;have hn:=FP k r t v l p;by_cases hk:1<=k/\k<=5
 ·have h87:=t87 k hk r t v l ek en es aR a b p ps wQ;have h88:=t88 k hk r t v l ek en es aR a b p ps;have BQ:=t89 k;rw[ay]at h87 h88;refine af.intro c75 400 (by simp) 20 ?_;have vM:k=1\/k=2\/k=3\/k=4\/k=5:=by omega
  rcases vM with rfl | rfl | rfl | rfl | rfl
  all_goals
   simp(config:={decide:=true}) only[uz,us,if_true,if_false,↓reduceIte]at BQ;simp -implicitDefEqProofs only[YS,ay,go_sem];repeat' (first | ((first | ((with_reducible first | refine bj (t86 _ _ _) ?_ ?_ | refine bj h87 ?_ ?_ | refine bj h88 ?_ ?_ | refine bj BQ ?_ ?_ | refine bj Sv ?_ ?_ | refine bj BR ?_ ?_);(·simp[ae,al,cm])) | ((with_reducible apply cj);(·simp -implicitDefEqProofs only[List.map_cons,List.map_nil,push_cast,go_sem_proc]<;>rfl);(with_reducible first | exact(t86 _ _ _) | exact h87 | exact h88 | exact BQ | exact Sv | exact BR);(·rfl)) | (with_reducible refine aD ?_));simp -implicitDefEqProofs only[go_sem]) | (with_reducible refine aA.mk ?_ ?_) | (with_reducible refine And.intro ?_ ?_) | ((with_reducible refine bz ?_);simp -implicitDefEqProofs only[YT,push_cast,go_sem_proc]) | intro _)
  all_goals clear h87 h88 BQ Sv BR
  all_goals simp only[rA]
  all_goals (generalize isNone ek en es aR=Z at*;generalize mb _ _=X at*;generalize (ps.any fun s=> !dt s)=B at*;generalize ps.length=q at*;generalize a.length=m at*;generalize b.length=n at*;generalize yK _ r t v l Z m n p q=f at*;generalize zO _ r t v l p=g at*)
  all_goals (first | (simp_all;done) | (simp_all;omega))
 ·have ir:k<1\/5<k:=by omega
  clear hk Sv BR hf hn;refine af.intro c75 400 (by simp) 20 ?_;simp -implicitDefEqProofs only[YS,ay,go_sem];repeat' (first | ((first | ((with_reducible refine bj (t86 _ _ _) ?_ ?_);(·simp[ae,al,cm])) | ((with_reducible apply cj);(·simp -implicitDefEqProofs only[List.map_cons,List.map_nil,push_cast,go_sem_proc]<;>rfl);(with_reducible exact(t86 _ _ _));(·rfl)) | (with_reducible refine aD ?_));simp -implicitDefEqProofs only[go_sem]) | (with_reducible refine aA.mk ?_ ?_) | (with_reducible refine And.intro ?_ ?_) | ((with_reducible refine bz ?_);simp -implicitDefEqProofs only[YT,push_cast,go_sem_proc]) | intro _)
  all_goals first
   | (exfalso;rename_i hx;simp at hx;omega)
   | (simp only[rA];simp_all;done)
   | (simp only[rA];simp_all;omega)
mutual
def dA:St->Nat
 | .mk _ _ _ _ _ _ a b _ _=>1+ai a+ai b
def ai:List St->Nat
 | []=>0
 | x::l=>dA x+ai l
end
theorem BS (x:St):1<=dA x:=by rcases x with⟨⟩;simp[dA];omega
theorem eh:∀l:List St,l.length<=ai l
 | []=>Nat.zero_le _
 | x::l=>by have:=eh l;have:=BS x;simp[ai];omega
theorem aX:∀a b:List St,ai (a++b)=ai a+ai b
 | [],b=>by simp[ai]
 | x::a,b=>by simp[ai,aX a b];omega
def kq:St->Int->Int
 | .mk k r t v l (.mk ek en es aR) a b p ps,d=>rA k r t v l (.mk ek en es aR) (isNone ek en es aR) a.length b.length p ps d
mutual
def sF:St->Int->Int
 | .mk k r t v l e a b p ps,d=>
  if kq (.mk k r t v l e a b p ps) d≠0 then kq (.mk k r t v l e a b p ps) d else if gA a (d+1)≠0 then gA a (d+1)else gA b (d+1)
def gA:List St->Int->Int
 | [],_=>0
 | x::l,d=>if sF x d≠0 then sF x d else gA l d
end
theorem jk:∀(pre post:List St) (d:Int),(∀y∈pre,sF y d=0)->gA (pre++post) d=gA post d
 | [],post,d,_=>rfl
 | x::pre,post,d,h=>by
  rw[List.cons_append,gA,h x (by simp)];simp only[ne_eq,not_true_eq_false,if_false];exact jk pre post d (fun y hy=>h y (by simp[hy]))
theorem BT {x:St} {d:Int} (h:20<d):kq x d=2:=by
 rcases x with⟨k,r,t,v,l,⟨ek,en,es,aR⟩,a,b,p,ps⟩
 simp[kq,rA,h]
theorem Y7 (xs:List St) (d:Int) (uO:0<=d) (hd:d<=21) (hc:ai xs<=1000000)
 (h:∀k r t v l e a b p ps,St.mk k r t v l e a b p ps∈xs->∀d',0<=d'->d'<=21->af Tryz.prog 142 [.fs (a.map encS),.int .i64 d'] (·=.int .i64 (gA a d'))/\af Tryz.prog 142 [.fs (b.map encS),.int .i64 d'] (·=.int .i64 (gA b d'))):
 af Tryz.prog 142 [.fs (xs.map encS),.int .i64 d] (·=.int .i64 (gA xs d)):=by
 refine af.intro c62 300 (by simp) 20 ?_;simp -implicitDefEqProofs only[s62,go_sem];intro hlen;refine aL (fun m e H=>∃pre post,xs=pre++post/\m=post.length/\(∀y∈pre,sF y d=0)/\e 1=.int .i64 d/\e 10=.fs (xs.map encS)/\e 11=.int .i64 xs.length/\e 12=.int .i64 pre.length) xs.length ⟨[],xs,by simp[az,aC]⟩ ?_;rintro m e H ⟨pre,post,ao,rfl,hp,h1,eb,ez,dU⟩;cases post with
 | nil=>
  simp -implicitDefEqProofs only[h1,eb,ez,dU,aI ao,go_sem];simp -implicitDefEqProofs only[WX,push_cast,go_sem_proc];rw[ao,jk pre [] _ hp];rfl
 | cons y post=>
  have hg:=aO encS ao;have hE:gA (pre++y::post) d=if sF y d≠0 then sF y d else gA post d:=by rw[jk pre _ _ hp,gA]
  have zP:dA y<=1000000:=by rw[ao,aX]at hc;simp only[ai]at hc;omega
  generalize Jv:sF y d=yr at*;generalize EI:kq y d=ys;have rX:20<d->ys=2:=fun hh=>by rw[<-EI];exact BT hh
  rcases y with⟨k,r,t,v,l,⟨ek,en,es,aR⟩,a,b,p,ps⟩
  have wQ:a.length+b.length<=1000000:=by
   have:=eh a;have:=eh b;simp only[dA]at zP;omega
  have h75:=t75 k r t v l ek en es aR a b p ps wQ d;rw[show rA k r t v l (.mk ek en es aR) (isNone ek en es aR) a.length b.length p ps d=ys from EI]at h75;rw[ay]at hg h75;have EJ:yr=if ys≠0 then ys else if gA a (d+1)≠0 then gA a (d+1)else gA b (d+1):=by rw[<-Jv,sF,EI]
  simp -implicitDefEqProofs only[h1,eb,ez,dU,hg,an ao,aa ao hlen,go_sem];repeat' (first | ((first | ((with_reducible refine bj h75 ?_ ?_);(·simp[ae,al,cm])) | ((with_reducible apply cj);(·simp -implicitDefEqProofs only[List.map_cons,List.map_nil,push_cast,go_sem_proc]<;>rfl);(with_reducible exact h75);(·rfl)) | (with_reducible refine aD ?_));simp -implicitDefEqProofs only[h1,eb,ez,dU,hg,an ao,aa ao hlen,go_sem]) | (with_reducible refine aA.mk ?_ ?_) | (with_reducible refine And.intro ?_ ?_) | ((with_reducible refine bz ?_);simp -implicitDefEqProofs only[WX,push_cast,go_sem_proc]) | intro _)
  ·rename_i rB;have rB:ys≠0:=by simpa using rB
   rw[ao,hE,EJ,if_pos rB,if_pos rB]
  ·rename_i rB;have rB:ys=0:=by simpa using rB
   have NC:d<=20:=by
    refine Classical.byContradiction fun hh=> ?_
    have:=rX (by omega);omega
   have hw:=wrap_small (d:=d) (by omega) (by omega);obtain⟨ha,hb⟩:=h k r t v l (.mk ek en es aR) a b p ps (by rw[ao];simp) (d+1) (by omega) (by omega);generalize gA a (d+1)=fa at*;generalize gA b (d+1)=fb at*;rw[hw];repeat' (first | ((first | ((with_reducible first | refine bj ha ?_ ?_ | refine bj hb ?_ ?_);(·simp[ae,al,cm])) | ((with_reducible apply cj);(·simp -implicitDefEqProofs only[List.map_cons,List.map_nil,push_cast,go_sem_proc]<;>rfl);(with_reducible first | exact ha | exact hb);(·rfl)) | (with_reducible refine aD ?_));simp -implicitDefEqProofs only[h1,eb,ez,dU,hg,an ao,aa ao hlen,hw,go_sem]) | (with_reducible refine aA.mk ?_ ?_) | (with_reducible refine And.intro ?_ ?_) | ((with_reducible refine bz ?_);simp -implicitDefEqProofs only[WX,push_cast,go_sem_proc]) | intro _)
   ·rename_i hf;have hf:fa≠0:=by simpa using hf
    rw[ao,hE,EJ,rB];simp[hf]
   ·rename_i hf ND;have hf:fa=0:=by simpa using hf
    have ND:fb≠0:=by simpa using ND
    rw[ao,hE,EJ,rB,hf];simp[ND]
   ·rename_i hf ND;have hf:fa=0:=by simpa using hf
    have ND:fb=0:=by simpa using ND
    exact⟨_,Nat.lt_succ_self _,pre++ [_],post,by simp[ao];rfl,rfl,fun z hz=>by
     rcases List.mem_append.1 hz with hz | hz
     ·exact hp z hz
     ·simp at hz;subst hz;rw[Jv,EJ,rB,hf,ND];simp,by simp⟩
theorem t62:∀(n:Nat) (xs:List St),SizeOf.sizeOf xs<n->ai xs<=1000000->∀d:Int,0<=d->d<=21->af Tryz.prog 142 [.fs (xs.map encS),.int .i64 d] (·=.int .i64 (gA xs d))
 | 0,xs,h,_,_,_,_=>absurd h (Nat.not_lt_zero _)
 | n+1,xs,hn,hc,d,h1,h2=>Y7 xs d h1 h2 hc (fun k r t v l e a b p ps hm d' h3 h4=>by
  have hs:=List.sizeOf_lt_of_mem hm;have lA:dA (.mk k r t v l e a b p ps)<=ai xs:=by
   obtain⟨p1,p2,rfl⟩:=List.append_of_mem hm;rw[aX,ai];omega
  simp only[dA]at lA;simp only[St.mk.sizeOf_spec]at hs;exact⟨t62 n a (by omega) (by omega) d' h3 h4,t62 n b (by omega) (by omega) d' h3 h4⟩)
theorem bP {x:Int} (h1: -1000000000<=x) (h2:x<=1000000000):IntKind.i64.wrap x=x:=by
 simp[IntKind.wrap,IntKind.signed,IntKind.bits];omega
theorem Y8 (xs:List St) (hc:ai xs<=1000000)
 (h:∀k r t v l e a b p ps,St.mk k r t v l e a b p ps∈xs->af Tryz.prog 122 [.fs (a.map encS)] (·=.int .i64 (ai a))/\af Tryz.prog 122 [.fs (b.map encS)] (·=.int .i64 (ai b))):
 af Tryz.prog 122 [.fs (xs.map encS)] (·=.int .i64 (ai xs)):=by
 refine af.intro c49 300 (by simp) 20 ?_;simp -implicitDefEqProofs only[s49,go_sem];intro hlen _;refine aL (fun m e H=>∃pre post,xs=pre++post/\m=post.length/\e 3=.int .i64 ((xs.length:Int)+ai pre - pre.length)/\e 8=.fs (xs.map encS)/\e 9=.int .i64 xs.length/\e 10=.int .i64 pre.length) xs.length ⟨[],xs,by simp[az,aC,ai]⟩ ?_;rintro m e H ⟨pre,post,ao,rfl,h3,h8,h9,eb⟩;cases post with
 | nil=>
  simp -implicitDefEqProofs only[h3,h8,h9,eb,aI ao,go_sem];simp -implicitDefEqProofs only[YI,push_cast,go_sem_proc];rw[ao,aX];simp[ai];omega
 | cons y post=>
  have hg:=aO encS ao;have hL:=eh xs;have FQ:ai xs=ai pre+(dA y+ai post):=by rw[ao,aX,ai]
  have MN:=eh pre;have MD:xs.length=pre.length+(post.length+1):=by rw[ao];simp
  rcases y with⟨k,r,t,v,l,⟨ek,en,es,aR⟩,a,b,p,ps⟩
  simp only[dA]at FQ;obtain⟨ha,hb⟩:=h k r t v l (.mk ek en es aR) a b p ps (by rw[ao];simp);rw[ay]at hg;have w1:=bP (x:=(ai a:Int)+ai b) (by omega) (by omega);have w2:=bP (x:=(xs.length:Int)+ai pre - pre.length+((ai a:Int)+ai b)) (by omega) (by omega);simp -implicitDefEqProofs only[h3,h8,h9,eb,hg,an ao,aa ao hlen,go_sem];repeat' (first | ((first | ((with_reducible first | refine bj ha ?_ ?_ | refine bj hb ?_ ?_);(·simp[ae,al,cm])) | ((with_reducible apply cj);(·simp -implicitDefEqProofs only[List.map_cons,List.map_nil,push_cast,go_sem_proc]<;>rfl);(with_reducible first | exact ha | exact hb);(·rfl)) | (with_reducible refine aD ?_));simp -implicitDefEqProofs only[h3,h8,h9,eb,hg,an ao,aa ao hlen,w1,w2,go_sem]) | (with_reducible refine aA.mk ?_ ?_) | (with_reducible refine And.intro ?_ ?_) | ((with_reducible refine bz ?_);simp -implicitDefEqProofs only[YI,push_cast,go_sem_proc]) | intro _)
  refine⟨_,Nat.lt_succ_self _,pre++ [_],post,by simp[ao];rfl,rfl,?_,by simp⟩;rw[aX];simp only[ai,dA,List.length_append,List.length_cons,List.length_nil];congr 1;omega
theorem t49:∀(n:Nat) (xs:List St),SizeOf.sizeOf xs<n->ai xs<=1000000->af Tryz.prog 122 [.fs (xs.map encS)] (·=.int .i64 (ai xs))
 | 0,xs,h,_=>absurd h (Nat.not_lt_zero _)
 | n+1,xs,hn,hc=>Y8 xs hc (fun k r t v l e a b p ps hm=>by
  have hs:=List.sizeOf_lt_of_mem hm;have lA:dA (.mk k r t v l e a b p ps)<=ai xs:=by
   obtain⟨p1,p2,rfl⟩:=List.append_of_mem hm;rw[aX,ai];omega
  simp only[dA]at lA;simp only[St.mk.sizeOf_spec]at hs;exact⟨t49 n a (by omega) (by omega),t49 n b (by omega) (by omega)⟩)
def bD:List Pr->Nat
 | []=>0
 | x::l=>ai x.steps+bD l
theorem bE:∀a b:List Pr,bD (a++b)=bD a+bD b
 | [],b=>by simp[bD]
 | x::a,b=>by simp[bD,bE a b];omega
def total (p:bH):Nat:=ai p.main+bD p.procs
theorem t19 (P:bH) (hc:total P<=1000000):af Tryz.prog 44 [aP P] (·=.int .i64 (total P)):=by
 rcases P with⟨xs,main⟩
 simp only[total]at hc;have hm:=t49 _ main (Nat.lt_succ_self _) (by omega);refine af.intro c19 300 (by simp) 20 ?_;simp -implicitDefEqProofs only[s19,aP,go_sem];repeat' (first | ((first | ((with_reducible refine bj hm ?_ ?_);(·simp[ae,al,cm])) | ((with_reducible apply cj);(·simp -implicitDefEqProofs only[List.map_cons,List.map_nil,push_cast,go_sem_proc]<;>rfl);(with_reducible exact hm);(·rfl)) | (with_reducible refine aD ?_));simp -implicitDefEqProofs only[go_sem]) | (with_reducible refine aA.mk ?_ ?_) | (with_reducible refine And.intro ?_ ?_) | ((with_reducible refine bz ?_);simp -implicitDefEqProofs only[WQ,push_cast,go_sem_proc]) | intro _)
 rename_i hlen;refine aL (fun m e H=>∃pre post,xs=pre++post/\m=post.length/\e 3=.int .i64 ((ai main:Int)+bD pre)/\e 10=.fs (xs.map aF)/\e 11=.int .i64 xs.length/\e 12=.int .i64 pre.length) xs.length ⟨[],xs,by simp[az,aC,bD]⟩ ?_;rintro m e H ⟨pre,post,ao,rfl,h3,h8,h9,eb⟩;cases post with
 | nil=>
  simp -implicitDefEqProofs only[h3,h8,h9,eb,aI ao,go_sem];simp -implicitDefEqProofs only[WQ,push_cast,go_sem_proc];simp only[total];rw[ao,bE];simp[bD]
 | cons y post=>
  have hg:=aO aF ao;have FQ:bD xs=bD pre+(ai y.steps+bD post):=by rw[ao,bE,bD]
  rcases y with⟨nm,rs,st⟩
  simp only[aF]at hg FQ;have ha:=t49 _ st (Nat.lt_succ_self _) (by omega);have w2:=bP (x:=(ai main:Int)+bD pre+(ai st:Int)) (by omega) (by omega);simp -implicitDefEqProofs only[h3,h8,h9,eb,hg,an ao,aa ao hlen,go_sem];repeat' (first | ((first | ((with_reducible refine bj ha ?_ ?_);(·simp[ae,al,cm])) | ((with_reducible apply cj);(·simp -implicitDefEqProofs only[List.map_cons,List.map_nil,push_cast,go_sem_proc]<;>rfl);(with_reducible exact ha);(·rfl)) | (with_reducible refine aD ?_));simp -implicitDefEqProofs only[h3,h8,h9,eb,hg,an ao,aa ao hlen,w2,go_sem]) | (with_reducible refine aA.mk ?_ ?_) | (with_reducible refine And.intro ?_ ?_) | ((with_reducible refine bz ?_);simp -implicitDefEqProofs only[WQ,push_cast,go_sem_proc]) | intro _)
  refine⟨_,Nat.lt_succ_self _,pre++ [_],post,by simp[ao];rfl,rfl,?_,by simp⟩;rw[bE];simp only[bD];congr 1;omega
def pG:List ByteArray->List ByteArray->Int
 | _,[]=>0
 | seen,x::l=>if dt x=false then 5 else if(seen.any fun y=>decide (x=y))then 6 else pG (seen++ [x]) l
def pF (pre:List Pr) (q:Pr):Int:=
 if dt q.name=false then 5 else if(pre.any fun z=>decide (z.name=q.name))then 6 else if q.au.length=0 then 8 else if q.au.length>12 then 2
 else if pG [] q.au≠0 then pG [] q.au else gA q.steps 1
theorem gv {α:Type} {xs pre post:List α} {y:α} (f:α->V) (h:xs=pre++y::post):(xs.map f).take pre.length=pre.map f:=by
 subst h;rw[<-List.map_take];simp
theorem cA {α:Type} (f:α->V) (n:Nat) (h:∀x,(aw (f x)).length=n) (l:List α):df n (l.map f):=by
 intro e he;cases l with
 | nil=>simp at he
 | cons x l=>simp at he;subst he;exact h x
theorem headOk_P (l:List Pr):df 3 (l.map aF):=cA _ _ (fun x=>by simp[aF,aw]) l
theorem bV (l:List ByteArray):df 1 (l.map V.str):=cA _ _ (fun x=>by simp[aw]) l
theorem t61 (xs pre post:List Pr) (q:Pr) (ao:xs=pre++q::post) (hc:ai q.steps<=1000000):af Tryz.prog 141 [.fs (xs.map aF),.int .i64 pre.length] (·=.int .i64 (pF pre q)):=by
 have hg:=aO aF ao;have ht:=gv aF ao;have Il:=t73 pre 189 [] [.bc [.str q.name,.fs (q.au.map .str),.fs (q.steps.map encS)]] (fun z=>decide (z.name=q.name)) rfl (by simp[ae,al,aE,ah]) (fun z _=>t74 z q);have nk:=t62 _ q.steps (Nat.lt_succ_self _) hc 1 (by omega) (by omega);have hl:(pre.length:Int)<=xs.length:=by rw[ao];simp;omega
 have ct:=an ao;refine af.intro c61 300 (by simp) 20 ?_;simp only[aF]at hg;simp -implicitDefEqProofs only[s61,hg,ct,ht,headOk_P,hl,Int.le_refl,Int.natCast_nonneg,go_sem];repeat' (first | ((first | ((with_reducible first | refine bj (t72 _) ?_ ?_ | refine bj Il ?_ ?_);(·simp[ae,al,cm])) | ((with_reducible apply cj);(·simp -implicitDefEqProofs only[List.map_cons,List.map_nil,push_cast,go_sem_proc]<;>rfl);(with_reducible first | exact(t72 _) | exact Il);(·rfl)) | (with_reducible refine aD ?_));simp -implicitDefEqProofs only[hg,ct,ht,headOk_P,hl,Int.le_refl,Int.natCast_nonneg,go_sem]) | (with_reducible refine aA.mk ?_ ?_) | (with_reducible refine And.intro ?_ ?_) | ((with_reducible refine bz ?_);simp -implicitDefEqProofs only[WW,push_cast,go_sem_proc]) | intro _)
 case refine_2.refine_2.hk.refine_2.refine_2.refine_2=>
  have hR:pF pre q=if pG [] q.au≠0 then pG [] q.au else gA q.steps 1:=by
   clear Il nk hg ht ct;simp only[pF];generalize q.au.length=n at*;generalize pG [] q.au=R;generalize (pre.any fun z=>decide (z.name=q.name))=B at*;generalize dt q.name=N at*;simp_all
   intro h;exfalso;omega
  have hlen:q.au.length<=9223372036854775807:=by assumption
  refine aL (fun m e H=>∃p2 q2,q.au=p2++q2/\m=q2.length/\pG [] q.au=pG p2 q2/\H=[ak.row [.agg [.str q.name,.fs (q.au.map .str),.fs (q.steps.map encS)]]]/\e 5=.ptr 0 0 0/\e 34=.fs (q.au.map .str)/\e 35=.int .i64 q.au.length/\e 36=.int .i64 p2.length) q.au.length ⟨[],q.au,by simp[az,aC]⟩ ?_;rintro m e H ⟨p2,q2,hq,rfl,hro,rfl,h5,mU,gL,hU⟩;cases q2 with
  | nil=>
   simp -implicitDefEqProofs only[h5,mU,gL,hU,aI hq,go_sem];repeat' (first | ((first | ((with_reducible refine bj nk ?_ ?_);(·simp[ae,al,cm])) | ((with_reducible apply cj);(·simp -implicitDefEqProofs only[List.map_cons,List.map_nil,push_cast,go_sem_proc]<;>rfl);(with_reducible exact nk);(·rfl)) | (with_reducible refine aD ?_));simp -implicitDefEqProofs only[h5,mU,gL,hU,aI hq,go_sem]) | (with_reducible refine aA.mk ?_ ?_) | (with_reducible refine And.intro ?_ ?_) | ((with_reducible refine bz ?_);simp -implicitDefEqProofs only[WW,push_cast,go_sem_proc]) | intro _)
   rw[hR,hro];simp[pG]
  | cons y q2=>
   have gB:=aO V.str hq;have tH:=gv V.str hq;have jf:(p2.length:Int)<=q.au.length:=by rw[hq];simp;omega
   simp -implicitDefEqProofs only[h5,mU,gL,hU,gB,an hq,aa hq hlen,bV,jf,tH,Int.le_refl,Int.natCast_nonneg,go_sem];repeat' (first | ((first | ((with_reducible first | refine bj (t72 y) ?_ ?_ | refine bj (t29 p2 y) ?_ ?_);(·simp[ae,al,cm])) | ((with_reducible apply cj);(·simp -implicitDefEqProofs only[List.map_cons,List.map_nil,push_cast,go_sem_proc]<;>rfl);(with_reducible first | exact(t72 y) | exact(t29 p2 y));(·rfl)) | (with_reducible refine aD ?_));simp -implicitDefEqProofs only[h5,mU,gL,hU,gB,an hq,aa hq hlen,bV,jf,tH,Int.le_refl,Int.natCast_nonneg,go_sem]) | (with_reducible refine aA.mk ?_ ?_) | (with_reducible refine And.intro ?_ ?_) | ((with_reducible refine bz ?_);simp -implicitDefEqProofs only[WW,push_cast,go_sem_proc]) | intro _)
   ·rename_i hy;have hy:dt y=false:=by simpa using hy
    rw[hR,hro];simp[pG,hy]
   ·rename_i hy hm;have hy:dt y=true:=by simpa using hy
    rw[hR,hro];simp only[pG,hy,hm];simp
   ·rename_i hy hm;have hy:dt y=true:=by simpa using hy
    refine⟨_,Nat.lt_succ_self _,p2++ [y],q2,by simp[hq],rfl,?_,by simp⟩;rw[hro];simp only[pG,hy,hm];simp
 all_goals clear Il nk hg ht ct
 all_goals simp only[pF]
 all_goals (generalize q.au.length=n at*;generalize pG [] q.au=R;generalize (pre.any fun z=>decide (z.name=q.name))=B at*;generalize dt q.name=N at*)
 all_goals (first | (simp_all;done) | (simp_all;omega) | (simp_all;intro h;omega))
def rC:List Pr->List Pr->Int
 | _,[]=>0
 | pre,q::post=>if pF pre q≠0 then pF pre q else rC (pre++ [q]) post
def np (P:bH):Int:=
 if P.procs.length>50 then 2 else if rC [] P.procs≠0 then rC [] P.procs else if gA P.main 1≠0 then gA P.main 1 else if total P>2000 then 2 else 0
theorem wR {q:Pr} {l:List Pr} (h:q∈l):ai q.steps<=bD l:=by
 obtain⟨a,b,rfl⟩:=List.append_of_mem h;rw[bE,bD];omega
theorem t32 (P:bH) (hc:total P<=1000000):af Tryz.prog 70 [aP P] (·=.int .i64 (np P)):=by
 have iV:=t19 P hc;rcases P with⟨xs,main⟩
 simp only[total]at hc;have nk:=t62 _ main (Nat.lt_succ_self _) (by omega) 1 (by omega) (by omega);simp only[aP]at iV;refine af.intro c32 300 (by simp) 20 ?_;simp -implicitDefEqProofs only[s32,aP,go_sem];repeat' (first | ((with_reducible refine aD ?_);simp -implicitDefEqProofs only[go_sem]) | (with_reducible refine aA.mk ?_ ?_) | (with_reducible refine And.intro ?_ ?_) | ((with_reducible refine bz ?_);simp -implicitDefEqProofs only[WR,push_cast,go_sem_proc]) | intro _)
 ·rename_i oQ;have oQ:xs.length>50:=by simp at oQ;omega
  simp only[np,if_pos oQ]
 ·rename_i hlen oQ _;have oQ:¬xs.length>50:=by simp at oQ;omega
  refine aL (fun m e H=>∃pre post,xs=pre++post/\m=post.length/\rC [] xs=rC pre post/\H=[ak.row [.agg [.fs (xs.map aF),.fs (main.map encS)]]]/\e 1=.ptr 0 0 0/\e 12=.int .i64 xs.length/\e 13=.int .i64 pre.length) xs.length ⟨[],xs,by simp[az,aC]⟩ ?_;rintro m e H ⟨pre,post,ao,rfl,jA,rfl,h1,dU,eV⟩;cases post with
  | nil=>
   simp -implicitDefEqProofs only[h1,dU,eV,aI ao,go_sem];repeat' (first | ((first | ((with_reducible first | refine bj nk ?_ ?_ | refine bj iV ?_ ?_);(·simp[ae,al,cm])) | ((with_reducible apply cj);(·simp -implicitDefEqProofs only[List.map_cons,List.map_nil,push_cast,go_sem_proc]<;>rfl);(with_reducible first | exact nk | exact iV);(·rfl)) | (with_reducible refine aD ?_));simp -implicitDefEqProofs only[h1,dU,eV,aI ao,go_sem]) | (with_reducible refine aA.mk ?_ ?_) | (with_reducible refine And.intro ?_ ?_) | ((with_reducible refine bz ?_);simp -implicitDefEqProofs only[WR,push_cast,go_sem_proc]) | intro _)
   all_goals (simp only[np,if_neg oQ,jA,rC])
   all_goals (generalize total _=T at*;generalize gA main 1=S at*)
   all_goals clear nk iV
   ·rename_i hS;have hS:S≠0:=by simpa using hS
    simp[hS]
   ·rename_i hT hS;have hS:S=0:=by simpa using hS
    have hT:T>2000:=by simp at hT;omega
    simp[hS,hT]
   ·rename_i hT hS;have hS:S=0:=by simpa using hS
    have hT:¬T>2000:=by simp at hT;omega
    simp[hS,hT]
  | cons q post=>
   have oP:=t61 xs pre post q ao (by have:=wR (q:=q) (l:=xs) (by rw[ao];simp);omega);simp -implicitDefEqProofs only[h1,dU,eV,an ao,aa ao hlen,go_sem];repeat' (first | ((first | ((with_reducible refine bj oP ?_ ?_);(·simp[ae,al,cm])) | ((with_reducible apply cj);(·simp -implicitDefEqProofs only[List.map_cons,List.map_nil,push_cast,go_sem_proc]<;>rfl);(with_reducible exact oP);(·rfl)) | (with_reducible refine aD ?_));simp -implicitDefEqProofs only[h1,dU,eV,an ao,aa ao hlen,go_sem]) | (with_reducible refine aA.mk ?_ ?_) | (with_reducible refine And.intro ?_ ?_) | ((with_reducible refine bz ?_);simp -implicitDefEqProofs only[WR,push_cast,go_sem_proc]) | intro _)
   ·rename_i hq;have hq:pF pre q≠0:=by simpa using hq
    simp only[np,if_neg oQ,jA,rC,if_pos hq]
   ·rename_i hq;have hq:pF pre q=0:=by simpa using hq
    refine⟨_,Nat.lt_succ_self _,pre++ [q],post,by simp[ao],rfl,?_,by simp⟩;rw[jA,rC,hq];simp
def dS (k:Int) (r t:ByteArray) (ps:List ByteArray):List ByteArray:=if k=5 then ps else if k=1\/k=2 then[r,t]else[r]
theorem t63 (k:Int) (r t v l:ByteArray) (ek en:Int) (es:ByteArray) (aR:List Ex) (a b:List St) (p:ByteArray) (ps:List ByteArray):
 af Tryz.prog 125 [encS (.mk k r t v l (.mk ek en es aR) a b p ps)] (·=.fs ((dS k r t ps).map .str)):=by
 refine af.intro c63 300 (by simp) 20 ?_;simp -implicitDefEqProofs only[s63,ay,go_sem];repeat' (first | ((with_reducible refine aD ?_);simp -implicitDefEqProofs only[go_sem]) | (with_reducible refine aA.mk ?_ ?_) | (with_reducible refine And.intro ?_ ?_) | ((with_reducible refine bz ?_);simp -implicitDefEqProofs only[r63,push_cast,go_sem_proc]) | intro _)
 all_goals (simp_all[dS])
theorem t27 (k:Int) (r t v l:ByteArray) (ek en:Int) (es:ByteArray) (aR:List Ex) (a b:List St) (p:ByteArray) (ps:List ByteArray):
 af Tryz.prog 49 [encS (.mk k r t v l (.mk ek en es aR) a b p ps)] (·=.fs ((dS k r t ps).map .str)):=by
 refine af.intro c27 300 (by simp) 20 ?_;simp -implicitDefEqProofs only[s27,ay,go_sem];repeat' (first | ((with_reducible refine aD ?_);simp -implicitDefEqProofs only[go_sem]) | (with_reducible refine aA.mk ?_ ?_) | (with_reducible refine And.intro ?_ ?_) | ((with_reducible refine bz ?_);simp -implicitDefEqProofs only[r27,push_cast,go_sem_proc]) | intro _)
 all_goals (simp_all[dS])
def procI (xs:List Pr) (nm:ByteArray):Int:=oc (fun z=>decide (z.name=nm)) xs 0
theorem t30 (P:bH) (nm:ByteArray):af Tryz.prog 52 [aP P,.str nm] (·=.int .i64 (procI P.procs nm)):=by
 have wP:=t59 P.procs 130 [] [.bc [.str nm]] (fun z=>decide (z.name=nm)) rfl rfl (fun z _=>t60 z nm);refine af.intro c30 300 (by simp) 20 ?_;simp -implicitDefEqProofs only[s30,aP,go_sem];repeat' (first | ((first | ((with_reducible refine bj wP ?_ ?_);(·simp[ae,al,cm])) | ((with_reducible apply cj);(·simp -implicitDefEqProofs only[List.map_cons,List.map_nil,push_cast,go_sem_proc]<;>rfl);(with_reducible exact wP);(·rfl)) | (with_reducible refine aD ?_));simp -implicitDefEqProofs only[go_sem]) | (with_reducible refine aA.mk ?_ ?_) | (with_reducible refine And.intro ?_ ?_) | ((with_reducible refine bz ?_);simp -implicitDefEqProofs only[r30,push_cast,go_sem_proc]) | intro _)
 all_goals (try rfl)
theorem t65 (P:bH) (nm:ByteArray):af Tryz.prog 192 [aP P,.str nm] (·=.int .i64 (procI P.procs nm)):=by
 have wP:=t59 P.procs 249 [] [.bc [.str nm]] (fun z=>decide (z.name=nm)) rfl rfl (fun z _=>t76 z nm);refine af.intro c65 300 (by simp) 20 ?_;simp -implicitDefEqProofs only[s65,aP,go_sem];repeat' (first | ((first | ((with_reducible refine bj wP ?_ ?_);(·simp[ae,al,cm])) | ((with_reducible apply cj);(·simp -implicitDefEqProofs only[List.map_cons,List.map_nil,push_cast,go_sem_proc]<;>rfl);(with_reducible exact wP);(·rfl)) | (with_reducible refine aD ?_));simp -implicitDefEqProofs only[go_sem]) | (with_reducible refine aA.mk ?_ ?_) | (with_reducible refine And.intro ?_ ?_) | ((with_reducible refine bz ?_);simp -implicitDefEqProofs only[r65,push_cast,go_sem_proc]) | intro _)
 all_goals (try rfl)
theorem t64 (pre post:List Pr) (q:Pr) (main:List St) (nm:ByteArray):
 af Tryz.prog 191 [.str nm,.bc [.fs ((pre++q::post).map aF),.fs (main.map encS)],.bc [.int .i64 pre.length]] (·=.bool (!q.au.any fun y=>decide (nm=y))):=by
 have hg:=aO aF (rfl:pre++q::post=pre++q::post);have ct:=an (rfl:pre++q::post=pre++q::post);simp only[aF]at hg;have oR:=t29 q.au nm;refine af.intro c64 300 (by simp) 20 ?_;generalize hL:pre++q::post=L at*;simp -implicitDefEqProofs only[s64,hg,ct,go_sem];repeat' (first | ((first | ((with_reducible refine bj oR ?_ ?_);(·simp[ae,al,cm])) | ((with_reducible apply cj);(·simp -implicitDefEqProofs only[List.map_cons,List.map_nil,push_cast,go_sem_proc]<;>rfl);(with_reducible exact oR);(·rfl)) | (with_reducible refine aD ?_));simp -implicitDefEqProofs only[hg,ct,go_sem]) | (with_reducible refine aA.mk ?_ ?_) | (with_reducible refine And.intro ?_ ?_) | ((with_reducible refine bz ?_);simp -implicitDefEqProofs only[r64,push_cast,go_sem_proc]) | intro _)
 all_goals (try rfl)
theorem jN {α:Type} (p:α->Bool):∀(xs:List α) (i:Int),0<=i->(oc p xs i= -1/\xs.find? p=none)\/∃pre q post,xs=pre++q::post/\oc p xs i=i+(pre.length:Int)/\xs.find? p=some q
 | [],i,_=> .inl ⟨rfl,rfl⟩
 | x::l,i,hi=>by
  by_cases hp:p x=true
  ·exact .inr ⟨[],x,l,rfl,by simp[oc,hp],by simp[hp]⟩
  ·rcases jN p l (i+1) (by omega)with⟨h1,h2⟩ | ⟨pre,q,post,h1,h2,h3⟩
   ·exact .inl ⟨by simp[oc,hp,h1],by rw[List.find?_cons_of_neg hp,h2]⟩
   ·refine .inr ⟨x::pre,q,post,by simp[h1],?_,by rw[List.find?_cons_of_neg hp,h3]⟩;simp only[oc,hp,h2,List.length_cons,Bool.false_eq_true,if_false];omega
theorem nq:(0<=(-1:Int))=False:=by simp
theorem zQ:((-1:Int)<0)=True:=by simp
def cO:List ByteArray->List ByteArray->Bool
 | _,[]=>false
 | seen,x::l=>(seen.any fun y=>decide (x=y)) || cO (seen++ [x]) l
def cF (P:bH) (rs:Option (List ByteArray)) (k:Int) (r t p:ByteArray) (ps:List ByteArray):Int:=
 if(match rs with | none=>false | some rs=>(dS k r t ps).any fun z=> !rs.any fun y=>decide (z=y))then 5
 else if nE t=true/\r=t then 6 else if k≠5 then 0
 else match P.procs.find? (fun z=>decide (z.name=p))with
  | none=>8
  | some q=>if q.au.length≠ps.length then 3 else if cO [] ps then 6 else 0
theorem Y9 (P:bH) (k:Int) (r t v l:ByteArray) (ek en:Int) (es:ByteArray) (aR:List Ex) (a b:List St) (p:ByteArray) (ps:List ByteArray):
 af Tryz.prog 144 [aP P,.int .i64 (-1),encS (.mk k r t v l (.mk ek en es aR) a b p ps)] (·=.int .i64 (cF P none k r t p ps)):=by
 have qU:=t65 P p;rcases P with⟨xs,main⟩
 simp only[aP]at qU;rcases jN (fun z:Pr=>decide (z.name=p)) xs 0 (by omega)with⟨hI,hF⟩ | ⟨pre,q,post,ao,hI,hQ⟩
 ·rw[procI,hI]at qU;refine af.intro WT 400 (by simp) 20 ?_;simp -implicitDefEqProofs only[R4,ay,aP,nq,zQ,go_sem];repeat' (first | ((first | ((with_reducible refine bj qU ?_ ?_);(·simp[ae,al,cm])) | ((with_reducible apply cj);(·simp -implicitDefEqProofs only[List.map_cons,List.map_nil,push_cast,go_sem_proc]<;>rfl);(with_reducible exact qU);(·rfl)) | (with_reducible refine aD ?_));simp -implicitDefEqProofs only[nq,zQ,go_sem]) | (with_reducible refine aA.mk ?_ ?_) | (with_reducible refine And.intro ?_ ?_) | ((with_reducible refine bz ?_);simp -implicitDefEqProofs only[Jn,push_cast,go_sem_proc]) | intro _)
  all_goals (clear qU;simp only[cF,hF];simp_all[nE])
 ·rw[procI,hI]at qU;have hg:=aO aF ao;have ct:=an ao;simp only[aF]at hg;have tI:¬((pre.length:Int)<0):=by omega
  rw[Int.zero_add]at qU;refine af.intro WT 400 (by simp) 20 ?_;simp -implicitDefEqProofs only[R4,ay,aP,hg,ct,tI,nq,zQ,go_sem];repeat' (first | ((first | ((with_reducible refine bj qU ?_ ?_);(·simp[ae,al,cm])) | ((with_reducible apply cj);(·simp -implicitDefEqProofs only[List.map_cons,List.map_nil,push_cast,go_sem_proc]<;>rfl);(with_reducible exact qU);(·rfl)) | (with_reducible refine aD ?_));simp -implicitDefEqProofs only[hg,ct,tI,nq,zQ,go_sem]) | (with_reducible refine aA.mk ?_ ?_) | (with_reducible refine And.intro ?_ ?_) | ((with_reducible refine bz ?_);simp -implicitDefEqProofs only[Jn,push_cast,go_sem_proc]) | intro _)
  all_goals clear qU
  all_goals first
   | ((with_reducible show F _ _ _)
      have hlen:ps.length<=9223372036854775807:=by assumption
      have hR:cF {procs:=xs,main:=main} none k r t p ps=if cO [] ps then 6 else 0:=by
       clear hg ct;simp only[cF,hQ];generalize cO [] ps=D at*;generalize ps.length=n at*;generalize q.au.length=m at*;simp_all[nE]<;>omega
      refine aL (fun m e H=>∃p2 q2,ps=p2++q2/\m=q2.length/\cO [] ps=cO p2 q2/\(∃X Y,H=[X,Y,ak.row [.agg [.int .i64 k,.str r,.str t,.str v,.str l,.int .i64 ek,.int .i64 en,.str es,.fs (aR.map bu),.fs (a.map encS),.fs (b.map encS),.str p,.fs (ps.map .str)]]])/\e 5=.ptr 2 0 0/\e 49=.fs (ps.map .str)/\e 50=.int .i64 ps.length/\e 51=.int .i64 p2.length) ps.length ⟨[],ps,by simp[az,aC]⟩ ?_;rintro m e H ⟨p2,q2,hq,rfl,hd,⟨X,Y,rfl⟩,h5,mU,gL,hU⟩;cases q2 with
      | nil=>
       simp -implicitDefEqProofs only[h5,mU,gL,hU,aI hq,go_sem];simp -implicitDefEqProofs only[Jn,push_cast,go_sem_proc];rw[hR,hd];simp[cO]
      | cons y q2=>
       have gB:=aO V.str hq;have tH:=gv V.str hq;have jf:(p2.length:Int)<=ps.length:=by rw[hq];simp;omega
       simp -implicitDefEqProofs only[h5,mU,gL,hU,gB,an hq,aa hq hlen,bV,jf,tH,Int.le_refl,Int.natCast_nonneg,go_sem];repeat' (first | ((first | ((with_reducible refine bj (t29 p2 y) ?_ ?_);(·simp[ae,al,cm])) | ((with_reducible apply cj);(·simp -implicitDefEqProofs only[List.map_cons,List.map_nil,push_cast,go_sem_proc]<;>rfl);(with_reducible exact(t29 p2 y));(·rfl)) | (with_reducible refine aD ?_));simp -implicitDefEqProofs only[h5,mU,gL,hU,gB,an hq,aa hq hlen,bV,jf,tH,Int.le_refl,Int.natCast_nonneg,go_sem]) | (with_reducible refine aA.mk ?_ ?_) | (with_reducible refine And.intro ?_ ?_) | ((with_reducible refine bz ?_);simp -implicitDefEqProofs only[Jn,push_cast,go_sem_proc]) | intro _)
       ·rename_i hm;rw[hR,hd];simp only[cO,hm];simp
       ·rename_i hm;refine⟨_,Nat.lt_succ_self _,p2++ [y],q2,by simp[hq],rfl,?_,by simp⟩;rw[hd];simp only[cO,hm];simp)
   | (clear hg ct;simp only[cF,hQ];generalize cO [] ps=D at*;generalize ps.length=n at*;generalize q.au.length=m at*;simp_all[nE];done)
   | (clear hg ct;simp only[cF,hQ];generalize cO [] ps=D at*;generalize ps.length=n at*;generalize q.au.length=m at*;simp_all[nE];omega)
theorem Za (P:bH) (pa pb:List Pr) (qa:Pr) (hA:P.procs=pa++qa::pb) (k:Int) (r t v l:ByteArray) (ek en:Int) (es:ByteArray) (aR:List Ex) (a b:List St) (p:ByteArray) (ps:List ByteArray):
 af Tryz.prog 144 [aP P,.int .i64 pa.length,encS (.mk k r t v l (.mk ek en es aR) a b p ps)] (·=.int .i64 (cF P (some qa.au) k r t p ps)):=by
 have qU:=t65 P p;rcases P with⟨xs,main⟩
 simp only at hA;have qq:=t63 k r t v l ek en es aR a b p ps;rw[ay]at qq;have h64:∀z∈dS k r t ps,af Tryz.prog 191 ([]++ [V.str z]++ [.bc [.fs (xs.map aF),.fs (main.map encS)],.bc [.int .i64 pa.length]]) (·=.bool (!qa.au.any fun y=>decide (z=y))):=by
  intro z _;rw[hA];exact t64 pa pb qa main z
 have gu:=t26 (dS k r t ps) 191 [] [.bc [.fs (xs.map aF),.fs (main.map encS)],.bc [.int .i64 pa.length]] (fun z=> !qa.au.any fun y=>decide (z=y)) rfl (by simp[ae,al,aq,ah]) h64;clear h64;generalize hB:(dS k r t ps).any (fun z=> !qa.au.any fun y=>decide (z=y))=Bad at gu;have nJ:(0<=(pa.length:Int))=True:=by simp
 simp only[aP]at qU;rcases jN (fun z:Pr=>decide (z.name=p)) xs 0 (by omega)with⟨hI,hF⟩ | ⟨pre,q,post,ao,hI,hQ⟩
 ·rw[procI,hI]at qU;refine af.intro WT 400 (by simp) 20 ?_;simp -implicitDefEqProofs only[R4,ay,aP,nq,zQ,nJ,go_sem];repeat' (first | ((first | ((with_reducible first | refine bj qU ?_ ?_ | refine bj qq ?_ ?_ | refine bj gu ?_ ?_);(·simp[ae,al,cm])) | ((with_reducible apply cj);(·simp -implicitDefEqProofs only[List.map_cons,List.map_nil,push_cast,go_sem_proc]<;>rfl);(with_reducible first | exact qU | exact qq | exact gu);(·rfl)) | (with_reducible refine aD ?_));simp -implicitDefEqProofs only[nq,zQ,nJ,go_sem]) | (with_reducible refine aA.mk ?_ ?_) | (with_reducible refine And.intro ?_ ?_) | ((with_reducible refine bz ?_);simp -implicitDefEqProofs only[Jn,push_cast,go_sem_proc]) | intro _)
  all_goals (clear qU qq gu;simp only[cF,hF,hB];simp_all[nE])
 ·rw[procI,hI]at qU;have hg:=aO aF ao;have ct:=an ao;simp only[aF]at hg;have tI:¬((pre.length:Int)<0):=by omega
  rw[Int.zero_add]at qU;refine af.intro WT 400 (by simp) 20 ?_;simp -implicitDefEqProofs only[R4,ay,aP,hg,ct,tI,nq,zQ,nJ,go_sem];repeat' (first | ((first | ((with_reducible first | refine bj qU ?_ ?_ | refine bj qq ?_ ?_ | refine bj gu ?_ ?_);(·simp[ae,al,cm])) | ((with_reducible apply cj);(·simp -implicitDefEqProofs only[List.map_cons,List.map_nil,push_cast,go_sem_proc]<;>rfl);(with_reducible first | exact qU | exact qq | exact gu);(·rfl)) | (with_reducible refine aD ?_));simp -implicitDefEqProofs only[hg,ct,tI,nq,zQ,nJ,go_sem]) | (with_reducible refine aA.mk ?_ ?_) | (with_reducible refine And.intro ?_ ?_) | ((with_reducible refine bz ?_);simp -implicitDefEqProofs only[Jn,push_cast,go_sem_proc]) | intro _)
  all_goals clear qU qq gu
  all_goals first
   | ((with_reducible show F _ _ _)
      have hlen:ps.length<=9223372036854775807:=by assumption
      have hR:cF {procs:=xs,main:=main} (some qa.au) k r t p ps=if cO [] ps then 6 else 0:=by
       clear hg ct;simp only[cF,hQ,hB];generalize cO [] ps=D at*;generalize ps.length=n at*;generalize q.au.length=m at*;simp_all[nE]<;>omega
      refine aL (fun m e H=>∃p2 q2,ps=p2++q2/\m=q2.length/\cO [] ps=cO p2 q2/\(∃X Y,H=[X,Y,ak.row [.agg [.int .i64 k,.str r,.str t,.str v,.str l,.int .i64 ek,.int .i64 en,.str es,.fs (aR.map bu),.fs (a.map encS),.fs (b.map encS),.str p,.fs (ps.map .str)]]])/\e 5=.ptr 2 0 0/\e 49=.fs (ps.map .str)/\e 50=.int .i64 ps.length/\e 51=.int .i64 p2.length) ps.length ⟨[],ps,by simp[az,aC]⟩ ?_;rintro m e H ⟨p2,q2,hq,rfl,hd,⟨X,Y,rfl⟩,h5,mU,gL,hU⟩;cases q2 with
      | nil=>
       simp -implicitDefEqProofs only[h5,mU,gL,hU,aI hq,go_sem];simp -implicitDefEqProofs only[Jn,push_cast,go_sem_proc];rw[hR,hd];simp[cO]
      | cons y q2=>
       have gB:=aO V.str hq;have tH:=gv V.str hq;have jf:(p2.length:Int)<=ps.length:=by rw[hq];simp;omega
       simp -implicitDefEqProofs only[h5,mU,gL,hU,gB,an hq,aa hq hlen,bV,jf,tH,Int.le_refl,Int.natCast_nonneg,go_sem];repeat' (first | ((first | ((with_reducible refine bj (t29 p2 y) ?_ ?_);(·simp[ae,al,cm])) | ((with_reducible apply cj);(·simp -implicitDefEqProofs only[List.map_cons,List.map_nil,push_cast,go_sem_proc]<;>rfl);(with_reducible exact(t29 p2 y));(·rfl)) | (with_reducible refine aD ?_));simp -implicitDefEqProofs only[h5,mU,gL,hU,gB,an hq,aa hq hlen,bV,jf,tH,Int.le_refl,Int.natCast_nonneg,go_sem]) | (with_reducible refine aA.mk ?_ ?_) | (with_reducible refine And.intro ?_ ?_) | ((with_reducible refine bz ?_);simp -implicitDefEqProofs only[Jn,push_cast,go_sem_proc]) | intro _)
       ·rename_i hm;rw[hR,hd];simp only[cO,hm];simp
       ·rename_i hm;refine⟨_,Nat.lt_succ_self _,p2++ [y],q2,by simp[hq],rfl,?_,by simp⟩;rw[hd];simp only[cO,hm];simp)
   | (clear hg ct;simp only[cF,hQ,hB];generalize cO [] ps=D at*;generalize ps.length=n at*;generalize q.au.length=m at*;simp_all[nE];done)
   | (clear hg ct;simp only[cF,hQ,hB];generalize cO [] ps=D at*;generalize ps.length=n at*;generalize q.au.length=m at*;simp_all[nE];omega)
theorem t28 (pre post:List Pr) (q:Pr) (main:List St) (nm:ByteArray) (c0 c1 c2 c3 c4 c5 c6 c7 c8 c9 c10 Yu Yv:V) (z:Bool):
 af Tryz.prog 50 [.str nm,.bc [.fs ((pre++q::post).map aF),.fs (main.map encS)],.bc [c0,c1,c2,c3,c4,c5,c6,c7,c8,c9,c10,Yu,Yv,.int .i64 pre.length,.bool z]] (·=.bool (!q.au.any fun y=>decide (nm=y))):=by
 have hg:=aO aF (rfl:pre++q::post=pre++q::post);have ct:=an (rfl:pre++q::post=pre++q::post);simp only[aF]at hg;have oR:=t29 q.au nm;refine af.intro c28 300 (by simp) 20 ?_;generalize hL:pre++q::post=L at*;simp -implicitDefEqProofs only[s28,hg,ct,go_sem];repeat' (first | ((first | ((with_reducible refine bj oR ?_ ?_);(·simp[ae,al,cm])) | ((with_reducible apply cj);(·simp -implicitDefEqProofs only[List.map_cons,List.map_nil,push_cast,go_sem_proc]<;>rfl);(with_reducible exact oR);(·rfl)) | (with_reducible refine aD ?_));simp -implicitDefEqProofs only[hg,ct,go_sem]) | (with_reducible refine aA.mk ?_ ?_) | (with_reducible refine And.intro ?_ ?_) | ((with_reducible refine bz ?_);simp -implicitDefEqProofs only[r28,push_cast,go_sem_proc]) | intro _)
 all_goals (try rfl)
theorem t78 (xs:List Int) (k:Int):af Tryz.prog 236 [.fs (xs.map (V.int .i64)),.bc [.int .i64 k]] (·=.bool (xs.any fun y=>decide (k=y))):=by
 refine af.intro c78 300 (by simp) 20 ?_;simp -implicitDefEqProofs only[s78,go_sem];repeat' (first | ((first | ((with_reducible refine bj (t79 xs k) ?_ ?_);(·simp[ae,al,cm])) | ((with_reducible apply cj);(·simp -implicitDefEqProofs only[List.map_cons,List.map_nil,push_cast,go_sem_proc]<;>rfl);(with_reducible exact(t79 xs k));(·rfl)) | (with_reducible refine aD ?_));simp -implicitDefEqProofs only[go_sem]) | (with_reducible refine aA.mk ?_ ?_) | (with_reducible refine And.intro ?_ ?_) | ((with_reducible refine bz ?_);simp -implicitDefEqProofs only[r78,push_cast,go_sem_proc]) | intro _)
 all_goals (try rfl)
theorem t82 (ps:List ByteArray):af Tryz.prog 240 [.fs (ps.map .str)] (·=.int .i64 (if ps.any (fun s=> !dt s)then 5 else 0)):=by
 have gu:=t26 ps 271 [] [] (fun s=> !dt s) rfl rfl (fun x _=>t94 x);refine af.intro c82 300 (by simp) 20 ?_;simp -implicitDefEqProofs only[s82,go_sem];repeat' (first | ((first | ((with_reducible refine bj gu ?_ ?_);(·simp[ae,al,cm])) | ((with_reducible apply cj);(·simp -implicitDefEqProofs only[List.map_cons,List.map_nil,push_cast,go_sem_proc]<;>rfl);(with_reducible exact gu);(·rfl)) | (with_reducible refine aD ?_));simp -implicitDefEqProofs only[go_sem]) | (with_reducible refine aA.mk ?_ ?_) | (with_reducible refine And.intro ?_ ?_) | ((with_reducible refine bz ?_);simp -implicitDefEqProofs only[r82,push_cast,go_sem_proc]) | intro _)
 all_goals clear gu
 all_goals (generalize (ps.any fun s=> !dt s)=B at*)
 all_goals (try simp_all)
theorem FR {H:List ak} {a b:Nat} {ok:Bool} {s:ByteArray} (hb:H[b]? =some (.row [.bool ok])):
 av Tryz.prog 238 [.bool false,.str s,.ptr a 0 0,.ptr b 0 0] H (bX (.dJ []) (H.set b (.row [.bool (ok && decide (s=⟨#[]⟩))]))):=by
 refine av.intro YU 100 (by simp) ?_;cases ok
 ·simp -implicitDefEqProofs only[R9,hb,go_sem];simp -implicitDefEqProofs only[Sa,push_cast,go_sem_proc];try simp
 ·simp -implicitDefEqProofs only[R9,hb,go_sem];simp -implicitDefEqProofs only[Sa,push_cast,go_sem_proc];try simp
theorem FT {H:List ak} {a b:Nat} {s:ByteArray} (ha:H[a]? =some (.row [.ag])):
 av Tryz.prog 238 [.bool true,.str s,.ptr a 0 0,.ptr b 0 0] H (bX (.dJ []) ((H++ [ak.row [.str s]]).set a (.row [.ms H.length 0 1]))):=by
 have hl:a<H.length:=(List.getElem?_eq_some_iff.1 ha).1;refine av.intro YU 100 (by simp) ?_;have ha1:∀l:List ak,(H++l)[a]? =some (.row [.ag]):=fun l=>by rw[List.getElem?_append_left hl];exact ha
 simp -implicitDefEqProofs only[R9,ha,ha1,go_sem];refine⟨fun h=>absurd h (by simp),fun _=>⟨by omega,?_⟩⟩;simp -implicitDefEqProofs only[Sa,push_cast,go_sem_proc]
theorem FU {H:List ak} {a b id:Nat} {ns:List V} {s:ByteArray} (ha:H[a]? =some (.row [.ms id 0 ns.length])) (hid:H[id]? =some (.row ns)) (dr:id≠a) (hn:ns≠ []) (dU:ns.length<=1000) (hh:df 1 ns):
 av Tryz.prog 238 [.bool true,.str s,.ptr a 0 0,.ptr b 0 0] H (bX (.dJ []) ((H.set id .dead++ [ak.row (ns++ [.str s])]).set a (.row [.ms H.length 0 (ns.length+1)]))):=by
 have hl:a<H.length:=(List.getElem?_eq_some_iff.1 ha).1;have jf:id<H.length:=(List.getElem?_eq_some_iff.1 hid).1;have vd:∀l:List ak,(H++l)[id]? =some (.row ns):=fun l=>by rw[List.getElem?_append_left jf];exact hid
 have hs:∀(l:List ak) x,(H++l).set id x=H.set id x++l:=fun l x=>List.set_append_left _ _ jf
 have ha2:∀l:List ak,(H.set id .dead++l)[a]? =some (.row [.ms id 0 ns.length]):=fun l=>by
  rw[List.getElem?_append_left (by simpa using hl),List.getElem?_set_ne dr];exact ha
 have Jx:(ns≠ [])=True:=by simp[hn]
 refine av.intro YU 100 (by simp) ?_;simp -implicitDefEqProofs only[R9,ha,hid,vd,hs,ha2,hh,Jx,go_sem];refine⟨⟨by intros;contradiction,by omega⟩,?_⟩
 ·simp -implicitDefEqProofs only[Sa,push_cast,go_sem_proc]
theorem ib {s:ByteArray} {l:List V}:df 1 (V.str s::l):=by intro e he;simp at he;subst he;rfl
theorem Sw (r t v l:ByteArray) (ek en:Int) (es:ByteArray) (aR:List Ex) (a b:List St) (p:ByteArray) (ps:List ByteArray) (d:Int):
 af Tryz.prog 181 [encS (.mk 1 r t v l (.mk ek en es aR) a b p ps),.int .i64 d] (·=.int .i64 (rA 1 r t v l (.mk ek en es aR) (isNone ek en es aR) a.length b.length p ps d)):=by
 have qA:af Tryz.prog 236 [.fs [.int .i64 1,.int .i64 2,.int .i64 3,.int .i64 4],.bc [.int .i64 1]] (·=.bool true):=t78 [1,2,3,4] 1;have qB:af Tryz.prog 236 [.fs [.int .i64 1,.int .i64 2],.bc [.int .i64 1]] (·=.bool true):=t78 [1,2] 1;have qC:af Tryz.prog 236 [.fs [.int .i64 1,.int .i64 3],.bc [.int .i64 1]] (·=.bool true):=t78 [1,3] 1;have qD:af Tryz.prog 236 [.fs [.int .i64 2],.bc [.int .i64 1]] (·=.bool false):=t78 [2] 1;have qE:af Tryz.prog 236 [.fs [.int .i64 5],.bc [.int .i64 1]] (·=.bool false):=t78 [5] 1;have qG:af Tryz.prog 236 [.fs [.int .i64 1,.int .i64 3,.int .i64 4],.bc [.int .i64 1]] (·=.bool true):=t78 [1,3,4] 1;have uP:af Tryz.prog 158 [.int .i64 1,.int .i64 1,.int .i64 5] (·=.bool true):=t31 1 1 5;have sw:af Tryz.prog 239 [bu (.mk ek en es aR)] (·=.bool (isNone ek en es aR)):=t81 ek en es aR;have sx:=t83 (.mk ek en es aR);have wT:=t82 ps;have iR:=t82 [r,t,v];simp only[List.map_cons,List.map_nil]at iR;rw[bp]at sw sx;refine af.intro Qv 700 (by simp) 20 ?_;simp -implicitDefEqProofs only[Nt,ay,go_sem];repeat' (first | ((first | (with_reducible first | refine bR (FR (by with_unfolding_all rfl)) ?_ | refine bR (FT (by with_unfolding_all rfl)) ?_ | refine bR (FU (ns:=[.str r]) (by with_unfolding_all rfl) (by with_unfolding_all rfl) (by simp) (by simp) (by simp) ib) ?_ | refine bR (FU (ns:=[.str r,.str t]) (by with_unfolding_all rfl) (by with_unfolding_all rfl) (by simp) (by simp) (by simp) ib) ?_) | ((with_reducible first | refine bj uP ?_ ?_ | refine bj qA ?_ ?_ | refine bj qB ?_ ?_ | refine bj qC ?_ ?_ | refine bj qD ?_ ?_ | refine bj qE ?_ ?_ | refine bj qG ?_ ?_ | refine bj sw ?_ ?_ | refine bj sx ?_ ?_ | refine bj iR ?_ ?_ | refine bj wT ?_ ?_);(·simp[ae,al,cm])) | ((with_reducible apply cj);(·simp -implicitDefEqProofs only[List.map_cons,List.map_nil,push_cast,go_sem_proc]<;>rfl);(with_reducible first | exact uP | exact qA | exact qB | exact qC | exact qD | exact qE | exact qG | exact sw | exact sx | exact iR | exact wT);(·rfl)) | (with_reducible refine aD ?_));simp -implicitDefEqProofs only[Bool.and_true,Bool.true_and,Bool.false_and,Bool.and_false,ib,go_sem]) | (with_reducible refine aA.mk ?_ ?_) | (with_reducible refine And.intro ?_ ?_) | ((with_reducible refine bz ?_);simp -implicitDefEqProofs only[Nu,push_cast,go_sem_proc]) | intro _)
 all_goals clear qA qB qC qD qE qG uP sw sx wT iR
 all_goals (generalize isNone ek en es aR=Z at*)
 all_goals simp only[rA,yK,zO]
 all_goals (generalize mb _ _=X at*;generalize (ps.any fun s=> !dt s)=B at*;generalize ps.length=q at*;generalize a.length=m at*;generalize b.length=n at*)
 all_goals (first | (simp_all[nE];done) | (simp_all[nE];omega))
theorem Sx (r t v l:ByteArray) (ek en:Int) (es:ByteArray) (aR:List Ex) (a b:List St) (p:ByteArray) (ps:List ByteArray) (d:Int):
 af Tryz.prog 181 [encS (.mk 2 r t v l (.mk ek en es aR) a b p ps),.int .i64 d] (·=.int .i64 (rA 2 r t v l (.mk ek en es aR) (isNone ek en es aR) a.length b.length p ps d)):=by
 have qA:af Tryz.prog 236 [.fs [.int .i64 1,.int .i64 2,.int .i64 3,.int .i64 4],.bc [.int .i64 2]] (·=.bool true):=t78 [1,2,3,4] 2;have qB:af Tryz.prog 236 [.fs [.int .i64 1,.int .i64 2],.bc [.int .i64 2]] (·=.bool true):=t78 [1,2] 2;have qC:af Tryz.prog 236 [.fs [.int .i64 1,.int .i64 3],.bc [.int .i64 2]] (·=.bool false):=t78 [1,3] 2;have qD:af Tryz.prog 236 [.fs [.int .i64 2],.bc [.int .i64 2]] (·=.bool true):=t78 [2] 2;have qE:af Tryz.prog 236 [.fs [.int .i64 5],.bc [.int .i64 2]] (·=.bool false):=t78 [5] 2;have qG:af Tryz.prog 236 [.fs [.int .i64 1,.int .i64 3,.int .i64 4],.bc [.int .i64 2]] (·=.bool false):=t78 [1,3,4] 2;have uP:af Tryz.prog 158 [.int .i64 2,.int .i64 1,.int .i64 5] (·=.bool true):=t31 2 1 5;have sw:af Tryz.prog 239 [bu (.mk ek en es aR)] (·=.bool (isNone ek en es aR)):=t81 ek en es aR;have sx:=t83 (.mk ek en es aR);have wT:=t82 ps;have iR:=t82 [r,t,l];simp only[List.map_cons,List.map_nil]at iR;rw[bp]at sw sx;refine af.intro Qv 700 (by simp) 20 ?_;simp -implicitDefEqProofs only[Nt,ay,go_sem];repeat' (first | ((first | (with_reducible first | refine bR (FR (by with_unfolding_all rfl)) ?_ | refine bR (FT (by with_unfolding_all rfl)) ?_ | refine bR (FU (ns:=[.str r]) (by with_unfolding_all rfl) (by with_unfolding_all rfl) (by simp) (by simp) (by simp) ib) ?_ | refine bR (FU (ns:=[.str r,.str t]) (by with_unfolding_all rfl) (by with_unfolding_all rfl) (by simp) (by simp) (by simp) ib) ?_) | ((with_reducible first | refine bj uP ?_ ?_ | refine bj qA ?_ ?_ | refine bj qB ?_ ?_ | refine bj qC ?_ ?_ | refine bj qD ?_ ?_ | refine bj qE ?_ ?_ | refine bj qG ?_ ?_ | refine bj sw ?_ ?_ | refine bj sx ?_ ?_ | refine bj iR ?_ ?_ | refine bj wT ?_ ?_);(·simp[ae,al,cm])) | ((with_reducible apply cj);(·simp -implicitDefEqProofs only[List.map_cons,List.map_nil,push_cast,go_sem_proc]<;>rfl);(with_reducible first | exact uP | exact qA | exact qB | exact qC | exact qD | exact qE | exact qG | exact sw | exact sx | exact iR | exact wT);(·rfl)) | (with_reducible refine aD ?_));simp -implicitDefEqProofs only[Bool.and_true,Bool.true_and,Bool.false_and,Bool.and_false,ib,go_sem]) | (with_reducible refine aA.mk ?_ ?_) | (with_reducible refine And.intro ?_ ?_) | ((with_reducible refine bz ?_);simp -implicitDefEqProofs only[Nu,push_cast,go_sem_proc]) | intro _)
 all_goals clear qA qB qC qD qE qG uP sw sx wT iR
 all_goals (generalize isNone ek en es aR=Z at*)
 all_goals simp only[rA,yK,zO]
 all_goals (generalize mb _ _=X at*;generalize (ps.any fun s=> !dt s)=B at*;generalize ps.length=q at*;generalize a.length=m at*;generalize b.length=n at*)
 all_goals (first | (simp_all[nE];done) | (simp_all[nE];omega))
theorem Sy (r t v l:ByteArray) (ek en:Int) (es:ByteArray) (aR:List Ex) (a b:List St) (p:ByteArray) (ps:List ByteArray) (d:Int):
 af Tryz.prog 181 [encS (.mk 3 r t v l (.mk ek en es aR) a b p ps),.int .i64 d] (·=.int .i64 (rA 3 r t v l (.mk ek en es aR) (isNone ek en es aR) a.length b.length p ps d)):=by
 have qA:af Tryz.prog 236 [.fs [.int .i64 1,.int .i64 2,.int .i64 3,.int .i64 4],.bc [.int .i64 3]] (·=.bool true):=t78 [1,2,3,4] 3;have qB:af Tryz.prog 236 [.fs [.int .i64 1,.int .i64 2],.bc [.int .i64 3]] (·=.bool false):=t78 [1,2] 3;have qC:af Tryz.prog 236 [.fs [.int .i64 1,.int .i64 3],.bc [.int .i64 3]] (·=.bool true):=t78 [1,3] 3;have qD:af Tryz.prog 236 [.fs [.int .i64 2],.bc [.int .i64 3]] (·=.bool false):=t78 [2] 3;have qE:af Tryz.prog 236 [.fs [.int .i64 5],.bc [.int .i64 3]] (·=.bool false):=t78 [5] 3;have qG:af Tryz.prog 236 [.fs [.int .i64 1,.int .i64 3,.int .i64 4],.bc [.int .i64 3]] (·=.bool true):=t78 [1,3,4] 3;have uP:af Tryz.prog 158 [.int .i64 3,.int .i64 1,.int .i64 5] (·=.bool true):=t31 3 1 5;have sw:af Tryz.prog 239 [bu (.mk ek en es aR)] (·=.bool (isNone ek en es aR)):=t81 ek en es aR;have sx:=t83 (.mk ek en es aR);have wT:=t82 ps;have iR:=t82 [r,v];simp only[List.map_cons,List.map_nil]at iR;rw[bp]at sw sx;refine af.intro Qv 700 (by simp) 20 ?_;simp -implicitDefEqProofs only[Nt,ay,go_sem];repeat' (first | ((first | (with_reducible first | refine bR (FR (by with_unfolding_all rfl)) ?_ | refine bR (FT (by with_unfolding_all rfl)) ?_ | refine bR (FU (ns:=[.str r]) (by with_unfolding_all rfl) (by with_unfolding_all rfl) (by simp) (by simp) (by simp) ib) ?_) | ((with_reducible first | refine bj uP ?_ ?_ | refine bj qA ?_ ?_ | refine bj qB ?_ ?_ | refine bj qC ?_ ?_ | refine bj qD ?_ ?_ | refine bj qE ?_ ?_ | refine bj qG ?_ ?_ | refine bj sw ?_ ?_ | refine bj sx ?_ ?_ | refine bj iR ?_ ?_ | refine bj wT ?_ ?_);(·simp[ae,al,cm])) | ((with_reducible apply cj);(·simp -implicitDefEqProofs only[List.map_cons,List.map_nil,push_cast,go_sem_proc]<;>rfl);(with_reducible first | exact uP | exact qA | exact qB | exact qC | exact qD | exact qE | exact qG | exact sw | exact sx | exact iR | exact wT);(·rfl)) | (with_reducible refine aD ?_));simp -implicitDefEqProofs only[Bool.and_true,Bool.true_and,Bool.false_and,Bool.and_false,ib,go_sem]) | (with_reducible refine aA.mk ?_ ?_) | (with_reducible refine And.intro ?_ ?_) | ((with_reducible refine bz ?_);simp -implicitDefEqProofs only[Nu,push_cast,go_sem_proc]) | intro _)
 all_goals clear qA qB qC qD qE qG uP sw sx wT iR
 all_goals (generalize isNone ek en es aR=Z at*)
 all_goals simp only[rA,yK,zO]
 all_goals (generalize mb _ _=X at*;generalize (ps.any fun s=> !dt s)=B at*;generalize ps.length=q at*;generalize a.length=m at*;generalize b.length=n at*)
 all_goals (first | (simp_all[nE];done) | (simp_all[nE];omega))
theorem Sz (r t v l:ByteArray) (ek en:Int) (es:ByteArray) (aR:List Ex) (a b:List St) (p:ByteArray) (ps:List ByteArray) (d:Int):
 af Tryz.prog 181 [encS (.mk 4 r t v l (.mk ek en es aR) a b p ps),.int .i64 d] (·=.int .i64 (rA 4 r t v l (.mk ek en es aR) (isNone ek en es aR) a.length b.length p ps d)):=by
 have qA:af Tryz.prog 236 [.fs [.int .i64 1,.int .i64 2,.int .i64 3,.int .i64 4],.bc [.int .i64 4]] (·=.bool true):=t78 [1,2,3,4] 4;have qB:af Tryz.prog 236 [.fs [.int .i64 1,.int .i64 2],.bc [.int .i64 4]] (·=.bool false):=t78 [1,2] 4;have qC:af Tryz.prog 236 [.fs [.int .i64 1,.int .i64 3],.bc [.int .i64 4]] (·=.bool false):=t78 [1,3] 4;have qD:af Tryz.prog 236 [.fs [.int .i64 2],.bc [.int .i64 4]] (·=.bool false):=t78 [2] 4;have qE:af Tryz.prog 236 [.fs [.int .i64 5],.bc [.int .i64 4]] (·=.bool false):=t78 [5] 4;have qG:af Tryz.prog 236 [.fs [.int .i64 1,.int .i64 3,.int .i64 4],.bc [.int .i64 4]] (·=.bool true):=t78 [1,3,4] 4;have uP:af Tryz.prog 158 [.int .i64 4,.int .i64 1,.int .i64 5] (·=.bool true):=t31 4 1 5;have sw:af Tryz.prog 239 [bu (.mk ek en es aR)] (·=.bool (isNone ek en es aR)):=t81 ek en es aR;have sx:=t83 (.mk ek en es aR);have wT:=t82 ps;have iR:=t82 [r];simp only[List.map_cons,List.map_nil]at iR;rw[bp]at sw sx;refine af.intro Qv 700 (by simp) 20 ?_;simp -implicitDefEqProofs only[Nt,ay,go_sem];repeat' (first | ((first | (with_reducible first | refine bR (FR (by with_unfolding_all rfl)) ?_ | refine bR (FT (by with_unfolding_all rfl)) ?_) | ((with_reducible first | refine bj uP ?_ ?_ | refine bj qA ?_ ?_ | refine bj qB ?_ ?_ | refine bj qC ?_ ?_ | refine bj qD ?_ ?_ | refine bj qE ?_ ?_ | refine bj qG ?_ ?_ | refine bj sw ?_ ?_ | refine bj sx ?_ ?_ | refine bj iR ?_ ?_ | refine bj wT ?_ ?_);(·simp[ae,al,cm])) | ((with_reducible apply cj);(·simp -implicitDefEqProofs only[List.map_cons,List.map_nil,push_cast,go_sem_proc]<;>rfl);(with_reducible first | exact uP | exact qA | exact qB | exact qC | exact qD | exact qE | exact qG | exact sw | exact sx | exact iR | exact wT);(·rfl)) | (with_reducible refine aD ?_));simp -implicitDefEqProofs only[Bool.and_true,Bool.true_and,Bool.false_and,Bool.and_false,ib,go_sem]) | (with_reducible refine aA.mk ?_ ?_) | (with_reducible refine And.intro ?_ ?_) | ((with_reducible refine bz ?_);simp -implicitDefEqProofs only[Nu,push_cast,go_sem_proc]) | intro _)
 all_goals clear qA qB qC qD qE qG uP sw sx wT iR
 all_goals (generalize isNone ek en es aR=Z at*)
 all_goals simp only[rA,yK,zO]
 all_goals (generalize mb _ _=X at*;generalize (ps.any fun s=> !dt s)=B at*;generalize ps.length=q at*;generalize a.length=m at*;generalize b.length=n at*)
 all_goals (first | (simp_all[nE];done) | (simp_all[nE];omega))
theorem SA (r t v l:ByteArray) (ek en:Int) (es:ByteArray) (aR:List Ex) (a b:List St) (p:ByteArray) (ps:List ByteArray) (d:Int):
 af Tryz.prog 181 [encS (.mk 5 r t v l (.mk ek en es aR) a b p ps),.int .i64 d] (·=.int .i64 (rA 5 r t v l (.mk ek en es aR) (isNone ek en es aR) a.length b.length p ps d)):=by
 have qA:af Tryz.prog 236 [.fs [.int .i64 1,.int .i64 2,.int .i64 3,.int .i64 4],.bc [.int .i64 5]] (·=.bool false):=t78 [1,2,3,4] 5;have qB:af Tryz.prog 236 [.fs [.int .i64 1,.int .i64 2],.bc [.int .i64 5]] (·=.bool false):=t78 [1,2] 5;have qC:af Tryz.prog 236 [.fs [.int .i64 1,.int .i64 3],.bc [.int .i64 5]] (·=.bool false):=t78 [1,3] 5;have qD:af Tryz.prog 236 [.fs [.int .i64 2],.bc [.int .i64 5]] (·=.bool false):=t78 [2] 5;have qE:af Tryz.prog 236 [.fs [.int .i64 5],.bc [.int .i64 5]] (·=.bool true):=t78 [5] 5;have qG:af Tryz.prog 236 [.fs [.int .i64 1,.int .i64 3,.int .i64 4],.bc [.int .i64 5]] (·=.bool false):=t78 [1,3,4] 5;have uP:af Tryz.prog 158 [.int .i64 5,.int .i64 1,.int .i64 5] (·=.bool true):=t31 5 1 5;have sw:af Tryz.prog 239 [bu (.mk ek en es aR)] (·=.bool (isNone ek en es aR)):=t81 ek en es aR;have sx:=t83 (.mk ek en es aR);have wT:=t82 ps;have iR:=t82 [p];simp only[List.map_cons,List.map_nil]at iR;rw[bp]at sw sx;refine af.intro Qv 700 (by simp) 20 ?_;simp -implicitDefEqProofs only[Nt,ay,go_sem];repeat' (first | ((first | (with_reducible first | refine bR (FR (by with_unfolding_all rfl)) ?_ | refine bR (FT (by with_unfolding_all rfl)) ?_) | ((with_reducible first | refine bj uP ?_ ?_ | refine bj qA ?_ ?_ | refine bj qB ?_ ?_ | refine bj qC ?_ ?_ | refine bj qD ?_ ?_ | refine bj qE ?_ ?_ | refine bj qG ?_ ?_ | refine bj sw ?_ ?_ | refine bj sx ?_ ?_ | refine bj iR ?_ ?_ | refine bj wT ?_ ?_);(·simp[ae,al,cm])) | ((with_reducible apply cj);(·simp -implicitDefEqProofs only[List.map_cons,List.map_nil,push_cast,go_sem_proc]<;>rfl);(with_reducible first | exact uP | exact qA | exact qB | exact qC | exact qD | exact qE | exact qG | exact sw | exact sx | exact iR | exact wT);(·rfl)) | (with_reducible refine aD ?_));simp -implicitDefEqProofs only[Bool.and_true,Bool.true_and,Bool.false_and,Bool.and_false,ib,go_sem]) | (with_reducible refine aA.mk ?_ ?_) | (with_reducible refine And.intro ?_ ?_) | ((with_reducible refine bz ?_);simp -implicitDefEqProofs only[Nu,push_cast,go_sem_proc]) | intro _)
 all_goals clear qA qB qC qD qE qG uP sw sx wT iR
 all_goals (generalize isNone ek en es aR=Z at*)
 all_goals simp only[rA,yK,zO]
 all_goals (generalize mb _ _=X at*;generalize (ps.any fun s=> !dt s)=B at*;generalize ps.length=q at*;generalize a.length=m at*;generalize b.length=n at*)
 all_goals (first | (simp_all[nE];done) | (simp_all[nE];omega))
end Go.Proofs.YtdgoeblpcnjlbaaGreatDoor.Av


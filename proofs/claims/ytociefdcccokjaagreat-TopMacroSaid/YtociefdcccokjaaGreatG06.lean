/-
  Lemmas for TopMacro. Conditions: each states its own.
-/
import Derived.Test.YtociefdcccokjaaGreatG04
import Derived.Test.YtociefdcccokjaaGreatG05
namespace Go.Proofs.YtociefdcccokjaaGreat
open Go.RowKit Go.Lib
def runD (T:TM)(l:List Int):List Int:=l.takeWhile fun r=>decide (T.cls r≠0)
def sortD (T:TM)(run:List Int):List Int:=if 1<run.length then zS T.cls run else run
theorem sortD_len (T:TM)(run:List Int):(sortD T run).length=run.length:=by unfold sortD;split;exact stableM_len _ _;rfl
def ordD (T:TM):Nat→List Int→List Int
 |0,l=>l
 |k+1,l=>if l=[]then[]else sortD T (runD T l)++((l.drop (runD T l).length).take 1++ordD T k (l.drop ((runD T l).length+1)))
theorem runD_le (T:TM)(l:List Int):(runD T l).length≤l.length:=(List.takeWhile_prefix _).length_le
theorem ordD_len (T:TM):∀(k:Nat) (l:List Int),(ordD T k l).length=l.length
 |0,_=>rfl
 |k+1,l=>by
  have h:=runD_le T l;unfold ordD
  split
  ·subst l;rfl
  ·simp only[List.length_append,sortD_len,List.length_take,List.length_drop,ordD_len T k]
   omega
def orderD (T:TM)(l:List Int):List Int:=ordD T l.length l
def partsD (T:TM)(l:List Int):List Int:=(l.map (yM T)).flatten
theorem partsD_snoc (T:TM)(l:List Int)(r:Int):partsD T (l++[r])=partsD T l++yM T r:=by simp[partsD]
theorem fullD_len (T:TM)(r:Int):(yM T r).length≤768:=takeD_len T 8 r
theorem partsD_len (T:TM):∀l:List Int,(partsD T l).length≤768*l.length
 |[]=>le_
 |r::l=>by
  have h:=partsD_len T l;have h2:=fullD_len T r;simp only[partsD,List.map_cons,List.flatten_cons,List.length_append,List.length_cons]at *;omega
def nfdD (T:TM)(l:List Int):List Int:=orderD T (partsD T l)
theorem nfdD_len (T:TM)(l:List Int):(nfdD T l).length≤768*l.length:=by unfold nfdD orderD;rw[ordD_len];exact partsD_len T l
def nfcC (T:TM)(l:List Int):List Int:=composeC T (nfdD T l)
theorem nfcC_len (T:TM)(l:List Int):(nfcC T l).length≤768*l.length:=Nat.le_trans (runC_ok T _).2.2 (nfdD_len T l)
def cutM (l:List Int)(a b:Nat):List Int:=(l.take b).drop a
theorem cutM_len (l:List Int)(a b:Nat)(h:b≤l.length):(cutM l a b).length=b - a:=by simp[cutM,Nat.min_eq_left h]
def midL (T:TM)(l:List Int)(a b:Nat)(ins:List Int):List Int:=nfcC T (cutM l (yG T l a) a++ins++cutM l b (onL T l b))
def zX (T:TM)(l:List Int)(a b:Nat)(ins:List Int):List Int:=l.take (yG T l a)++midL T l a b ins++l.drop (onL T l b)
def winL (T:TM)(l:List Int)(a b:Nat)(ins:List Int):Win:=⟨yG T l a,onL T l b,yG T l a+(midL T l a b ins).length⟩
def WinOk (was is:List Int)(w:Win):Prop:=0≤w.frm∧w.frm≤w.was∧w.frm≤w.is_∧w.was≤was.length∧w.is_≤is.length
theorem winL_ok (T:TM)(l:List Int){a b:Nat}(ins:List Int)(h1:a≤b)(h2:b≤l.length):WinOk l (zX T l a b ins) (winL T l a b ins)∧(winL T l a b ins).is_ - (winL T l a b ins).was=((zX T l a b ins).length:Int) - l.length:=by
 have e1:=backL_le T l a;have e2:=onL_ge T l b;have e3:=onL_le T l b h2;have e4:(zX T l a b ins).length=yG T l a+(midL T l a b ins).length+(l.length - onL T l b):=by
  unfold zX;simp only[List.length_append,List.length_take,List.length_drop];omega
 refine⟨⟨?_,?_,?_,?_,?_⟩,?_⟩<;>simp only[winL]<;>omega
def narA (was is:List Int):Nat→Win→Win
 |0,w=>w
 |k+1,w=>if w.frm<w.was∧w.frm<w.is_∧gN was w.frm.toNat=gN is w.frm.toNat then narA was is k ⟨w.frm+1,w.was,w.is_⟩else w
def narB (was is:List Int):Nat→Win→Win
 |0,w=>w
 |k+1,w=>if w.frm<w.was∧w.frm<w.is_∧gN was (w.was - 1).toNat=gN is (w.is_ - 1).toNat then narB was is k ⟨w.frm,w.was - 1,w.is_ - 1⟩else w
theorem narA_ok (was is:List Int):∀(k:Nat) (w:Win),WinOk was is w→WinOk was is (narA was is k w)
 |0,_,h=>h
 |k+1,w,h=>by
  unfold narA
  split
  ·exact narA_ok was is k _ (by obtain⟨h1,h2,h3,h4,h5⟩:=h;exact⟨by dsimp only;omega,by dsimp only;omega,by dsimp only;omega,h4,h5⟩)
  ·exact h
theorem narB_ok (was is:List Int):∀(k:Nat) (w:Win),WinOk was is w→WinOk was is (narB was is k w)
 |0,_,h=>h
 |k+1,w,h=>by
  unfold narB
  split
  ·exact narB_ok was is k _ (by obtain⟨h1,h2,h3,h4,h5⟩:=h;exact⟨h1,by dsimp only;omega,by dsimp only;omega,by dsimp only;omega,by dsimp only;omega⟩)
  ·exact h
def vJ (was is:List Int)(w:Win):Win:=narB was is was.length (narA was is was.length w)
theorem narrowL_ok {was is:List Int}{w:Win}(h:WinOk was is w):WinOk was is (vJ was is w):=narB_ok _ _ _ _ (narA_ok _ _ _ _ h)
def keepW (w:Win)(at_:Int):Int:=if at_≤w.frm then at_ else if w.was≤at_ then at_ - w.was+w.is_ else w.frm
def afterM (was is:List Int)(upto frm:Int):Nat→Int→Int→Int
 |0,_,y=>y
 |k+1,x,y=>if upto<x∧frm<y∧gN was (x - 1).toNat=gN is (y - 1).toNat then afterM was is upto frm k (x - 1) (y - 1)else y
def afterW (was is:List Int)(w:Win)(upto:Int):Int:=afterM was is upto w.frm was.length w.was w.is_
def hangsB (T:TM)(a b:Int):Bool:=
 if T.brk b=6 then decide (T.brk a=6)
 else if T.brk b=0 then(decide (T.brk a=5)&&T.pict b)||(decide (T.conj b=2)&&decide (T.conj a≠0)&&decide (T.conj a≠2))else false
def sureB (T:TM)(l:List Int):Nat→Nat
 |0=>0
 |n+1=>if(yO T (yO T SSt.zero (gN l n)).1 (gN l (n+1))).2=true∧hangsB T (gN l n) (gN l (n+1))=false then n+1 else sureB T l n
theorem sureB_le (T:TM)(l:List Int):∀n,sureB T l n≤n
 |0=>le_
 |n+1=>by have:=sureB_le T l n;unfold sureB;split<;>omega
def walkB (T:TM)(l:List Int)(at_:Int):Nat→Int→Int
 |0,f=>f
 |k+1,f=>if f<at_ then(if at_<zP T l f then f else walkB T l at_ k (zP T l f))else f
theorem walkB_in (T:TM)(l:List Int)(at_:Int)(h:at_<l.length):∀(k:Nat) (f:Int),0≤f→f≤at_→0≤walkB T l at_ k f∧walkB T l at_ k f≤at_
 |0,_,h0,h1=>⟨h0,h1⟩
 |k+1,f,h0,h1=>by
  unfold walkB
  split
  ·split
   ·exact⟨h0,h1⟩
   ·have:=yA T l f (by omega) h0
    exact walkB_in T l at_ h k _ (by omega) (by omega)
  ·exact⟨h0,h1⟩
def xC (T:TM)(l:List Int)(at_:Int):Int:=if at_≤0 then 0 else if(l.length:Int)≤at_ then l.length else walkB T l at_ at_.toNat (sureB T l at_.toNat)
theorem floorB_in (T:TM)(l:List Int)(at_:Int):0≤xC T l at_∧xC T l at_≤l.length∧(xC T l at_≤at_∨at_<0):=by
 unfold xC
 split
 ·omega
 ·split
  ·omega
  ·have h:=sureB_le T l at_.toNat
   have:=walkB_in T l at_ (by omega) at_.toNat (sureB T l at_.toNat) (by omega) (by omega);omega
theorem xH (T:TM)(l:List Int)(at_:Int):0≤zP T l at_∧zP T l at_≤l.length:=by
 by_cases h:at_<0∨(l.length:Int)≤at_
 ·unfold zP;rw[if_pos h];omega
 ·have:=yA T l at_ (by omega) (by omega);omega
def ceilB (T:TM)(l:List Int)(at_:Int):Int:=if at_≤xC T l at_ then xC T l at_ else zP T l (xC T l at_)
theorem ceilB_in (T:TM)(l:List Int)(at_:Int):0≤ceilB T l at_∧ceilB T l at_≤l.length:=by
 unfold ceilB
 split
 ·have:=floorB_in T l at_;omega
 ·exact xH T l _
def prevB (T:TM)(l:List Int)(at_:Int):Int:=xC T l (max (min at_ (l.length+1)) 0 - 1)
def zN (T:TM)(l:List Int)(at_:Int):Bool:=decide (at_<l.length)&&T.letter (gN l at_.toNat)
def skipW (T:TM)(l:List Int):Nat→Int→Int
 |0,a=>a
 |k+1,a=>if a<l.length∧zN T l a=false then skipW T l k (zP T l a)else a
def inW (T:TM)(l:List Int):Nat→Int→Int
 |0,a=>a
 |k+1,a=>if zN T l a=true then inW T l k (zP T l a)else a
theorem skipW_in (T:TM)(l:List Int):∀(k:Nat) (a:Int),0≤a→a≤l.length→0≤skipW T l k a∧skipW T l k a≤l.length
 |0,_,h0,h1=>⟨h0,h1⟩
 |k+1,a,h0,h1=>by
  unfold skipW
  split
  ·have:=xH T l a;exact skipW_in T l k _ this.1 this.2
  ·exact⟨h0,h1⟩
theorem inW_in (T:TM)(l:List Int):∀(k:Nat) (a:Int),0≤a→a≤l.length→0≤inW T l k a∧inW T l k a≤l.length
 |0,_,h0,h1=>⟨h0,h1⟩
 |k+1,a,h0,h1=>by
  unfold inW
  split
  ·have:=xH T l a;exact inW_in T l k _ this.1 this.2
  ·exact⟨h0,h1⟩
def forwardW (T:TM)(l:List Int)(at_:Int):Int:=inW T l l.length (skipW T l l.length (ceilB T l at_))
theorem forwardW_in (T:TM)(l:List Int)(at_:Int):0≤forwardW T l at_∧forwardW T l at_≤l.length:=by
 have h:=ceilB_in T l at_;have h2:=skipW_in T l l.length _ h.1 h.2;exact inW_in T l l.length _ h2.1 h2.2
def backW (T:TM)(l:List Int):Nat→Int→Bool→Int
 |0,a,_=>a
 |k+1,a,b=>if 0<a then(if(b&&!zN T l (prevB T l a))=true then a else backW T l k (prevB T l a) (b||zN T l (prevB T l a)))else a
theorem prevB_in (T:TM)(l:List Int)(at_:Int)(h:0<at_)(h2:at_≤l.length):0≤prevB T l at_∧prevB T l at_<at_:=by
 have:=floorB_in T l (max (min at_ (l.length+1)) 0 - 1);unfold prevB;omega
theorem backW_in (T:TM)(l:List Int):∀(k:Nat) (a:Int) (b:Bool),0≤a→a≤l.length→0≤backW T l k a b∧backW T l k a b≤l.length
 |0,_,_,h0,h1=>⟨h0,h1⟩
 |k+1,a,b,h0,h1=>by
  unfold backW
  split
  ·split
   ·exact⟨h0,h1⟩
   ·have:=prevB_in T l a (by omega) h1
    exact backW_in T l k _ _ (by omega) (by omega)
  ·exact⟨h0,h1⟩
def wordBackW (T:TM)(l:List Int)(at_:Int):Int:=backW T l l.length (xC T l at_) false
def bsI (l:List Int)(x:Int):Nat:=bsP (fun h=>decide (gN l h<x)) l.length 0 l.length
theorem bsI_le (l:List Int)(x:Int):bsI l x≤l.length:=(bsP_in _ _ _ _ (Nat.zero_le _)).2
def bsOk (l:List Int)(x:Int):Bool:=decide (bsI l x<l.length)&&decide (gN l (bsI l x)=x)
def skipX (st:List Int)(sh at_:Int):Nat→Nat→Nat
 |0,o=>o
 |k+1,o=>if o<st.length∧gN st o+sh<at_ then skipX st sh at_ k (o+1)else o
def oldX (st:List Int)(sh is_ at_:Int)(o:Nat):Nat:=if is_≤at_ then skipX st sh at_ st.length o else o
def meetX (st:List Int)(sh is_ at_:Int)(o:Nat):Bool:=decide (is_≤at_)&&decide (oldX st sh is_ at_ o<st.length)&&decide (gN st (oldX st sh is_ at_ o)+sh=at_)
structure XSt where
 at_:Int
 old:Nat
 y:List Int
def yB (T:TM)(st l:List Int)(sh is_:Int):Nat→XSt→XSt
 |0,s=>s
 |k+1,s=>if s.at_<l.length then(if meetX st sh is_ s.at_ s.old=true then⟨s.at_,oldX st sh is_ s.at_ s.old,s.y⟩else yB T st l sh is_ k ⟨zP T l s.at_,oldX st sh is_ s.at_ s.old,s.y++[s.at_]⟩)else s
def kX (st:List Int)(frm:Int):Nat:=bsI st frm - 1
def yT (st:List Int)(w:Win):XSt:=⟨if kX st w.frm<st.length then gN st (kX st w.frm)else 0,bsI st w.was,st.take (kX st w.frm)⟩
def xV (T:TM)(st l:List Int)(w:Win):List Int:=
 (fun s:XSt=>if s.at_<l.length then s.y++(st.drop s.old).map (·+(w.is_ - w.was))else s.y) (yB T st l (w.is_ - w.was) w.is_ (l.length+1) (yT st w))
def startI (st:List Int)(n i:Int):Int:=if i<0∨(st.length:Int)≤i then n else gN st i.toNat
def xF (st:List Int)(n at_:Int):Int:=if n≤at_ then n else if bsOk st at_=true then at_ else if bsI st at_=0 then 0 else gN st (bsI st at_ - 1)
def ceilI (st:List Int)(n at_:Int):Int:=if at_≤0 then 0 else startI st n (bsI st at_)
def onI (st:List Int)(n at_ k:Int):Int:=startI st n (bsI st (xF st n at_)+min (max k (-(bsI st (xF st n at_):Int))) ((st.length:Int) - bsI st (xF st n at_)))
def xP (T:TM)(l want:List Int)(frm:Nat):Nat→Nat→Nat→Option Nat
 |0,_,_=>none
 |k+1,upto,n=>if upto<l.length then
  (if want.length<n+(yM T (gN l upto)).length then none
   else if n+(yM T (gN l upto)).length=want.length∧nfdD T (cutM l frm (upto+1))=want then some (upto+1)
   else xP T l want frm k (upto+1) (n+(yM T (gN l upto)).length))else none
def allF (T:TM)(l want:List Int):Nat→Nat→Option (Nat×Nat)
 |0,_=>none
 |k+1,frm=>if frm<l.length then(match xP T l want frm l.length frm 0 with
  |some upto=>some (frm,upto)
  |none=>allF T l want k (frm+1))else none
def findF (T:TM)(l pat:List Int):Option (Nat×Nat):=if nfdD T pat=[]then some (0,0)else allF T l (nfdD T pat) l.length 0
def vH (T:TM)(L:List (List Int))(step:Int)(pat:List Int):Nat→Int→Option (Int×Nat)
 |0,_=>none
 |k+1,at_=>if 0≤at_∧at_<L.length then(match findF T (L[at_.toNat]?.getD []) pat with
  |some p=>some (at_,p.1)
  |none=>vH T L step pat k (at_+step))else none
structure Sk where
 back:Bool
 pat:List Int
 at_:Int
 place:Int
 failed:Bool
 homeAt:Int
 homePlace:Int
def Sk.zero:Sk:=⟨false,[],0,0,false,0,0⟩
def Sk.step (s:Sk):Int:=if s.back=true then 1 else -1
def Sk.from_ (T:TM)(s:Sk)(L:List (List Int))(at_:Int):Sk:=match vH T L s.step s.pat (L.length+1) at_ with
 |some (k,p)=>{s with failed:=false,at_:=k,place:=p}
 |none=>{s with failed:=true}
def Sk.type (T:TM)(s:Sk)(L:List (List Int))(r:Int):Sk:=Sk.from_ T {s with pat:=s.pat++[r]} L s.at_
def Sk.rub (T:TM)(s:Sk)(L:List (List Int)):Sk:=
 if s.pat.take (s.pat.length - 1)=[]then {s with pat:=s.pat.take (s.pat.length - 1),at_:=s.homeAt,place:=s.homePlace,failed:=false}
 else Sk.from_ T {s with pat:=s.pat.take (s.pat.length - 1),at_:=s.homeAt,place:=s.homePlace,failed:=false} L s.homeAt
def Sk.again (T:TM)(s:Sk)(L:List (List Int))(b:Bool):Sk:=
 if s.pat=[]then {s with back:=b,failed:=false}else Sk.from_ T {s with back:=b} L (s.at_+Sk.step {s with back:=b})
structure Tx where
 l:List Int
 st:List Int
def Tx.floor (x:Tx)(at_:Int):Int:=xF x.st x.l.length at_
def Tx.on (x:Tx)(at_ n:Int):Int:=onI x.st x.l.length at_ n
def Tx.word (T:TM)(x:Tx)(at_ n:Int):Int:=if n<0 then wordBackW T x.l at_ else if n=0 then x.floor at_ else forwardW T x.l at_
def Tx.put (T:TM)(x:Tx)(is:List Int)(w:Win):Tx:=⟨is,xV T x.st is w⟩
def Tx.part (x:Tx)(a b:Int):List Int:=if max a 0<min b x.l.length then cutM x.l (max a 0).toNat (min b x.l.length).toNat else[]
def Tx.new (T:TM)(l:List Int):Tx:=⟨nfcC T l,(startsS T (nfcC T l)).1⟩
def wordsN (T:TM)(x:Tx)(step:Int):Nat→Int→Int
 |0,a=>a
 |k+1,a=>wordsN T x step k (x.word T a step)
def xR (T:TM)(x:Tx)(at_ n:Int):Int:=
 if n<0 then wordsN T x (-1) (min (-(max n (-(x.l.length:Int) - 1))) (x.l.length+1)).toNat at_ else wordsN T x 1 (min n (x.l.length+1)).toNat at_
def backN (n:Int):Int:= -(max n (-1099511627776))
def moveO (T:TM)(x:Tx)(c at_ n:Int):Int×Bool:=
 if c=3 then(x.on at_ n,true)else if c=4 then(x.on at_ (backN n),true)
 else if c=5 then(xR T x (x.floor at_) n,true)else if c=6 then(xR T x (x.floor at_) (backN n),true)
 else if c=7 then(0,true)else if c=8 then(x.l.length,true)else(x.floor at_,false)
structure Sp where
 frm:Int
 tt:Int
 ahead:Bool
def otherO (T:TM)(x:Tx)(c at_ mark n:Int):Option Int:=
 if c=9 then some (x.on at_ n)else if c=10 then some (x.on at_ (backN n))else if c=11 then some (xR T x at_ n)else if c=12 then some (xR T x at_ (backN n))
 else if c=13 then some x.l.length else if c=14 then some 0 else if c=15∨c=16 then some (x.floor mark)else none
def takeO (T:TM)(x:Tx)(c at_ mark n:Int):Option Sp:=match otherO T x c (x.floor at_) mark n with
 |some o=>some ⟨min (x.floor at_) o,max (x.floor at_) o,decide (o<x.floor at_)⟩
 |none=>none
def swapAt (x:Tx)(at_:Int):Int:=if x.floor at_=x.l.length then x.on (x.floor at_) (-1)else x.floor at_
def swapO (x:Tx)(at_:Int):Option (Sp×List Int):=
 (fun a:Int=>if x.on a (-1)=a∨x.on a 1=a then none else some (⟨x.on a (-1),x.on a 1,false⟩,x.part a (x.on a 1)++x.part (x.on a (-1)) a)) (swapAt x at_)
end Go.Proofs.YtociefdcccokjaaGreat

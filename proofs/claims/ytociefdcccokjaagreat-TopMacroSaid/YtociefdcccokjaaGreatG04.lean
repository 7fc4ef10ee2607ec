/-
  Lemmas for TopMacro. Conditions: each states its own.
-/
import Derived.Test.YtociefdcccokjaaGreatG01
namespace Go.Proofs.YtociefdcccokjaaGreat
open Go.RowKit Go.Lib
section
structure TM where
 cls:Int→Int
 gcb:Int→Int
 cnj:Int→Int
 pict:Int→Bool
 letter:Int→Bool
 outF:Int→Bool
 pr:Int→Int×Int
 made:Int→Int→Option Int
 sec:Int→Bool
namespace TM
variable (T:TM)
def pairOk (r:Int):Bool:=!(decide ((T.pr r).1=0)&&decide ((T.pr r).2=0))
def out (r:Int):Bool:=T.pairOk r&&(decide ((T.pr r).2=0)||T.outF r||decide (T.cls r≠0)||decide (T.cls (T.pr r).1≠0))
def comp (a b:Int):Option Int:=if b=0 then none else T.made a b
def brk (r:Int):Int:=if 44032≤r∧r≤55203∧(r - 44032) % 28=0 then 12 else if 44032≤r∧r≤55203 then 13 else T.gcb r
def conj (r:Int):Int:=if T.cnj r≠0 then T.cnj r else if(T.brk r=4∨T.brk r=5)∧r≠8204 then 3 else 0
end TM
def sylB (r:Int):Bool:=decide (44032≤r)&&decide (r<55204)
def yD (r:Int):List Int:=
 if sylB r=true then
  (if(r - 44032) % 28=0 then[4352+(r - 44032) / 588,4449+(r - 44032) / 28 % 21]else[4352+(r - 44032) / 588,4449+(r - 44032) / 28 % 21,4519+(r - 44032) % 28])
 else[]
def joinH (a b:Int):Option Int:=
 if 4352≤a∧a<4371∧4449≤b∧b<4470 then some (44032+((a - 4352)*21+b - 4449)*28)
 else if sylB a=true∧(a - 44032) % 28=0∧4519<b∧b<4547 then some (a+b - 4519)else none
def secH (r:Int):Bool:=(decide (4449≤r)&&decide (r<4470))||(decide (4519<r)&&decide (r<4547))
def yE (T:TM):Nat→Int→List Int
 |0,r=>if sylB r=true then yD r else[r]
 |d+1,r=>if sylB r=true then yD r else if T.pairOk r=true then yE T d (T.pr r).1++(if(T.pr r).2=0 then[]else yE T d (T.pr r).2)else[r]
theorem splitH_ne {r:Int}(h:sylB r=true):yD r≠[]:=by unfold yD;rw[if_pos h];split<;>simp
theorem takeD_ne (T:TM):∀(d:Nat) (r:Int),yE T d r≠[]
 |0,r=>by unfold yE;split;exact splitH_ne (by assumption);simp
 |d+1,r=>by
  unfold yE
  split
  ·exact splitH_ne (by assumption)
  ·split
   ·intro h
    exact takeD_ne T d _ (List.append_eq_nil_iff.1 h).1
   ·simp
theorem splitH_len (r:Int):(yD r).length≤3:=by unfold yD;split;split<;>simp;simp
theorem takeD_len (T:TM):∀(d:Nat) (r:Int),(yE T d r).length≤3*2 ^ d
 |0,r=>by unfold yE;split;exact splitH_len r;simp
 |d+1,r=>by
  have h1:=takeD_len T d (T.pr r).1;have h2:=takeD_len T d (T.pr r).2;have h3:=splitH_len r;have h4:2 ^ (d+1)=2*2 ^ d:=by rw[Nat.pow_succ];omega
  have h5:1≤2 ^ d:=Nat.one_le_two_pow;unfold yE
  split
  ·omega
  ·split
   ·rw[List.length_append]
    split
    ·simp;omega
    ·omega
   ·simp;omega
def yM (T:TM)(r:Int):List Int:=yE T 8 r
structure CSt where
 out:List Int
 starter:Int
 last:Int
def pairC (T:TM)(a b:Int):Option Int:=match joinH a b with
 |some c=>some c
 |none=>T.comp a b
def freeC (T:TM)(s:CSt)(r:Int):Bool:=decide (0≤s.starter)&&(decide (s.starter=(s.out.length:Int) - 1)||(decide (s.last≠0)&&decide (s.last<T.cls r)))
def xO (T:TM)(s:CSt)(r:Int):CSt:=
 match(if freeC T s r=true then pairC T (s.out[s.starter.toNat]?.getD 0) r else none)with
 |some c=>⟨s.out.set s.starter.toNat c,s.starter,s.last⟩
 |none=>⟨s.out++[r],if T.cls r=0 then(s.out.length:Int)else s.starter,T.cls r⟩
def runC (T:TM)(l:List Int):CSt:=l.foldl (xO T) ⟨[],-1,0⟩
def composeC (T:TM)(l:List Int):List Int:=(runC T l).out
theorem runC_ok (T:TM)(l:List Int): -1≤(runC T l).starter∧(runC T l).starter<(runC T l).out.length∧(runC T l).out.length≤l.length:=by
 have h:∀(l:List Int) (s:CSt),-1≤s.starter→s.starter<s.out.length→ -1≤(l.foldl (xO T) s).starter∧(l.foldl (xO T) s).starter<(l.foldl (xO T) s).out.length∧(l.foldl (xO T) s).out.length≤s.out.length+l.length:=by
  intro l
  induction l with
  |nil=>intro s h1 h2;exact⟨h1,h2,by simp⟩
  |cons r l ih=>
   intro s h1 h2;have hs: -1≤(xO T s r).starter∧(xO T s r).starter<(xO T s r).out.length∧(xO T s r).out.length≤s.out.length+1:=by
    unfold xO
    split
    ·simp;omega
    ·dsimp only
     rw[List.length_append]
     split
     ·simp;omega
     ·simp;omega
   obtain⟨a,b,c⟩:=ih (xO T s r) hs.1 hs.2.1;exact⟨a,b,by rw[List.length_cons];show(l.foldl (xO T) (xO T s r)).out.length≤_;omega⟩
 obtain⟨a,b,c⟩:=h l ⟨[],-1,0⟩ (by simp) (by simp);simp only[List.length_nil,Nat.zero_add]at c;exact⟨a,b,c⟩
def quickQ (T:TM)(r:Int):Int:=if T.out r=true then 1 else if T.sec r=true∨secH r=true then 2 else 0
def oneQ (T:TM)(r:Int):Bool:=decide (T.cls r=0)&&decide (quickQ T r=0)
def yP (T:TM)(r:Int):Bool:=oneQ T r&&oneQ T ((yM T r).headD 0)
def yG (T:TM)(l:List Int):Nat→Nat
 |0=>0
 |n+1=>if n=0∨yP T (l[n]?.getD 0)=true then n else yG T l n
theorem backL_le (T:TM)(l:List Int):∀n,yG T l n≤n
 |0=>le_
 |n+1=>by
  have:=backL_le T l n;unfold yG
  split<;>omega
def onL (T:TM)(l:List Int)(at_:Nat):Nat:=at_+((l.drop at_).takeWhile fun r=>!yP T r).length
theorem onL_ge (T:TM)(l:List Int)(at_:Nat):at_≤onL T l at_:=by unfold onL;omega
theorem onL_le (T:TM)(l:List Int)(at_:Nat)(h:at_≤l.length):onL T l at_≤l.length:=by
 have:=(List.takeWhile_prefix (l:=l.drop at_) (fun r=>!yP T r)).length_le;rw[List.length_drop]at this;unfold onL;omega
structure Win where
 frm:Int
 was:Int
 is_:Int
deriving DecidableEq
structure SSt where
 some_:Bool
 last:Int
 pict:Int
 conj:Int
 odd:Bool
deriving DecidableEq
def SSt.zero:SSt:=⟨false,0,0,0,false⟩
def sticksS (a b:Int):Bool:=
 if a=1 then decide (b=2)else if a=2∨a=3 then false
 else if b=1∨b=2∨b=3 then false else if b=4∨b=5∨b=8 then true
 else if a=7 then true else if a=9 then decide (b=9∨b=10∨b=12∨b=13)
 else if a=12∨a=10 then decide (b=10∨b=11)else if a=13∨a=11 then decide (b=11)else false
def yO (T:TM)(s:SSt)(r:Int):SSt×Bool:=
 (⟨true,T.brk r,
   (if T.pict r=true then 1 else if s.pict=1∧T.brk r=4 then 1 else if s.pict=1∧T.brk r=5 then 2 else 0),
   (if T.conj r=2 then 1 else if s.conj≠0∧T.conj r=1 then 2 else if s.conj≠0∧T.conj r=3 then s.conj else 0),
   decide (T.brk r=6)&&!s.odd⟩,
  !s.some_||(!sticksS s.last (T.brk r)&&!(decide (s.pict=2)&&T.pict r)&&!(decide (s.conj=2)&&decide (T.conj r=2))&&!(s.odd&&decide (T.brk r=6))))
def goonS (T:TM):SSt→List Int→Nat
 |_,[]=>0
 |s,r::l=>if(yO T s r).2=true then 0 else goonS T (yO T s r).1 l+1
theorem goonS_le (T:TM):∀(l:List Int) (s:SSt),goonS T s l≤l.length
 |[],_=>le_
 |r::l,s=>by
  unfold goonS
  split
  ·exact Nat.zero_le _
  ·have:=goonS_le T l (yO T s r).1;rw[List.length_cons];omega
def zP (T:TM)(l:List Int)(at_:Int):Int:=
 if at_<0∨(l.length:Int)≤at_ then l.length
 else at_+1+goonS T (yO T SSt.zero (l[at_.toNat]?.getD 0)).1 (l.drop (at_.toNat+1))
theorem yA (T:TM)(l:List Int)(at_:Int)(h:at_<l.length)(h0:0≤at_):at_<zP T l at_∧zP T l at_≤l.length:=by
 unfold zP;rw[if_neg (by omega)];have:=goonS_le T (l.drop (at_.toNat+1)) (yO T SSt.zero (l[at_.toNat]?.getD 0)).1;rw[List.length_drop]at this;omega
def startsS (T:TM)(l:List Int):List Int×SSt×Nat:=
 l.foldl (fun x r=>(if(yO T x.2.1 r).2=true then x.1++[(x.2.2:Int)]else x.1,(yO T x.2.1 r).1,x.2.2+1)) ([],SSt.zero,0)
end
end Go.Proofs.YtociefdcccokjaaGreat

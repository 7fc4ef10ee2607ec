/-
  Lemmas for TopMacro. Conditions: each states its own.
-/
import Derived.Test.YtociefdcccokjaaGreatG01
namespace Go.Proofs.YtociefdcccokjaaGreat
open Go.RowKit Go.Lib
def gN (l:List Int)(i:Nat):Int:=l[i]?.getD 0
def bsP (p:Nat→Bool):Nat→Nat→Nat→Nat
 |0,i,_=>i
 |k+1,i,j=>if i<j then(if p ((i+j) / 2)=true then bsP p k ((i+j) / 2+1) j else bsP p k i ((i+j) / 2))else i
theorem bsP_in (p:Nat→Bool):∀(k i j:Nat),i≤j→i≤bsP p k i j∧bsP p k i j≤j
 |0,i,j,h=>⟨le_,h⟩
 |k+1,i,j,h=>by
  unfold bsP
  split
  ·split
   ·have:=bsP_in p k ((i+j) / 2+1) j (by omega);omega
   ·have:=bsP_in p k i ((i+j) / 2) (by omega);omega
  ·omega
theorem bsP_stop (p:Nat→Bool)(k i j:Nat)(h:¬i<j):bsP p k i j=i:=by cases k with
 |zero=>rfl
 |succ k=>unfold bsP;rw[if_neg h]
theorem bsP_yes (p:Nat→Bool){k i j:Nat}(h:i<j)(hk:j - i≤k)(hp:p ((i+j) / 2)=true):bsP p k i j=bsP p (k - 1) ((i+j) / 2+1) j:=by
 obtain⟨k,rfl⟩:∃k',k=k'+1:=⟨k - 1,by omega⟩;show bsP p (k+1) i j=_;rw[bsP,if_pos h,if_pos hp];rfl
theorem bsP_no (p:Nat→Bool){k i j:Nat}(h:i<j)(hk:j - i≤k)(hp:p ((i+j) / 2)=false):bsP p k i j=bsP p (k - 1) i ((i+j) / 2):=by
 obtain⟨k,rfl⟩:∃k',k=k'+1:=⟨k - 1,by omega⟩;show bsP p (k+1) i j=_;rw[bsP,if_pos h,if_neg (by simp[hp])];rfl
def yS (l:List Int)(i j:Nat):List Int:=(l.set i (gN l j)).set j (gN l i)
theorem yN (l:List Int)(i j:Nat):(yS l i j).length=l.length:=by simp[yS]
section
variable (f:Int→Int)
def insJ (a:Nat):Nat→List Int→List Int
 |0,l=>l
 |j+1,l=>if a<j+1∧f (gN l (j+1))<f (gN l j)then insJ a j (yS l (j+1) j)else l
theorem insJ_len (a:Nat):∀(j:Nat) (l:List Int),(insJ f a j l).length=l.length
 |0,_=>rfl
 |j+1,l=>by unfold insJ;split;rw[insJ_len a j,yN];rfl
def insL (a b:Nat):Nat→Nat→List Int→List Int
 |0,_,l=>l
 |k+1,i,l=>if i<b then insL a b k (i+1) (insJ f a i l)else l
theorem insL_len (a b:Nat):∀(k i:Nat) (l:List Int),(insL f a b k i l).length=l.length
 |0,_,_=>rfl
 |k+1,i,l=>by unfold insL;split;rw[insL_len a b k,insJ_len];rfl
def insM (a b:Nat)(l:List Int):List Int:=insL f a b (b - (a+1)) (a+1) l
theorem insM_len (a b:Nat)(l:List Int):(insM f a b l).length=l.length:=insL_len f a b _ _ _
def swR (a b:Nat):Nat→Nat→List Int→List Int
 |0,_,l=>l
 |k+1,i,l=>swR a b k (i+1) (yS l (a+i) (b+i))
theorem swR_len (a b:Nat):∀(k i:Nat) (l:List Int),(swR a b k i l).length=l.length
 |0,_,_=>rfl
 |k+1,i,l=>by unfold swR;rw[swR_len a b k,yN]
def rotW (m:Nat):Nat→Nat→Nat→List Int→List Int
 |0,_,_,l=>l
 |k+1,i,j,l=>if i=j then swR (m - i) m i 0 l else if j<i then rotW m k (i - j) j (swR (m - i) m j 0 l)else rotW m k i (j - i) (swR (m - i) (m+j - i) i 0 l)
theorem rotW_len (m:Nat):∀(k i j:Nat) (l:List Int),(rotW m k i j l).length=l.length
 |0,_,_,_=>rfl
 |k+1,i,j,l=>by
  unfold rotW
  split
  ·exact swR_len _ _ _ _ _
  ·split
   ·rw[rotW_len m k,swR_len]
   ·rw[rotW_len m k,swR_len]
def rotM (a m b:Nat)(l:List Int):List Int:=rotW m (b - a) (m - a) (b - m) l
theorem rotM_len (a m b:Nat)(l:List Int):(rotM a m b l).length=l.length:=rotW_len _ _ _ _ _
def upM (i:Nat):Nat→Nat→List Int→List Int
 |0,_,l=>l
 |c+1,k,l=>if k+1<i then upM i c (k+1) (yS l k (k+1))else l
theorem upM_len (i:Nat):∀(c k:Nat) (l:List Int),(upM i c k l).length=l.length
 |0,_,_=>rfl
 |c+1,k,l=>by unfold upM;split;rw[upM_len i c,yN];rfl
def downM (i:Nat):Nat→List Int→List Int
 |0,l=>l
 |k+1,l=>if i<k+1 then downM i k (yS l (k+1) k)else l
theorem downM_len (i:Nat):∀(k:Nat) (l:List Int),(downM i k l).length=l.length
 |0,_=>rfl
 |k+1,l=>by unfold downM;split;rw[downM_len i k,yN];rfl
def symS (l:List Int)(a m b:Nat):Nat:=
 bsP (fun c=>!decide (f (gN l ((a+b) / 2+m - 1 - c))<f (gN l c))) (b - a) (if(a+b) / 2<m then(a+b) / 2+m - b else a) (if(a+b) / 2<m then(a+b) / 2 else m)
def symM:Nat→Nat→Nat→Nat→List Int→List Int
 |0,_,_,_,l=>l
 |k+1,a,m,b,l=>
  if m - a=1 then upM (bsP (fun h=>decide (f (gN l h)<f (gN l a))) (b - m) m b) (b - a) a l
  else if b - m=1 then downM (bsP (fun h=>!decide (f (gN l m)<f (gN l h))) (m - a) a m) m l
  else
   (fun l2:List Int=>(fun l3:List Int=>if(a+b) / 2<(a+b) / 2+m - symS f l a m b∧(a+b) / 2+m - symS f l a m b<b then symM k ((a+b) / 2) ((a+b) / 2+m - symS f l a m b) b l3 else l3)
    (if a<symS f l a m b∧symS f l a m b<(a+b) / 2 then symM k a (symS f l a m b) ((a+b) / 2) l2 else l2))
   (if symS f l a m b<m∧m<(a+b) / 2+m - symS f l a m b then rotM (symS f l a m b) m ((a+b) / 2+m - symS f l a m b) l else l)
theorem vF:∀(k a m b:Nat) (l:List Int),(symM f k a m b l).length=l.length
 |0,_,_,_,_=>rfl
 |k+1,a,m,b,l=>by
  unfold symM
  split
  ·exact upM_len _ _ _ _
  ·split
   ·exact downM_len _ _ _
   ·dsimp only
    split<;>(try rw[vF k])<;>split<;>(try rw[vF k])<;>split<;>first|rfl|exact rotM_len _ _ _ _
theorem symS_in (l:List Int){a m b:Nat}(h1:a<m)(h2:m<b):a≤symS f l a m b∧symS f l a m b≤m∧symS f l a m b≤(a+b) / 2∧m≤(a+b) / 2+m - symS f l a m b∧(a+b) / 2+m - symS f l a m b≤b:=by
 unfold symS;by_cases h:(a+b) / 2<m
 ·rw[if_pos h,if_pos h]
  have:=bsP_in (fun c=>!decide (f (gN l ((a+b) / 2+m - 1 - c))<f (gN l c))) (b - a) ((a+b) / 2+m - b) ((a+b) / 2) (by omega);omega
 ·rw[if_neg h,if_neg h]
  have:=bsP_in (fun c=>!decide (f (gN l ((a+b) / 2+m - 1 - c))<f (gN l c))) (b - a) a m (by omega);omega
def stA (n:Nat):Nat→Nat→List Int→List Int×Nat
 |0,a,l=>(l,a)
 |k+1,a,l=>if a+20≤n then stA n k (a+20) (insM f a (a+20) l)else(l,a)
theorem stA_len (n:Nat):∀(k a:Nat) (l:List Int),(stA f n k a l).1.length=l.length
 |0,_,_=>rfl
 |k+1,a,l=>by unfold stA;split;rw[stA_len n k,insM_len];rfl
def stM (n bs:Nat):Nat→Nat→List Int→List Int×Nat
 |0,a,l=>(l,a)
 |k+1,a,l=>if a+2*bs≤n then stM n bs k (a+2*bs) (symM f (2*bs) a (a+bs) (a+2*bs) l)else(l,a)
theorem stM_len (n bs:Nat):∀(k a:Nat) (l:List Int),(stM f n bs k a l).1.length=l.length
 |0,_,_=>rfl
 |k+1,a,l=>by unfold stM;split;rw[stM_len n bs k,vF];rfl
def stR (n bs:Nat)(l:List Int):List Int:=
 if(stM f n bs n 0 l).2+bs<n then symM f (n - (stM f n bs n 0 l).2) (stM f n bs n 0 l).2 ((stM f n bs n 0 l).2+bs) n (stM f n bs n 0 l).1 else(stM f n bs n 0 l).1
theorem stR_len (n bs:Nat)(l:List Int):(stR f n bs l).length=l.length:=by
 unfold stR
 split
 ·rw[vF,stM_len]
 ·rw[stM_len]
def stB (n:Nat):Nat→Nat→List Int→List Int
 |0,_,l=>l
 |k+1,bs,l=>if bs<n then stB n k (2*bs) (stR f n bs l)else l
theorem stB_len (n:Nat):∀(k bs:Nat) (l:List Int),(stB f n k bs l).length=l.length
 |0,_,_=>rfl
 |k+1,bs,l=>by unfold stB;split;rw[stB_len n k,stR_len];rfl
def zS (l:List Int):List Int:=stB f l.length l.length 20 (insM f (stA f l.length l.length 0 l).2 l.length (stA f l.length l.length 0 l).1)
theorem stableM_len (l:List Int):(zS f l).length=l.length:=by
 unfold zS;rw[stB_len,insM_len,stA_len]
end
end Go.Proofs.YtociefdcccokjaaGreat

/-
  Lemmas for TopMacro. Conditions: each states its own.
-/
import Derived.BigRegion
import Derived.Test.YtociefdcccokjaaGreatG08
set_option maxHeartbeats 6400000
set_option maxRecDepth 100000
namespace Go.Proofs.YtociefdcccokjaaGreat
open Go.RowKit Go.Lib
def Sx (w0 w:World)(R:Nat)(vp:List Value)(l:List Int)(vs:List Value):Prop:=Bx w R (vp++R32 l++vs).toArray 21∧Mu (fun b=>b=R) w0 w
section
variable {w0 w w':World}{R:Nat}{vp vs:List Value}{l:List Int}
theorem mid_get (vp vs:List Value)(l:List Int){k:Nat}(h:k<l.length):(vp++R32 l++vs).toArray[vp.length+k]? =some (.int .i32 (gN l k)):=by
 have h2:k<(R32 l).length:=by rw[zG];exact h
 rw[List.getElem?_toArray,List.append_assoc,List.getElem?_append_right (by omega),Nat.add_sub_cancel_left,List.getElem?_append_left h2,R32_get];unfold gN;rw[List.getElem?_eq_getElem h];rfl
theorem mid_set (vp vs:List Value)(l:List Int){k:Nat}(h:k<l.length)(x:Int):(vp++R32 l++vs).toArray.setIfInBounds (vp.length+k) (.int .i32 x)=(vp++R32 (l.set k x)++vs).toArray:=by
 have h2:k<(R32 l).length:=by rw[zG];exact h
 have e:(R32 l).set k (.int .i32 x)=R32 (l.set k x):=by unfold R32;rw[List.map_set]
 rw[List.setIfInBounds_toArray,List.append_assoc,List.set_append_right _ _ (by omega),Nat.add_sub_cancel_left,List.set_append_left _ _ h2,e,List.append_assoc]
theorem Sx.cell (h:Sx w0 w R vp l vs){k:Nat}(hk:k<l.length):w.cell? ⟨R,vp.length+k,none⟩=some (.int .i32 (gN l k)):=by rw[h.1.cell];exact mid_get vp vs l hk
theorem Sx.frozen (h:Sx w0 w R vp l vs)(i:Nat):w.frozen? ⟨R,i,none⟩=false:=h.1.frozen i
theorem Sx.dr (h:Sx w0 w R vp l vs)(d:Dr w w'):Sx w0 w' R vp l vs:=by obtain⟨k,rfl⟩:=d;exact⟨h.1.drewN k,h.2.drewN k⟩
theorem Sx.set (h:Sx w0 w R vp l vs){k:Nat}(hk:k<l.length)(x:Int):Sx w0 (w.setCell ⟨R,vp.length+k,none⟩ (.int .i32 x)) R vp (l.set k x) vs:=by
 refine⟨?_,h.2.setCell (p:=⟨R,vp.length+k,none⟩) rfl _⟩;have:=h.1.set (vp.length+k) (.int .i32 x);rw[mid_set vp vs l hk]at this;exact this
theorem Sx.swap (h:Sx w0 w R vp l vs){i j:Nat}(hi:i<l.length)(hj:j<l.length):Sx w0 ((w.setCell ⟨R,vp.length+i,none⟩ (.int .i32 (gN l j))).setCell ⟨R,vp.length+j,none⟩ (.int .i32 (gN l i))) R vp (yS l i j) vs:=
 (h.set hi (gN l j)).set (by rw[List.length_set];exact hj) (gN l i)
end
theorem swR_step (a b:Nat)(k i:Nat)(l:List Int):swR a b (k+1) i l=swR a b k (i+1) (yS l (a+i) (b+i)):=rfl
theorem swr_any (R n c a b k:Nat)(cl:Value)(vp vs:List Value)(l:List Int)(w0 w:World)(h:Sx w0 w R vp l vs)(hln:l.length=n)(_hnc:n≤c)(_hc:c≤9223372036854775807)(hn40:n≤1099511627776)(hab:a<b)(hbk:b+k≤n):
 Calls Tryz.prog 219 #[.slice (some ⟨R,vp.length,none⟩) n c,.int .i64 (a:Int),.int .i64 (b:Int),.int .i64 (k:Int),cl] w fun e w'=>e=.returned (.tuple #[])∧Sx w0 w' R vp (swR a b k 0 l) vs:=by
 obtain⟨HL,HS⟩:=hid2 hln h;clear hln h;generalize hvo:vp.length=o at *;have HO:=hid hvo;clear hvo;go_enter Tryz.func219,Tryz.ntmps219;go_wp2_with fail;go_loopw [10] (fun v wr=>∃(i:Nat) (l':List Int),v=.int .i64 i∧i≤k∧Sx w0 wr R vp l' vs∧Hid (l'.length=n∧swR a b (k - i) i l'=swR a b k 0 l)) (fun v _=>k - (intOf v).toNat)
 case atStart=>exact⟨0,l,rfl,Nat.zero_le _,HS.out,HL.out,rfl⟩
 case round=>
  obtain⟨i,l',rfl,hik,hs,hl'⟩:=hrel;by_cases hlt:i<k
  ·have hll:=hl'.out.1
   have h1:=hs.cell (k:=a+i) (by omega);have h2:=hs.cell (k:=b+i) (by omega);have f1:=hs.frozen (o+(a+i));have f2:=hs.frozen (o+(b+i));rw[HO.out]at h1 h2;have hw2:=hs.swap (i:=a+i) (j:=b+i) (by omega) (by omega);rw[HO.out]at hw2;have HW:=hid hw2;clear hw2;have HN:Hid ((yS l' (a+i) (b+i)).length=n∧swR a b (k - (i+1)) (i+1) (yS l' (a+i) (b+i))=swR a b k 0 l):=by
    refine⟨by rw[yN];exact hll,?_⟩;rw[←hl'.out.2,show k - i=k - (i+1)+1 by omega,swR_step]
   have ha1:(a:Int)+i=((a+i:Nat):Int):=by omega
   have hb1:(b:Int)+i=((b+i:Nat):Int):=by omega
   have hai:a+i<n:=by omega
   have hbi:b+i<n:=by omega
   have hne:a+i≠b+i:=by omega
   clear hs hl' hll;generalize gN l' (a+i)=x at *;generalize gN l' (b+i)=y at *;generalize yS l' (a+i) (b+i)=l2 at *;generalize a+i=ai at *;generalize b+i=bi at *;go_upto_region 3 with fail;go_region;go_wp2_with fail;go_roundw
   case rel=>exact⟨i+1,l2,by go_num,by omega,HW.out.dr ⟨1,rfl⟩,HN.out⟩
   case measure=>simp[intOf];omega
  ·have hik':i=k:=by omega
   subst hik';have HE:Hid (l'=swR a b i 0 l):=by have:=hl'.out.2;rw[Nat.sub_self]at this;exact this
   have HS2:=hid hs;clear hs hl';go_wp2_with fail;go_end0;rw[←HE.out];exact⟨rfl,HS2.out⟩
theorem rotW_eq (m k i:Nat)(l:List Int):rotW m (k+1) i i l=swR (m - i) m i 0 l:=by show(if i=i then _ else _)=_;rw[if_pos rfl]
theorem rotW_gt (m k:Nat){i j:Nat}(l:List Int)(h:j<i):rotW m (k+1) i j l=rotW m k (i - j) j (swR (m - i) m j 0 l):=by show(if i=j then _ else if j<i then _ else _)=_;rw[if_neg (by omega),if_pos h]
theorem rotW_lt (m k:Nat){i j:Nat}(l:List Int)(h:i<j):rotW m (k+1) i j l=rotW m k i (j - i) (swR (m - i) (m+j - i) i 0 l):=by show(if i=j then _ else if j<i then _ else _)=_;rw[if_neg (by omega),if_neg (by omega)]
theorem rot_any (R n c a m b:Nat)(cl:Value)(vp vs:List Value)(l:List Int)(w0 w:World)(h:Sx w0 w R vp l vs)(hln:l.length=n)(hnc:n≤c)(hc:c≤9223372036854775807)(hn40:n≤1099511627776)(ham:a<m)(hmb:m<b)(hbn:b≤n):
 Calls Tryz.prog 214 #[.slice (some ⟨R,vp.length,none⟩) n c,.int .i64 (a:Int),.int .i64 (m:Int),.int .i64 (b:Int),cl] w fun e w'=>e=.returned (.tuple #[])∧Sx w0 w' R vp (rotM a m b l) vs:=by
 obtain⟨HL,HS⟩:=hid2 hln h;have HR:Hid (rotM a m b l=rotW m (b - a) (m - a) (b - m) l):=rfl;clear hln h;have e1:(m:Int) - a=((m - a:Nat):Int):=by omega
 have e2:(b:Int) - m=((b - m:Nat):Int):=by omega
 have hi0:0<m - a:=by omega
 have hj0:0<b - m:=by omega
 have hij0:(m - a)+(b - m)≤b - a:=by omega
 have hmi:m - a≤m:=by omega
 have hmj:m+(b - m)≤n:=by omega
 generalize m - a=i0 at *;generalize b - m=j0 at *;generalize b - a=k0 at *;go_enter Tryz.func214,Tryz.ntmps214;go_wp2_with fail;go_loopw [10,11] (fun u v wr=>∃(i j k:Nat) (l':List Int),u=.int .i64 i∧v=.int .i64 j∧0<i∧0<j∧i+j≤k∧i≤m∧m+j≤n∧Sx w0 wr R vp l' vs∧Hid (l'.length=n∧rotW m k i j l'=rotM a m b l)) (fun u v _=>((intOf u)+(intOf v)).toNat)
 case atStart=>exact⟨i0,j0,k0,l,rfl,rfl,hi0,hj0,hij0,hmi,hmj,HS.out,HL.out,HR.out.symm⟩
 case round=>
  obtain⟨i,j,k,l',rfl,rfl,hi,hj,hk,him,hjm,hs,hl'⟩:=hrel;have HS':=hid hs;clear hs;obtain⟨k1,rfl⟩:∃k1,k=k1+1:=⟨k - 1,by omega⟩;rcases(by omega:i=j∨j<i∨i<j)with h|h|h
  ·subst h
   have HE:Hid (swR (m - i) m i 0 l'=rotM a m b l):=by show _=_;rw[←rotW_eq m k1 i l'];exact hl'.out.2
   have HLL:=hid hl'.out.1;have e3:(m:Int) - i=((m - i:Nat):Int):=by omega
   clear hl';go_wp2_with fail;refine(swr_any R n c (m - i) m i cl vp vs l' w0 _ HS'.out HLL.out hnc hc hn40 (by omega) (by omega)).mono ?_;rintro e w1 ⟨rfl,hs1⟩;have HS1:=hid hs1;clear hs1;go_wp2_with fail;go_end0;rw[←HE.out];exact⟨rfl,HS1.out⟩
  ·have HE:Hid ((swR (m - i) m j 0 l').length=n∧rotW m k1 (i - j) j (swR (m - i) m j 0 l')=rotM a m b l):=⟨by rw[swR_len];exact hl'.out.1,by rw[←rotW_gt m k1 l' h];exact hl'.out.2⟩
   have HLL:=hid hl'.out.1;have e3:(m:Int) - i=((m - i:Nat):Int):=by omega
   have e4:(i:Int) - j=((i - j:Nat):Int):=by omega
   have hne:((i:Int) != (j:Int))=true:=by rw[bne_iff_ne];omega
   clear hl';go_wp2_with fail;refine(swr_any R n c (m - i) m j cl vp vs l' w0 _ HS'.out HLL.out hnc hc hn40 (by omega) (by omega)).mono ?_;rintro e w1 ⟨rfl,hs1⟩;have HS1:=hid hs1;clear hs1;go_wp2_with fail;go_roundw
   case rel=>exact⟨i - j,j,k1,_,rfl,rfl,by omega,hj,by omega,by omega,hjm,HS1.out,HE.out⟩
   case measure=>simp[intOf];omega
  ·have HE:Hid ((swR (m - i) (m+j - i) i 0 l').length=n∧rotW m k1 i (j - i) (swR (m - i) (m+j - i) i 0 l')=rotM a m b l):=⟨by rw[swR_len];exact hl'.out.1,by rw[←rotW_lt m k1 l' h];exact hl'.out.2⟩
   have HLL:=hid hl'.out.1;have e3:(m:Int) - i=((m - i:Nat):Int):=by omega
   have e4:(j:Int) - i=((j - i:Nat):Int):=by omega
   have e5:(m:Int)+j - i=((m+j - i:Nat):Int):=by omega
   have hne:((i:Int) != (j:Int))=true:=by rw[bne_iff_ne];omega
   have hge:¬(j:Int)<i:=by omega
   clear hl';go_wp2_with fail;refine(swr_any R n c (m - i) (m+j - i) i cl vp vs l' w0 _ HS'.out HLL.out hnc hc hn40 (by omega) (by omega)).mono ?_;rintro e w1 ⟨rfl,hs1⟩;have HS1:=hid hs1;clear hs1;go_wp2_with fail;go_roundw
   case rel=>exact⟨i,j - i,k1,_,rfl,rfl,hi,by omega,by omega,him,by omega,HS1.out,HE.out⟩
   case measure=>simp[intOf];omega
def clV (tb:Nat):Value:=.func (.func 166) #[] #[.pointer (some ⟨tb,0,none⟩)]
structure Cm (wT w0:World)(tb g:Nat)(T:TM)(R:Nat):Prop where
 tab:TabAt wT g T
 kp:Kp wT w0
 row:wT.heap.size≤R
 box:w0.cell? ⟨tb,0,none⟩=some (.pointer (some ⟨g,0,none⟩))
 ne:tb≠R
section
variable {wT w0 w:World}{tb g R:Nat}{T:TM}{vp vs:List Value}{l:List Int}
theorem Cm.at_ (h:Cm wT w0 tb g T R)(s:Sx w0 w R vp l vs)(d:Nat){a b:Int}(ha:r32 a)(hb:r32 b):
 Calls Tryz.prog 166 #[.int .i32 a,.int .i32 b,.pointer (some ⟨tb,0,none⟩)] (w.drewN d) fun e w'=>e=.returned (.int .i64 (cmpI (T.cls a) (T.cls b)))∧Dr (w.drewN d) w':=by
 have hk:Kp wT w:=s.2.kp h.kp fun b hb=>by subst hb;exact h.row
 have hl:=World.block_lt_of_cell? w0 _ h.box;have hc:w.cell? ⟨tb,0,none⟩=some (.pointer (some ⟨g,0,none⟩)):=(World.cell?_of_block (s.2.block tb hl h.ne)).trans h.box;exact cmp_any tb g T a b _ (h.tab.kp (hk.drewN d)) hc ha hb
end
theorem R32ok.swap {l:List Int}(h:R32ok l)(i j:Nat):R32ok (yS l i j):=by
 intro x hx;unfold yS at hx;rcases List.mem_or_eq_of_mem_set hx with hx|rfl
 ·rcases List.mem_or_eq_of_mem_set hx with hx|rfl
  ·exact h x hx
  ·exact h.get
 ·exact h.get
theorem cmp_lt (x y:Int):decide (cmpI x y<0)=decide (x<y):=by
 unfold cmpI;by_cases h:x<y
 ·rw[if_pos h];simp[h]
 ·rw[if_neg h];by_cases h2:y<x<;>simp[h2,h]
theorem insJ_stop (f:Int→Int)(a j:Nat)(l:List Int)(h:j≤a):insJ f a j l=l:=by
 cases j with
 |zero=>rfl
 |succ j=>show(if _ then _ else _)=_;rw[if_neg (by omega)]
theorem insJ_no (f:Int→Int)(a j:Nat)(l:List Int)(h:¬f (gN l (j+1))<f (gN l j)):insJ f a (j+1) l=l:=by show(if _ then _ else _)=_;rw[if_neg (fun e=>h e.2)]
theorem insJ_yes (f:Int→Int)(a j:Nat)(l:List Int)(h0:a<j+1)(h:f (gN l (j+1))<f (gN l j)):insJ f a (j+1) l=insJ f a j (yS l (j+1) j):=by show(if _ then _ else _)=_;rw[if_pos ⟨h0,h⟩]
theorem insL_step (f:Int→Int)(a b k i:Nat)(l:List Int)(h:i<b):insL f a b (k+1) i l=insL f a b k (i+1) (insJ f a i l):=by show(if _ then _ else _)=_;rw[if_pos h]
theorem insL_stop (f:Int→Int)(a b k i:Nat)(l:List Int)(h:¬i<b):insL f a b k i l=l:=by cases k with
 |zero=>rfl
 |succ k=>show(if _ then _ else _)=_;rw[if_neg h]
theorem ins_any (wT:World)(tb g:Nat)(T:TM)(R n c a b:Nat)(vp vs:List Value)(l:List Int)(w0 w:World)(hcm:Cm wT w0 tb g T R)(h:Sx w0 w R vp l vs)(hln:l.length=n)(h32:R32ok l)(_hnc:n≤c)(_hc:c≤9223372036854775807)(hn40:n≤1099511627776)(hbn:b≤n)(hab:a≤b):
 Calls Tryz.prog 206 #[.slice (some ⟨R,vp.length,none⟩) n c,.int .i64 (a:Int),.int .i64 (b:Int),clV tb] w fun e w'=>e=.returned (.tuple #[])∧Sx w0 w' R vp (insM T.cls a b l) vs:=by
 obtain⟨HL,HS,HCM,H32⟩:=hid4 hln h hcm h32;have HM:Hid (insM T.cls a b l=insL T.cls a b (b - (a+1)) (a+1) l):=rfl;clear hln h hcm h32;generalize hvo:vp.length=o at *;have HO:=hid hvo;clear hvo;unfold clV;go_enter Tryz.func206,Tryz.ntmps206;go_wp2_with fail;go_loopw [8] (fun v wr=>∃(i k:Nat) (l':List Int),v=.int .i64 i∧a+1≤i∧i≤b+1∧Sx w0 wr R vp l' vs∧Hid (l'.length=n∧R32ok l'∧b≤i+k∧insL T.cls a b k i l'=insM T.cls a b l)) (fun v _=>b - (intOf v).toNat)
 case atStart=>exact⟨a+1,b - (a+1),l,by go_num,le_,by omega,HS.out,HL.out,H32.out,by omega,HM.out.symm⟩
 case round=>
  obtain⟨i,k,l',rfl,hai,hib,hs,hl'⟩:=hrel;by_cases hlt:i<b
  ·have HS':=hid hs
   have HI:Hid (l'.length=n∧R32ok l'):=⟨hl'.out.1,hl'.out.2.1⟩;have HN:Hid (b≤i+1+(k - 1)∧insL T.cls a b (k - 1) (i+1) (insJ T.cls a i l')=insM T.cls a b l):=by
    have h1:=hl'.out.2.2;have hk:k=k - 1+1:=by omega
    rw[hk,insL_step _ _ _ _ _ _ hlt]at h1;exact⟨by omega,h1.2⟩
   clear hs hl';obtain⟨wo,hwo⟩:∃wo:World,wo=wr:=⟨_,rfl⟩;subst hwo;go_wp2_with fail;go_loopw [9] (fun v wr=>∃(j:Nat) (l2:List Int),v=.int .i64 j∧a≤j∧j≤i∧Sx w0 wr R vp l2 vs∧Hid (l2.length=n∧R32ok l2∧insJ T.cls a j l2=insJ T.cls a i l')) (fun v _=>(intOf v).toNat)
   case atStart=>exact⟨i,l',rfl,by omega,le_,HS'.out,HI.out.1,HI.out.2,rfl⟩
   case round=>
    obtain⟨j,l2,rfl,haj,hji,hs,hl2⟩:=hrel;by_cases hja:a<j
    ·obtain⟨j1,hjj⟩:∃j1,j=j1+1:=⟨j - 1,by omega⟩
     have hll:=hl2.out.1;have h1:=hs.cell (k:=j) (by omega);have h2:=hs.cell (k:=j1) (by omega);rw[HO.out]at h1 h2;have HCA:=hid fun(d:Nat)=>HCM.out.at_ hs d (R32ok.get (k:=j) hl2.out.2.1) (R32ok.get (k:=j1) hl2.out.2.1)
     have f1:=hs.frozen (o+j);have f2:=hs.frozen (o+j1);have hjne:j≠j1:=by omega
     have HS2:=hid hs;have hj1:(j:Int) - 1=(j1:Int):=by omega
     have hj2:j<n:=by omega
     have hj3:j1<n:=by omega
     have hgt:=dT (show(a:Int)<(j:Int) by omega);have HJ:=hid hjj;have HC:=cmp_lt (T.cls (gN l2 j)) (T.cls (gN l2 j1));have HI2:=hid hl2.out;clear hs hll hjj hl2;by_cases hlt2:T.cls (gN l2 j)<T.cls (gN l2 j1)
     ·rw[decide_eq_true hlt2]at HC
      have HSW:=HS2.out.swap (i:=j) (j:=j1) (by rw[HI2.out.1];exact hj2) (by rw[HI2.out.1];exact hj3);rw[HO.out]at HSW;have HSW:=hid HSW;have HIN:Hid ((yS l2 j j1).length=n∧R32ok (yS l2 j j1)∧insJ T.cls a j1 (yS l2 j j1)=insJ T.cls a i l'):=by
       refine⟨by rw[yN];exact HI2.out.1,HI2.out.2.1.swap _ _,?_⟩;have h3:=HI2.out.2.2;have hj:=HJ.out;subst hj;rw[insJ_yes _ _ _ _ hja hlt2]at h3;exact h3
      clear hlt2;generalize gN l2 j=x at *;generalize gN l2 j1=y at *;generalize yS l2 j j1=l3 at *;go_upto_region 4 with fail;go_quiet ((go_at_call 166;exact Calls.quiet_of (HCA.out _)));go_upto_region 6 with fail;go_region;go_wp2_with fail;go_roundw
      case rel=>exact⟨j1,l3,rfl,by omega,by omega,HSW.out.dr ⟨_,rfl⟩,HIN.out⟩
      case measure=>simp[intOf];omega
     ·rw[decide_eq_false hlt2]at HC
      have HIN:Hid (l2=insJ T.cls a i l'):=by
       show _=_;have h3:=HI2.out.2.2;have hj:=HJ.out;subst hj;rw[insJ_no _ _ _ _ hlt2]at h3;exact h3
      have HLR:Hid (l2.length=n∧R32ok l2):=⟨HI2.out.1,HI2.out.2.1⟩;clear hlt2;generalize gN l2 j=x at *;generalize gN l2 j1=y at *;go_upto_region 4 with fail;go_quiet ((go_at_call 166;exact Calls.quiet_of (HCA.out _)));go_wp2_with fail;go_roundw
      case rel=>exact⟨i+1,k - 1,l2,by go_num,by omega,by omega,HS2.out.dr ⟨_,rfl⟩,HLR.out.1,HLR.out.2,by have:=HN.out.1;omega,by rw[HIN.out];exact HN.out.2⟩
      case measure=>simp[intOf];omega
    ·have hf:=dF (show¬(a:Int)<(j:Int) by omega)
     have HIN:Hid (l2=insJ T.cls a i l'):=by
      show _=_;have h3:=hl2.out.2.2;rw[insJ_stop _ _ _ _ (by omega)]at h3;exact h3
     have HLR:Hid (l2.length=n∧R32ok l2):=⟨hl2.out.1,hl2.out.2.1⟩;have HS2:=hid hs;clear hs hl2;go_upto_region 4 with fail;go_quiet (fail);go_wp2_with fail;go_roundw
     case rel=>exact⟨i+1,k - 1,l2,by go_num,by omega,by omega,HS2.out.dr ⟨_,rfl⟩,HLR.out.1,HLR.out.2,by have:=HN.out.1;omega,by rw[HIN.out];exact HN.out.2⟩
     case measure=>simp[intOf];omega
  ·have HE:Hid (l'=insM T.cls a b l):=by
    have h:=hl'.out.2.2.2;rw[insL_stop _ _ _ _ _ _ hlt]at h;exact h
   have HS':=hid hs;clear hs hl';go_wp2_with fail;go_end0;rw[←HE.out];exact⟨rfl,HS'.out⟩
theorem upM_yes (i c k:Nat)(l:List Int)(h:k+1<i):upM i (c+1) k l=upM i c (k+1) (yS l k (k+1)):=by show(if _ then _ else _)=_;rw[if_pos h]
theorem upM_no (i c k:Nat)(l:List Int)(h:¬k+1<i):upM i c k l=l:=by cases c with
 |zero=>rfl
 |succ c=>show(if _ then _ else _)=_;rw[if_neg h]
theorem downM_yes (i k:Nat)(l:List Int)(h:i<k+1):downM i (k+1) l=downM i k (yS l (k+1) k):=by show(if _ then _ else _)=_;rw[if_pos h]
theorem downM_no (i k:Nat)(l:List Int)(h:¬i<k):downM i k l=l:=by cases k with
 |zero=>rfl
 |succ k=>show(if _ then _ else _)=_;rw[if_neg h]
theorem sym1_any (wT:World)(tb g:Nat)(T:TM)(R n c a m b:Nat)(vp vs:List Value)(l:List Int)(w0 w:World)(hcm:Cm wT w0 tb g T R)(h:Sx w0 w R vp l vs)(hln:l.length=n)(h32:R32ok l)(_hnc:n≤c)(_hc:c≤9223372036854775807)(hn40:n≤1099511627776)(hbn:b≤n)(hma:m=a+1)(hmb:m<b):
 Calls Tryz.prog 207 #[.slice (some ⟨R,vp.length,none⟩) n c,.int .i64 (a:Int),.int .i64 (m:Int),.int .i64 (b:Int),clV tb] w fun e w'=>e=.returned (.tuple #[])∧Sx w0 w' R vp (upM (bsP (fun h=>decide (T.cls (gN l h)<T.cls (gN l a))) (b - m) m b) (b - a) a l) vs:=by
 obtain⟨HL,HS,HCM,H32⟩:=hid4 hln h hcm h32;have e1:((m:Int) - a==1)=true:=by simp;omega
 have ham:a<m:=by omega
 have HMA:=hid hma;clear hln h hcm h32 hma;obtain⟨q,hq⟩:∃q,q=bsP (fun h=>decide (T.cls (gN l h)<T.cls (gN l a))) (b - m) m b:=⟨_,rfl⟩;have hqi:=bsP_in (fun h=>decide (T.cls (gN l h)<T.cls (gN l a))) (b - m) m b (by omega);rw[←hq]at hqi⊢;have HQ:=hid hq;obtain⟨hq1,hq2⟩:=hqi;clear hq;generalize hvo:vp.length=o at *;have HO:=hid hvo;clear hvo;unfold clV;go_enter Tryz.func207,Tryz.ntmps207;go_wp2_with fail;go_loopw [10,11] (fun u v wr=>∃i j k:Nat,u=.int .i64 i∧v=.int .i64 j∧m≤i∧i≤j∧j≤b∧Sx w0 wr R vp l vs∧Hid (q=bsP (fun h=>decide (T.cls (gN l h)<T.cls (gN l a))) k i j∧j - i≤k)) (fun u v _=>(intOf v - intOf u).toNat)
 case atStart=>exact⟨m,b,b - m,rfl,rfl,le_,by omega,le_,HS.out,HQ.out,le_⟩
 case round=>
  obtain⟨i,j,k,rfl,rfl,hmi,hij,hjb,hs,hbs⟩:=hrel;by_cases hlt:i<j
  ·have h1:=hs.cell (k:=(i+j) / 2) (by rw[HL.out];omega)
   have h2:=hs.cell (k:=a) (by rw[HL.out];omega);rw[HO.out]at h1 h2;have HCA:=hid fun(d:Nat)=>HCM.out.at_ hs d (R32ok.get (k:=(i+j) / 2) H32.out) (R32ok.get (k:=a) H32.out)
   have hm1:(i+j) / 2<n:=by omega
   have hm2:a<n:=by omega
   have HS2:=hid hs;have HC:=cmp_lt (T.cls (gN l ((i+j) / 2))) (T.cls (gN l a));have hbo:=hbs.out;clear hs hbs;by_cases hp:T.cls (gN l ((i+j) / 2))<T.cls (gN l a)
   ·have HN:Hid (q=bsP (fun h=>decide (T.cls (gN l h)<T.cls (gN l a))) (k - 1) ((i+j) / 2+1) j∧j - ((i+j) / 2+1)≤k - 1):=⟨by rw[hbo.1];exact bsP_yes _ hlt hbo.2 (by simpa using hp),by omega⟩
    rw[decide_eq_true hp]at HC;clear hp hbo;go_upto_region 5 with fail;go_quiet ((go_at_call 166;exact Calls.quiet_of (HCA.out _)));go_wp2_with fail;go_roundw
    case rel=>exact⟨(i+j) / 2+1,j,k - 1,by rw[show((i:Int)+(j:Int)) / 2+1=(((i+j) / 2+1:Nat):Int) by omega],rfl,by omega,by omega,hjb,HS2.out.dr ⟨_,rfl⟩,HN.out⟩
    case measure=>simp[intOf];omega
   ·have HN:Hid (q=bsP (fun h=>decide (T.cls (gN l h)<T.cls (gN l a))) (k - 1) i ((i+j) / 2)∧(i+j) / 2 - i≤k - 1):=⟨by rw[hbo.1];exact bsP_no _ hlt hbo.2 (by simpa using hp),by omega⟩
    rw[decide_eq_false hp]at HC;clear hp hbo;go_upto_region 5 with fail;go_quiet ((go_at_call 166;exact Calls.quiet_of (HCA.out _)));go_wp2_with fail;go_roundw
    case rel=>exact⟨i,(i+j) / 2,k - 1,rfl,by rw[show((i:Int)+(j:Int)) / 2=(((i+j) / 2:Nat):Int) by omega],hmi,by omega,by omega,HS2.out.dr ⟨_,rfl⟩,HN.out⟩
    case measure=>simp[intOf];omega
  ·have hij':i=j:=by omega
   subst hij';have hqi:q=i:=by have:=hbs.out.1;rw[bsP_stop _ _ _ _ (by omega)]at this;exact this
   subst hqi;have HS2:=hid hs;clear hs hbs HQ;obtain⟨wo,hwo⟩:∃wo:World,wo=wr:=⟨_,rfl⟩;subst hwo;obtain⟨q1,hq1a,hq1b⟩:∃q1,q≤q1+1∧q1+1≤q:=⟨q - 1,by omega,by omega⟩;have eq1:(q:Int) - 1=(q1:Int):=by omega
   go_wp2_with fail;go_loopw [13] (fun u wr=>∃(k:Nat) (cc:Nat) (l2:List Int),u=.int .i64 k∧a≤k∧k≤q1∧Sx w0 wr R vp l2 vs∧Hid (l2.length=n∧q≤k+cc∧upM q cc k l2=upM q (b - a) a l)) (fun u _=>q - (intOf u).toNat)
   case atStart=>exact⟨a,b - a,l,rfl,le_,by omega,HS2.out,HL.out,by omega,rfl⟩
   case round=>
    obtain⟨k,cc,l2,rfl,hak,hkq,hs,hl2⟩:=hrel;by_cases hlt2:k<q1
    ·have hll:=hl2.out.1
     have h1:=hs.cell (k:=k) (by omega);have h2:=hs.cell (k:=k+1) (by omega);have f1:=hs.frozen (o+k);have f2:=hs.frozen (o+(k+1));have hsw:=hs.swap (i:=k) (j:=k+1) (by omega) (by omega);rw[HO.out]at h1 h2 hsw;have HSW:=hid hsw;have HN:Hid ((yS l2 k (k+1)).length=n∧q≤k+1+(cc - 1)∧upM q (cc - 1) (k+1) (yS l2 k (k+1))=upM q (b - a) a l):=by
      have h3:=hl2.out.2;obtain⟨c1,rfl⟩:∃c1,cc=c1+1:=⟨cc - 1,by omega⟩;rw[upM_yes _ _ _ _ (by omega)]at h3;exact⟨by rw[yN];exact hll,by omega,h3.2⟩
     have hk1:(k:Int)+1=((k+1:Nat):Int):=by omega
     have hk2:k<n:=by omega
     have hk3:k+1<n:=by omega
     have hk4:k≠k+1:=by omega
     clear hs hll hl2 hsw;generalize gN l2 k=x at *;generalize gN l2 (k+1)=y at *;generalize yS l2 k (k+1)=l3 at *;have HK1:=hid (show k+1≤q1 by omega);have hk5:k<k+1:=by omega
     generalize k+1=k1 at *;go_upto_region 11 with fail;go_region;go_wp2_with fail;go_roundw
     case rel=>exact⟨k1,cc - 1,l3,rfl,by omega,HK1.out,HSW.out.dr ⟨1,rfl⟩,HN.out⟩
     case measure=>simp[intOf];omega
    ·have HE:Hid (l2=upM q (b - a) a l):=by
      have h3:=hl2.out.2.2;rw[upM_no _ _ _ _ (by omega)]at h3;exact h3
     have HS3:=hid hs;clear hs hl2;go_wp2_with fail;refine bodyPost_ret (v:=.tuple #[]) (by simp[results,Tryz.results207,go_sem]) rfl ?_;rw[←HE.out];exact⟨rfl,HS3.out⟩
theorem sym2_any (wT:World)(tb g:Nat)(T:TM)(R n c a m b:Nat)(vp vs:List Value)(l:List Int)(w0 w:World)(hcm:Cm wT w0 tb g T R)(h:Sx w0 w R vp l vs)(hln:l.length=n)(h32:R32ok l)(_hnc:n≤c)(_hc:c≤9223372036854775807)(hn40:n≤1099511627776)(hbn:b≤n)(hbm:b=m+1)(ham:a<m)(h1m:m - a≠1):
 Calls Tryz.prog 207 #[.slice (some ⟨R,vp.length,none⟩) n c,.int .i64 (a:Int),.int .i64 (m:Int),.int .i64 (b:Int),clV tb] w fun e w'=>e=.returned (.tuple #[])∧Sx w0 w' R vp (downM (bsP (fun h=>!decide (T.cls (gN l m)<T.cls (gN l h))) (m - a) a m) m l) vs:=by
 obtain⟨HL,HS,HCM,H32⟩:=hid4 hln h hcm h32;have e1:((m:Int) - a==1)=false:=by simp;omega
 have e2:((b:Int) - m==1)=true:=by simp;omega
 have hmb:m<b:=by omega
 clear hln h hcm h32 hbm h1m;obtain⟨q,hq⟩:∃q,q=bsP (fun h=>!decide (T.cls (gN l m)<T.cls (gN l h))) (m - a) a m:=⟨_,rfl⟩;have hqi:=bsP_in (fun h=>!decide (T.cls (gN l m)<T.cls (gN l h))) (m - a) a m (by omega);rw[←hq]at hqi⊢;have HQ:=hid hq;obtain⟨hq1,hq2⟩:=hqi;clear hq;generalize hvo:vp.length=o at *;have HO:=hid hvo;clear hvo;unfold clV;go_enter Tryz.func207,Tryz.ntmps207;go_wp2_with fail;go_loopw [14,15] (fun u v wr=>∃i j k:Nat,u=.int .i64 i∧v=.int .i64 j∧a≤i∧i≤j∧j≤m∧Sx w0 wr R vp l vs∧Hid (q=bsP (fun h=>!decide (T.cls (gN l m)<T.cls (gN l h))) k i j∧j - i≤k)) (fun u v _=>(intOf v - intOf u).toNat)
 case atStart=>exact⟨a,m,m - a,rfl,rfl,le_,by omega,le_,HS.out,HQ.out,le_⟩
 case round=>
  obtain⟨i,j,k,rfl,rfl,hmi,hij,hjb,hs,hbs⟩:=hrel;by_cases hlt:i<j
  ·have h1:=hs.cell (k:=(i+j) / 2) (by rw[HL.out];omega)
   have h2:=hs.cell (k:=m) (by rw[HL.out];omega);rw[HO.out]at h1 h2;have HCA:=hid fun(d:Nat)=>HCM.out.at_ hs d (R32ok.get (k:=m) H32.out) (R32ok.get (k:=(i+j) / 2) H32.out)
   have hm1:(i+j) / 2<n:=by omega
   have hm2:m<n:=by omega
   have HS2:=hid hs;have HC:=cmp_lt (T.cls (gN l m)) (T.cls (gN l ((i+j) / 2)));have hbo:=hbs.out;clear hs hbs;by_cases hp:¬T.cls (gN l m)<T.cls (gN l ((i+j) / 2))
   ·have HN:Hid (q=bsP (fun h=>!decide (T.cls (gN l m)<T.cls (gN l h))) (k - 1) ((i+j) / 2+1) j∧j - ((i+j) / 2+1)≤k - 1):=⟨by rw[hbo.1];exact bsP_yes _ hlt hbo.2 (by simpa using hp),by omega⟩
    rw[decide_eq_false hp]at HC;clear hp hbo;go_upto_region 17 with fail;go_quiet ((go_at_call 166;exact Calls.quiet_of (HCA.out _)));go_wp2_with fail;go_roundw
    case rel=>exact⟨(i+j) / 2+1,j,k - 1,by rw[show((i:Int)+(j:Int)) / 2+1=(((i+j) / 2+1:Nat):Int) by omega],rfl,by omega,by omega,hjb,HS2.out.dr ⟨_,rfl⟩,HN.out⟩
    case measure=>simp[intOf];omega
   ·have HN:Hid (q=bsP (fun h=>!decide (T.cls (gN l m)<T.cls (gN l h))) (k - 1) i ((i+j) / 2)∧(i+j) / 2 - i≤k - 1):=⟨by rw[hbo.1];exact bsP_no _ hlt hbo.2 (by simpa using hp),by omega⟩
    rw[decide_eq_true (Classical.not_not.1 hp)]at HC;clear hp hbo;go_upto_region 17 with fail;go_quiet ((go_at_call 166;exact Calls.quiet_of (HCA.out _)));go_wp2_with fail;go_roundw
    case rel=>exact⟨i,(i+j) / 2,k - 1,rfl,by rw[show((i:Int)+(j:Int)) / 2=(((i+j) / 2:Nat):Int) by omega],hmi,by omega,by omega,HS2.out.dr ⟨_,rfl⟩,HN.out⟩
    case measure=>simp[intOf];omega
  ·have hij':i=j:=by omega
   subst hij';have hqi:q=i:=by have:=hbs.out.1;rw[bsP_stop _ _ _ _ (by omega)]at this;exact this
   subst hqi;have HS2:=hid hs;clear hs hbs HQ;obtain⟨wo,hwo⟩:∃wo:World,wo=wr:=⟨_,rfl⟩;subst hwo;go_wp2_with fail;go_loopw [17] (fun u wr=>∃(k:Nat) (l2:List Int),u=.int .i64 k∧q≤k∧k≤m∧Sx w0 wr R vp l2 vs∧Hid (l2.length=n∧downM q k l2=downM q m l)) (fun u _=>(intOf u).toNat)
   case atStart=>exact⟨m,l,rfl,by omega,le_,HS2.out,HL.out,rfl⟩
   case round=>
    obtain⟨k,l2,rfl,hqk,hkm,hs,hl2⟩:=hrel;by_cases hlt2:q<k
    ·obtain⟨k1,hkk⟩:∃k1,k=k1+1:=⟨k - 1,by omega⟩
     have hll:=hl2.out.1;have h1:=hs.cell (k:=k) (by omega);have h2:=hs.cell (k:=k1) (by omega);have f1:=hs.frozen (o+k);have f2:=hs.frozen (o+k1);have hsw:=hs.swap (i:=k) (j:=k1) (by omega) (by omega);rw[HO.out]at h1 h2 hsw;have HSW:=hid hsw;have HN:Hid ((yS l2 k k1).length=n∧downM q k1 (yS l2 k k1)=downM q m l):=by
      have h3:=hl2.out.2;subst hkk;rw[downM_yes _ _ _ (by omega)]at h3;exact⟨by rw[yN];exact hll,h3⟩
     have hk1:(k:Int) - 1=(k1:Int):=by omega
     have hk2:k<n:=by omega
     have hk3:k1<n:=by omega
     have hk4:k≠k1:=by omega
     have HK1:=hid (show q≤k1∧k1<k by omega);clear hs hll hl2 hsw hkk;generalize gN l2 k=x at *;generalize gN l2 k1=y at *;generalize yS l2 k k1=l3 at *;go_upto_region 23 with fail;go_region;go_wp2_with fail;go_roundw
     case rel=>exact⟨k1,l3,rfl,HK1.out.1,by have:=HK1.out.2;omega,HSW.out.dr ⟨1,rfl⟩,HN.out⟩
     case measure=>have:=HK1.out.2;simp[intOf];omega
    ·have HE:Hid (l2=downM q m l):=by
      have h3:=hl2.out.2;rw[downM_no _ _ _ hlt2]at h3;exact h3
     have HS3:=hid hs;clear hs hl2;go_wp2_with fail;refine bodyPost_ret (v:=.tuple #[]) (by simp[results,Tryz.results207,go_sem]) rfl ?_;rw[←HE.out];exact⟨rfl,HS3.out⟩
end Go.Proofs.YtociefdcccokjaaGreat

/-
  Lemmas for TopMacro. Conditions: each states its own.
-/
import Derived.RangeFuncNested
import Derived.RangeFuncBound
import Derived.RangeFuncBox
import Derived.RangeFuncCalls
import Derived.RangeFuncLeaves
import Derived.Shelf.Abstract
import Derived.WalkKit
import Derived.OwnWalkIn
import Derived.TacticsInMore
import Derived.LoopNIn
import Derived.LoopIn
import Derived.RangeFuncWrites
import Derived.Shelf.RegionOpen
import Derived.Sort.QuietIn
import Derived.Sort.LoopGhostIn
import Derived.Sort.CutIn
import Derived.Lib.AppendZeros
import Derived.Test.YtociefdcccokjaaGreatG09
import Derived.Test.YtociefdcccokjaaGreatG14
set_option maxHeartbeats 12800000
set_option maxRecDepth 100000
namespace Go.Proofs.YtociefdcccokjaaGreat
open Go.RowKit Go.Lib
theorem sym_any (wT:World)(tb g:Nat)(T:TM)(R n c:Nat)(vp vs:List Value)(w0:World)(hcm:Cm wT w0 tb g T R)(hnc:n≤c)(hc:c≤9223372036854775807)(hn40:n≤1099511627776):
 ∀(k a m b:Nat) (l:List Int) (w:World),a<m→m<b→b≤n→b - a≤k→l.length=n→R32ok l→Sx w0 w R vp l vs→SymAt tb R n c vp vs w0 T.cls k a m b l w
 |0,a,m,b,l,w,h1,h2,h3,h4,h5,h6,h7=>by omega
 |k+1,a,m,b,l,w,h1,h2,h3,h4,h5,h6,h7=>by
  by_cases e1:m - a=1
  ·unfold SymAt
   have h:=sym1_any wT tb g T R n c a m b vp vs l w0 w hcm h7 h5 h6 hnc hc hn40 h3 (by omega) h2;have e:symM T.cls (k+1) a m b l=upM (bsP (fun h=>decide (T.cls (gN l h)<T.cls (gN l a))) (b - m) m b) (b - a) a l:=by
    show(if _ then _ else _)=_;rw[if_pos e1]
   rw[e];exact h
  ·by_cases e2:b - m=1
   ·unfold SymAt
    have h:=sym2_any wT tb g T R n c a m b vp vs l w0 w hcm h7 h5 h6 hnc hc hn40 h3 (by omega) h1 e1;have e:symM T.cls (k+1) a m b l=downM (bsP (fun h=>!decide (T.cls (gN l m)<T.cls (gN l h))) (m - a) a m) m l:=by
     show(if _ then _ else if _ then _ else _)=_;rw[if_neg e1,if_pos e2]
    rw[e];exact h
   ·exact sym3_any wT tb g T R n c k a m b vp vs l w0 w hcm h7 h5 h6 hnc hc hn40 h3 h1 h2 e1 e2 h4 (fun a m b l w=>sym_any wT tb g T R n c vp vs w0 hcm hnc hc hn40 k a m b l w)
theorem R32ok.insM (f:Int→Int)(a b:Nat){l:List Int}(h:R32ok l):R32ok (insM f a b l):=R32ok.insL f _ _ _ _ h
theorem stA_yes (f:Int→Int)(n k a:Nat)(l:List Int)(h:a+20≤n):stA f n (k+1) a l=stA f n k (a+20) (insM f a (a+20) l):=by show(if _ then _ else _)=_;rw[if_pos h]
theorem stA_no (f:Int→Int)(n k a:Nat)(l:List Int)(h:¬a+20≤n):stA f n k a l=(l,a):=by cases k with
 |zero=>rfl
 |succ k=>show(if _ then _ else _)=_;rw[if_neg h]
theorem stM_yes (f:Int→Int)(n bs k a:Nat)(l:List Int)(h:a+2*bs≤n):stM f n bs (k+1) a l=stM f n bs k (a+2*bs) (symM f (2*bs) a (a+bs) (a+2*bs) l):=by show(if _ then _ else _)=_;rw[if_pos h]
theorem stM_no (f:Int→Int)(n bs k a:Nat)(l:List Int)(h:¬a+2*bs≤n):stM f n bs k a l=(l,a):=by cases k with
 |zero=>rfl
 |succ k=>show(if _ then _ else _)=_;rw[if_neg h]
theorem stB_yes (f:Int→Int)(n k bs:Nat)(l:List Int)(h:bs<n):stB f n (k+1) bs l=stB f n k (2*bs) (stR f n bs l):=by show(if _ then _ else _)=_;rw[if_pos h]
theorem stB_no (f:Int→Int)(n k bs:Nat)(l:List Int)(h:¬bs<n):stB f n k bs l=l:=by cases k with
 |zero=>rfl
 |succ k=>show(if _ then _ else _)=_;rw[if_neg h]
theorem stable_any (wT:World)(tb g:Nat)(T:TM)(R n c:Nat)(vp vs:List Value)(l:List Int)(w0 w:World)(hcm:Cm wT w0 tb g T R)(h:Sx w0 w R vp l vs)(hln:l.length=n)(h32:R32ok l)(hnc:n≤c)(hc:c≤9223372036854775807)(hn40:n≤1099511627776):
 Calls Tryz.prog 192 #[.slice (some ⟨R,vp.length,none⟩) n c,.int .i64 (n:Int),clV tb] w fun e w'=>e=.returned (.tuple #[])∧Sx w0 w' R vp (zS T.cls l) vs:=by
 obtain⟨HL,HS,HCM,H32⟩:=hid4 hln h hcm h32;have HV:Hid (zS T.cls l=stB T.cls n n 20 (insM T.cls (stA T.cls n n 0 l).2 n (stA T.cls n n 0 l).1)):=by show _=_;unfold zS;rw[hln]
 obtain⟨HINS,HSYM⟩:=hid2 (fun(a b:Nat) (l':List Int) (wx:World) (h1:Sx w0 wx R vp l' vs) (h2:l'.length=n) (h3:R32ok l') (h4:b≤n) (h5:a≤b)=>ins_any wT tb g T R n c a b vp vs l' w0 wx hcm h1 h2 h3 hnc hc hn40 h4 h5) (sym_any wT tb g T R n c vp vs w0 hcm hnc hc hn40);clear hln h hcm h32;unfold SymAt at HSYM;generalize hvo:vp.length=o at *;have HO:=hid hvo;clear hvo;unfold clV at HINS HSYM⊢;go_enter Tryz.func192,Tryz.ntmps192;go_wp2_with fail;go_loopw [7,8] (fun u v wr=>∃(a b k:Nat) (l':List Int),u=.int .i64 a∧v=.int .i64 b∧a+20≤b∧b≤a+20∧a≤n∧Sx w0 wr R vp l' vs∧Hid (l'.length=n∧R32ok l'∧n≤a+20*k+19∧stA T.cls n k a l'=stA T.cls n n 0 l)) (fun u _ _=>n - (intOf u).toNat)
 case atStart=>exact⟨0,20,n,l,rfl,rfl,by omega,by omega,Nat.zero_le _,HS.out,HL.out,H32.out,by omega,rfl⟩
 case round=>
  obtain⟨a,b,k,l',rfl,rfl,hab,hba,han,hs,hl'⟩:=hrel;have HS':=hid hs;clear hs;by_cases hlt:b≤n
  ·have HN:Hid ((insM T.cls a b l').length=n∧R32ok (insM T.cls a b l')∧n≤b+20*(k - 1)+19∧stA T.cls n (k - 1) b (insM T.cls a b l')=stA T.cls n n 0 l):=by
    obtain⟨k1,rfl⟩:∃k1,k=k1+1:=⟨k - 1,by have:=hl'.out.2.2.1;omega⟩;have h:=hl'.out;rw[stA_yes _ _ _ _ _ (by omega),show a+20=b by omega]at h;exact⟨by rw[insM_len];exact h.1,R32ok.insM _ _ _ h.2.1,by omega,h.2.2.2⟩
   have HI:=hid (HINS.out a b l' wr HS'.out hl'.out.1 hl'.out.2.1 hlt (by omega));clear hl';generalize insM T.cls a b l'=l2 at *;go_wp2_with fail;refine HI.out.mono ?_;rintro e w1 ⟨rfl,hs1⟩;have HS1:=hid hs1;clear hs1;go_wp2_with fail;go_roundw
   case rel=>exact⟨b,b+20,k - 1,l2,rfl,by go_num,by omega,by omega,hlt,HS1.out,HN.out⟩
   case measure=>simp[intOf];omega
  ·have HE:Hid ((stA T.cls n n 0 l)=(l',a)):=by
    have h:=hl'.out.2.2.2;rw[stA_no _ _ _ _ _ (by omega)]at h;exact h.symm
   have HR:Hid ((insM T.cls a n l').length=n∧R32ok (insM T.cls a n l')):=⟨by rw[insM_len];exact hl'.out.1,R32ok.insM _ _ _ hl'.out.2.1⟩;have HI:=hid (HINS.out a n l' wr HS'.out hl'.out.1 hl'.out.2.1 le_ han);have HV2:Hid (zS T.cls l=stB T.cls n n 20 (insM T.cls a n l')):=by show _=_;rw[HV.out,HE.out]
   clear hl' HE;generalize insM T.cls a n l'=l2 at *;go_wp2_with fail;refine HI.out.mono ?_;rintro e w1 ⟨rfl,hs1⟩;have HS1:=hid hs1;clear hs1 HI HINS HV;go_wp2_with fail;obtain⟨wa,hwa⟩:∃wa:World,wa=w1:=⟨_,rfl⟩;subst hwa;go_loopw [6] (fun u wr=>∃(bs k:Nat) (l':List Int),u=.int .i64 bs∧0<bs∧bs≤2*n+20∧Sx w0 wr R vp l' vs∧Hid (l'.length=n∧R32ok l'∧n≤bs+k∧stB T.cls n k bs l'=zS T.cls l)) (fun u _=>n - (intOf u).toNat)
   case atStart=>exact⟨20,n,l2,rfl,by omega,by omega,HS1.out,HR.out.1,HR.out.2,by omega,HV2.out.symm⟩
   case round=>
    obtain⟨bs,k',l3,rfl,hbs0,hbsn,hs,hl3⟩:=hrel;have HS3:=hid hs;clear hs;by_cases hlt2:bs<n
    ·have HN:Hid (R32ok l3∧l3.length=n∧n≤2*bs+(k' - 1)∧stB T.cls n (k' - 1) (2*bs) (stR T.cls n bs l3)=zS T.cls l):=by
      obtain⟨k1,rfl⟩:∃k1,k'=k1+1:=⟨k' - 1,by have:=hl3.out.2.2.1;omega⟩;have h:=hl3.out;rw[stB_yes _ _ _ _ _ hlt2]at h;exact⟨h.2.1,h.1,by omega,h.2.2.2⟩
     clear hl3;obtain⟨wo,hwo⟩:∃wo:World,wo=wr:=⟨_,rfl⟩;subst hwo;obtain⟨b2,hb2a,hb2b⟩:∃b2:Nat,b2≤2*bs∧2*bs≤b2:=⟨2*bs,by omega,by omega⟩;have hb2c:2*(bs:Int)=(b2:Int):=by omega
     go_wp2_with fail;go_loopw [7,8] (fun u v wr=>∃(a b k2:Nat) (l4:List Int),u=.int .i64 a∧v=.int .i64 b∧a+b2≤b∧b≤a+b2∧a≤n∧Sx w0 wr R vp l4 vs∧Hid (l4.length=n∧R32ok l4∧n≤a+k2∧stM T.cls n bs k2 a l4=stM T.cls n bs n 0 l3)) (fun u _ _=>n - (intOf u).toNat)
     case atStart=>exact⟨0,b2,n,l3,rfl,rfl,by omega,by omega,Nat.zero_le _,HS3.out,HN.out.2.1,HN.out.1,by omega,rfl⟩
     case round=>
      obtain⟨a',b',k2,l4,rfl,rfl,hab',hba',han',hs,hl4⟩:=hrel;have HS4:=hid hs;clear hs;obtain⟨m,hm1,hm2⟩:∃m:Nat,m≤a'+bs∧a'+bs≤m:=⟨a'+bs,by omega,by omega⟩;have hm3:(a':Int)+(bs:Int)=(m:Int):=by omega
      by_cases hlt3:b'≤n
      ·have HN2:Hid ((symM T.cls (2*bs) a' m b' l4).length=n∧R32ok (symM T.cls (2*bs) a' m b' l4)∧n≤b'+(k2 - 1)∧stM T.cls n bs (k2 - 1) b' (symM T.cls (2*bs) a' m b' l4)=stM T.cls n bs n 0 l3):=by
        obtain⟨k1,rfl⟩:∃k1,k2=k1+1:=⟨k2 - 1,by have:=hl4.out.2.2.1;omega⟩;have h:=hl4.out;rw[stM_yes _ _ _ _ _ _ (by omega),show a'+bs=m by omega,show a'+2*bs=b' by omega]at h;exact⟨by rw[vF];exact h.1,R32ok.symM _ _ _ _ _ h.2.1,by omega,h.2.2.2⟩
       have HI:=hid (HSYM.out (2*bs) a' m b' l4 wr (by omega) (by omega) hlt3 (by omega) hl4.out.1 hl4.out.2.1 HS4.out);clear hl4;generalize symM T.cls (2*bs) a' m b' l4=l5 at *;go_wp2_with fail;refine HI.out.mono ?_;rintro e w2 ⟨rfl,hs1⟩;have HS5:=hid hs1;clear hs1;go_wp2_with fail;go_roundw
       case rel=>exact⟨b',b'+b2,k2 - 1,l5,rfl,by go_num,by omega,by omega,hlt3,HS5.out,HN2.out⟩
       case measure=>simp[intOf];omega
      ·have HE2:Hid (stM T.cls n bs n 0 l3=(l4,a')):=by
        have h:=hl4.out.2.2.2;rw[stM_no _ _ _ _ _ _ (by omega)]at h;exact h.symm
       by_cases hmn:m<n
       ·have HR4:Hid (stR T.cls n bs l3=symM T.cls (n - a') a' m n l4):=by
         show _=_;unfold stR;rw[HE2.out];dsimp only;rw[if_pos (by omega),show a'+bs=m by omega]
        have HI:=hid (HSYM.out (n - a') a' m n l4 wr (by omega) hmn le_ (by omega) hl4.out.1 hl4.out.2.1 HS4.out);have HLR:Hid ((stR T.cls n bs l3).length=n∧R32ok (stR T.cls n bs l3)):=by
         rw[HR4.out];exact⟨by rw[vF];exact hl4.out.1,R32ok.symM _ _ _ _ _ hl4.out.2.1⟩
        rw[←HR4.out]at HI;clear hl4 HE2 HR4;generalize stR T.cls n bs l3=l5 at *;go_wp2_with fail;refine HI.out.mono ?_;rintro e w2 ⟨rfl,hs1⟩;have HS5:=hid hs1;clear hs1;go_wp2_with fail;go_roundw
        case rel=>exact⟨2*bs,k' - 1,l5,by go_num,by omega,by omega,HS5.out,HLR.out.1,HLR.out.2,HN.out.2.2.1,HN.out.2.2.2⟩
        case measure=>simp[intOf];omega
       ·have HR4:Hid (stR T.cls n bs l3=l4):=by
         show _=_;unfold stR;rw[HE2.out];dsimp only;rw[if_neg (by omega)]
        have HLR:Hid (l4.length=n∧R32ok l4∧stB T.cls n (k' - 1) (2*bs) l4=zS T.cls l):=⟨hl4.out.1,hl4.out.2.1,by rw[←HR4.out];exact HN.out.2.2.2⟩;clear hl4 HE2 HR4;go_wp2_with fail;go_roundw
        case rel=>exact⟨2*bs,k' - 1,l4,by go_num,by omega,by omega,HS4.out,HLR.out.1,HLR.out.2.1,HN.out.2.2.1,HLR.out.2.2⟩
        case measure=>simp[intOf];omega
    ·have HE:Hid (l3=zS T.cls l):=by
      have h:=hl3.out.2.2.2;rw[stB_no _ _ _ _ _ hlt2]at h;exact h
     clear hl3;go_wp2_with fail;go_end0;rw[←HE.out];exact⟨rfl,HS3.out⟩
theorem sort_any (wT:World)(tb g:Nat)(T:TM)(R n c:Nat)(vp vs:List Value)(l:List Int)(w0 w:World)(hcm:Cm wT w0 tb g T R)(h:Sx w0 w R vp l vs)(hln:l.length=n)(h32:R32ok l)(hnc:n≤c)(hc:c≤9223372036854775807)(hn40:n≤1099511627776):
 Calls Tryz.prog 165 #[.slice (some ⟨R,vp.length,none⟩) n c,clV tb] w fun e w'=>e=.returned (.tuple #[])∧Sx w0 w' R vp (zS T.cls l) vs:=by
 have HI:=hid (stable_any wT tb g T R n c vp vs l w0 w hcm h hln h32 hnc hc hn40);unfold clV at HI⊢;clear hcm h hln h32;go_enter Tryz.func165,Tryz.ntmps165;go_wp2_with fail;refine HI.out.mono ?_;rintro e w1 ⟨rfl,hs⟩;have HS:=hid hs;clear hs;go_wp2_with fail;go_end0;exact⟨rfl,HS.out⟩
section
open Go.RowKit Go.Shelf
attribute [local go_sem] Oper.semAt_some
theorem wide_fn (f:FuncId):Fence.wide.fn f↔True:=⟨fun _=>trivial,fun _=>trivial⟩
attribute [local go_sem] wide_fn
def RowP (T:TM)(A:Option Addr)(n:Nat)(zs:List Bool)(W:World):Prop:=
 n=0∨∃(R:Nat) (l:List Int) (vs:List Value),A=some ⟨R,0,none⟩∧Bx W R (R32 l++vs).toArray 21∧l.length=n∧R32ok l∧patD T l=zs
theorem RowP.kp {T:TM}{A:Option Addr}{n:Nat}{zs:List Bool}{W W':World}(h:RowP T A n zs W)(k:Kp W W'):RowP T A n zs W':=by
 rcases h with h|⟨R,l,vs,h1,h2,h3⟩
 ·exact .inl h
 ·exact .inr ⟨R,l,vs,h1,h2.kp k,h3⟩
theorem RowP.at_ {T:TM}{A:Option Addr}{n:Nat}{zs:List Bool}{W:World}(h:RowP T A n zs W){k:Nat}(hk:k<n):∃R x,A=some ⟨R,0,none⟩∧W.cell? ⟨R,k,none⟩=some (.int .i32 x)∧r32 x∧zs[k]? =some (decide (T.cls x≠0)):=by
 rcases h with h|⟨R,l,vs,h1,h2,h3,h4,h5⟩
 ·omega
 ·have hl:k<l.length:=by omega
  refine⟨R,l[k],h1,?_,h4 _ (List.getElem_mem hl),?_⟩
  ·rw[h2.cell]
   have:=mid_get [] vs l hl;simp only[List.nil_append,List.length_nil,Nat.zero_add]at this;rw[this];unfold gN;rw[List.getElem?_eq_getElem hl];rfl
  ·rw[←h5]
   unfold patD;rw[List.getElem?_map,List.getElem?_eq_getElem hl];rfl
structure MKp (n₀ bL bT:Nat)(T:TM)(A:Option Addr)(n:Nat)(zs:List Bool)(W W':World):Prop where
 below:Below n₀ W W'
 boxL:W'.heap[bL]? =W.heap[bL]?
 boxT:W'.heap[bT]? =W.heap[bT]?
 size:W.heap.size≤W'.heap.size
 row:RowP T A n zs W→RowP T A n zs W'
section
variable {n₀ bL bT n:Nat}{T:TM}{A:Option Addr}{zs:List Bool}{W W' W'':World}
theorem MKp.refl (W:World):MKp n₀ bL bT T A n zs W W:=⟨Below.refl _ _,rfl,rfl,le_,fun h=>h⟩
theorem MKp.trans (h:MKp n₀ bL bT T A n zs W W')(k:MKp n₀ bL bT T A n zs W' W''):MKp n₀ bL bT T A n zs W W'':=
 ⟨h.below.trans k.below,k.boxL.trans h.boxL,k.boxT.trans h.boxT,Nat.le_trans h.size k.size,fun hr=>k.row (h.row hr)⟩
theorem MKp.of_kp (h:Kp W W')(hn:n₀≤W.heap.size)(hL:bL<W.heap.size)(hT:bT<W.heap.size):MKp n₀ bL bT T A n zs W W':=
 ⟨h.below.mono hn,h.block _ hL,h.block _ hT,h.size,fun hr=>hr.kp h⟩
theorem MKp.b {w:World}(hn:n₀≤w.heap.size)(hL:bL<w.heap.size)(hT:bT<w.heap.size)(W:World)(l:Nat)(o o':Obj)(hl:w.heap.size≤l)(h:W.heap[l]? =some o)(h1:o.isCells=false)(h2:o.isWalk=false):MKp n₀ bL bT T A n zs W (W.putObj l o'):=by
 have hs:(W.putObj l o').heap.size=W.heap.size:=by simp[World.putObj]
 refine⟨belowK_b hn W l o o' hl h h1 h2,World.putObj_heap_other (by omega),World.putObj_heap_other (by omega),by omega,fun hr=>?_⟩;rcases hr with hr|⟨R,l',vs,e1,e2,e3⟩
 ·exact .inl hr
 ·refine .inr ⟨R,l',vs,e1,?_,e3⟩
  refine(World.putObj_heap_other ?_).trans e2;rintro rfl;rw[show W.heap[R]? =_ from e2]at h;cases h
  cases h1
end
theorem rzZ_step {zs:List Bool}{i:Nat}(h:zs[i]? =some true):rzZ zs i=rzZ zs (i+1)+1:=by
 have hl:=(List.getElem?_eq_some_iff.1 h).1;unfold rzZ;rw[List.drop_eq_getElem_cons hl,List.takeWhile_cons];have :zs[i]=true:=by rw[List.getElem?_eq_getElem hl]at h;injection h
 rw[this];rfl
theorem rzZ_stop {zs:List Bool}{i:Nat}(h:zs[i]? =some false):rzZ zs i=0:=by
 have hl:=(List.getElem?_eq_some_iff.1 h).1;unfold rzZ;rw[List.drop_eq_getElem_cons hl,List.takeWhile_cons];have :zs[i]=false:=by rw[List.getElem?_eq_getElem hl]at h;injection h
 rw[this];rfl
theorem rzZ_end {zs:List Bool}{i:Nat}(h:zs.length≤i):rzZ zs i=0:=by unfold rzZ;rw[List.drop_of_length_le h];rfl
theorem mkZ_step {zs:List Bool}{k i:Nat}(h:i<zs.length):mkZ zs (k+1) i=(if 1<rzZ zs i then[(i,i+rzZ zs i)]else[])++mkZ zs k (i+rzZ zs i+1):=by show(if _ then _ else _)=_;rw[if_pos h]
theorem mkZ_end {zs:List Bool}{k i:Nat}(h:¬i<zs.length):mkZ zs k i=[]:=by cases k with
 |zero=>rfl
 |succ k=>show(if _ then _ else _)=_;rw[if_neg h]
structure MkR (zs:List Bool) where
 fr:Nat
 tt:Nat
 ok:fr<tt∧tt≤zs.length∧∀k,fr≤k→k<tt→zs[k]? =some true
def MkR.p {zs:List Bool}(x:MkR zs):Nat×Nat:=(x.fr,x.tt)
theorem marks1_in (n:Nat)(hn:1≤n)(l bL bT n₀ N c g:Nat)(T:TM)(A:Option Addr)(zs:List Bool)(J Jx:List (MkR zs)→World→Prop)(W:World)(hJA:AbidesFrom W.heap.size J)(hN:N≤1099511627776)(hzs:zs.length=N)
 (hY:∀pre x W,J pre W→pre.length<N→YieldAt Fence.wide (n - 1) Tryz.prog l #[.int .i64 (x.fr:Int),.int .i64 (x.tt:Int)] W fun e W'=>
  (e=.returned (.bool true)∧J (pre++[x]) W'∧MKp n₀ bL bT T A N zs W W')∨(e=.returned (.bool false)∧Jx (pre++[x]) W'))
 (hbL:Bx W bL #[.slice A N c] 41)(hbT:Bx W bT #[.pointer (some ⟨g,0,none⟩)] 24)(hn₀:n₀≤W.heap.size)(hTab:∀W',Below n₀ W W'→TabAt W' g T)(hrow:RowP T A N zs W)(h0:J [] W):
 CallsIn Fence.wide n Tryz.prog 191 #[.func (.yield l) #[] #[],.pointer (some ⟨bL,0,none⟩),.pointer (some ⟨bT,0,none⟩)] W fun e W'=>(∃v,e=.returned v)∧
  ((∃ys:List (MkR zs),ys.map MkR.p=mkZ zs N 0∧J ys W')∨(∃pre:List (MkR zs),True∧Jx pre W')):=by
 refine callsIn_of_wp Tryz.func191 rfl trivial ?_ rfl;simp only[Tryz.ntmps191,List.size_toArray,List.length_cons,List.length_nil,Nat.reduceAdd,Nat.reduceSub,Array.replicate_succ,Array.replicate_zero,List.push_toArray,List.append_toArray,List.nil_append,List.cons_append];obtain⟨HT,HZ,HRW,HY⟩:=hid4 hTab hzs hrow hY;have hlL:=hbL.lt;have hlT:=hbT.lt;clear hTab hzs hrow hY
 gi_wp2
 gi_loopg [4] (N+1) (fun gg iv wr=>∃(i k:Nat) (pre:List (MkR zs)),i+gg=N+1∧iv=.int .i64 i∧Hid (pre.map MkR.p++mkZ zs k i=mkZ zs N 0∧N≤i+k)∧J pre wr∧MKp n₀ bL bT T A N zs W wr)
 case atStart=>exact⟨0,N,[],by omega,rfl,⟨rfl,by omega⟩,h0,MKp.refl _⟩
 case round=>
  obtain⟨i,k,pre,hg,rfl,hpre,hJ,hk⟩:=hrel;have hbLr:Bx wr bL #[.slice A N c] 41:=hk.boxL.trans hbL;have hbTr:Bx wr bT #[.pointer (some ⟨g,0,none⟩)] 24:=hk.boxT.trans hbT;have hcL:=hbLr.cell 0;obtain⟨HRr,HTr⟩:=hid2 (hk.row HRW.out) (HT.out wr hk.below);by_cases hlt:i<N
  ·obtain⟨w1,hw1⟩:∃x:World,x=wr:=⟨_,rfl⟩
   subst hw1
   gi_upto_region 3 with fail
   gi_wp2
   gi_loopg [4] (N - i) (fun gg iv wr=>∃j:Nat,j+gg=N∧i≤j∧iv=.int .i64 j∧Hid (rzZ zs i=(j - i)+rzZ zs j∧∀k,i≤k→k<j→zs[k]? =some true)∧Dr w1 wr)
   case atStart=>exact⟨i,by omega,le_,rfl,⟨by omega,fun k h1 h2=>by omega⟩,Dr.refl _⟩
   case round=>
    obtain⟨j,hjg,hij,rfl,hrz,hd⟩:=hrel;have hRj:=HRr.out.kp hd.kp;have hcT:=(hbTr.kp hd.kp).cell 0;have hcL2:=(hbLr.kp hd.kp).cell 0;obtain⟨kb,hkb⟩:∃kb:Bool,kb=(zs[j]?).getD false:=⟨_,rfl⟩;have HKB:=hid hkb;clear hkb hcL
    gi_upto_region 4 with fail
    gi_cut [25]from 39 (fun v wx=>v=.bool kb∧Dr wr wx)
    case first=>
     by_cases hjN:j<N
     ·obtain⟨R,x,rfl,hcx,hx32,hzx⟩:=hRj.at_ hjN
      have hdc:=dT (show(j:Int)<(N:Int) by omega);have HCL:=hid fun(d:Nat)=>class_d g T x (wr.drewN d) ((HTr.out.kp hd.kp).kp ((Kp.refl _).drewN d)) hx32
      by_cases hc:T.cls x=0
      ·have hq:(T.cls x != 0)=false:=by simpa using hc
       have HK:Hid (kb=false):=by show _=_;rw[HKB.out,hzx];simp[hc]
       clear hc hzx
       gi_quiet ((gi_at_call 61;refine CallsIn.quiet_of (callsIn_wide.2 (HCL.out _))))
       gi_wp2
       gi_meet
       exact⟨by rw[HK.out],⟨_,rfl⟩⟩
      ·have hq:(T.cls x != 0)=true:=by simpa using hc
       have HK:Hid (kb=true):=by show _=_;rw[HKB.out,hzx];simp[hc]
       clear hc hzx
       gi_quiet ((gi_at_call 61;refine CallsIn.quiet_of (callsIn_wide.2 (HCL.out _))))
       gi_wp2
       gi_meet
       exact⟨by rw[HK.out],⟨_,rfl⟩⟩
     ·have hdc:=dF (show¬(j:Int)<(N:Int) by omega)
      have HK:Hid (kb=false):=by show _=_;rw[HKB.out,List.getElem?_eq_none (by rw[HZ.out];omega)];rfl
      gi_quiet (fail)
      gi_wp2
      gi_meet
      exact⟨by rw[HK.out],⟨_,rfl⟩⟩
    case rest=>
     obtain⟨rfl,hd2⟩:=hcut;have hdr:=hd.trans hd2;obtain⟨w5,hw5⟩:∃x:World,x=wc:=⟨_,rfl⟩;subst hw5;clear hd hd2 hcT hcL2 hRj;cases kb with
     |true=>
      have hzj:zs[j]? =some true:=by
       have h:=HKB.out;rcases hq:zs[j]? with _|b
       ·rw[hq]at h;cases h
       ·rw[hq]at h;rw[show b=true from h.symm]
      have hjN:j<N:=by have:=(List.getElem?_eq_some_iff.1 hzj).1;rw[HZ.out]at this;exact this
      have HR1:Hid (rzZ zs i=(j+1 - i)+rzZ zs (j+1)∧∀k,i≤k→k<j+1→zs[k]? =some true):=by
       have h1:=hrz.out;have h2:=rzZ_step hzj;refine⟨by omega,fun k hk1 hk2=>?_⟩;by_cases hkj:k=j
       ·rw[hkj];exact hzj
       ·exact h1.2 k hk1 (by omega)
      clear hzj hrz
      gi_wp2
      gi_roundg (N - (j+1))
      case measure=>omega
      case rel=>exact⟨j+1,by omega,by omega,by go_num,HR1.out,hdr⟩
     |false=>
      have hrz0:rzZ zs j=0:=by
       have h:=HKB.out;rcases hq:zs[j]? with _|b
       ·exact rzZ_end (by rw[List.getElem?_eq_none_iff]at hq;exact hq)
       ·rw[hq]at h;rw[show b=false from h.symm]at hq;exact rzZ_stop hq
      have HRZ:Hid (rzZ zs i=j - i):=by show _=_;have:=hrz.out.1;omega
      have HAL:=hid hrz.out.2;have hjN:j≤N:=by omega
      have hk1:1≤k:=by have:=hpre.out.2;omega
      obtain⟨k1,rfl⟩:∃k1,k=k1+1:=⟨k - 1,by omega⟩;have hst:=mkZ_step (zs:=zs) (k:=k1) (i:=i) (by rw[HZ.out];exact hlt);rw[HRZ.out,show i+(j - i)=j by omega]at hst;have HST:=hid hst;have hJ5:J pre w5:=hJA pre w1 w5 none hJ ⟨hdr.kp.os,hdr.kp.tape,hdr.kp.output,hdr.kp.size,fun k hk _=>hdr.kp.block k hk⟩ (fun r e=>by cases e);have hk5:MKp n₀ bL bT T A N zs W w5:=hk.trans (MKp.of_kp hdr.kp (by have:=hk.below.size;have:=hk.size;omega) hbLr.lt hbTr.lt);clear hst hrz0 hrz;by_cases h1:1<j - i
      ·have hgt:=dT (show(1:Int)<(j:Int) - (i:Int) by omega)
       obtain⟨x0,hx1,hx2⟩:∃x:MkR zs,x.fr=i∧x.tt=j:=⟨⟨i,j,by omega,by rw[HZ.out];exact hjN,HAL.out⟩,rfl,rfl⟩;have HP1:Hid ((pre++[x0]).map MkR.p++mkZ zs k1 (j+1)=mkZ zs N 0∧N≤j+1+k1):=by
        have h2:=hpre.out;rw[HST.out,if_pos h1]at h2;refine⟨?_,by omega⟩;rw[List.map_append,List.map_cons,List.map_nil,show MkR.p x0=(i,j) by unfold MkR.p;rw[hx1,hx2],List.append_assoc];exact h2.1
       have hpl:pre.length<N:=by
        have h2:=congrArg List.length HP1.out.1;have h3:=mkZ_len zs N 0;simp only[List.length_append,List.length_map,List.length_singleton]at h2;omega
       obtain⟨fn,tmps,assign,body,hy,hR⟩:=HY.out pre x0 w5 hJ5 hpl;rw[hx1,hx2]at hy;clear hx1 hx2;obtain⟨HR,HK5⟩:=hid2 hR hk5;clear hR hk5 hJ5 hpre hJ
       gi_wp2
       refine HR.out.mono ?_;rintro e W3 (⟨rfl,hJ3,hk3⟩|⟨rfl,hJx3⟩)
       ·have HK35:=hid (HK5.out.trans hk3)
        have HJ3:=hid hJ3;clear hJ3 hk3
        gi_wp2
        gi_roundg (N+1 - (j+1))
        case measure=>omega
        case rel=>exact⟨j+1,k1,_,by omega,by go_num,HP1.out,HJ3.out,HK35.out⟩
       ·have HJX:=hid hJx3
        clear hJx3
        gi_wp2
        refine bodyPost_ret (results_none rfl _ _ _) rfl ?_;exact⟨⟨_,rfl⟩,.inr ⟨_,trivial,HJX.out⟩⟩
      ·have hgt:=dF (show¬(1:Int)<(j:Int) - (i:Int) by omega)
       have HP1:Hid (pre.map MkR.p++mkZ zs k1 (j+1)=mkZ zs N 0∧N≤j+1+k1):=by
        have h2:=hpre.out;rw[HST.out,if_neg h1]at h2;exact⟨by simpa using h2.1,by omega⟩
       obtain⟨HK5,HJ5⟩:=hid2 hk5 hJ5;clear hk5 hJ5 hpre hJ
       gi_wp2
       gi_roundg (N+1 - (j+1))
       case measure=>omega
       case rel=>exact⟨j+1,k1,pre,by omega,by go_num,HP1.out,HJ5.out,HK5.out⟩
  ·have hlti:¬((i:Int)<(N:Int)):=by omega
   have HPE:Hid (pre.map MkR.p=mkZ zs N 0):=by
    have h2:=hpre.out.1;rw[mkZ_end (by rw[HZ.out];exact hlt),List.append_nil]at h2;exact h2
   gi_wp2
   go_end0;exact⟨⟨_,rfl⟩,.inl ⟨pre,HPE.out,hJ⟩⟩
end
section
open Go.RowKit Go.Shelf
attribute [local go_sem] Oper.semAt_some wide_fn
theorem marks_in (n:Nat)(g:Nat)(A:Option Addr)(m c:Nat)(w:World):
 CallsIn Fence.wide n Tryz.prog 164 #[.pointer (some ⟨g,0,none⟩),.slice A m c] w fun e w'=>e=.returned (.func (.func 191) #[] #[.pointer (some ⟨w.heap.size+1,0,none⟩),.pointer (some ⟨w.heap.size,0,none⟩)])∧
  w'=(w.alloc (.cells #[.pointer (some ⟨g,0,none⟩)] 24)).alloc (.cells #[.slice A m c] 41):=by
 refine callsIn_of_wp Tryz.func164 rfl trivial ?_ rfl;simp only[Tryz.ntmps164,List.size_toArray,List.length_cons,List.length_nil,Nat.reduceAdd,Nat.reduceSub,Array.replicate_succ,Array.replicate_zero,List.push_toArray,List.append_toArray,List.nil_append,List.cons_append]
 gi_wp2
 go_ret;exact⟨rfl,rfl⟩
theorem marks_stops (n:Nat)(hn:1≤n)(bL bT N c g:Nat)(T:TM)(A:Option Addr)(zs:List Bool)(wb w:World)(hk:Kp wb w)(hN:N≤1099511627776)(hzs:zs.length=N)(hTab:TabAt wb g T)
 (hbL:Bx w bL #[.slice A N c] 41)(hbT:Bx w bT #[.pointer (some ⟨g,0,none⟩)] 24)(hrow:RowP T A N zs w):
 SeqStopsK Fence.wide n Tryz.prog 191 #[.pointer (some ⟨bL,0,none⟩),.pointer (some ⟨bT,0,none⟩)] (fun x:MkR zs=>#[.int .i64 (x.fr:Int),.int .i64 (x.tt:Int)]) (MKp wb.heap.size bL bT T A N zs) (fun ys=>ys.map MkR.p=mkZ zs N 0) (fun _=>True) N w:=fun l J Jx W hW hJ _ hY h0=>by
 have hkW:Kp w W:=hW;exact marks1_in n hn l bL bT wb.heap.size N c g T A zs J Jx W hJ hN hzs hY (hbL.kp hkW) (hbT.kp hkW) (by have:=hk.size;have:=hW.size;omega) (fun W' h=>hTab.kp (hk.below.trans ((hW.mono hk.size).trans h))) (hrow.kp hkW) h0
def OrdI (T:TM)(w:World)(s bo g n c:Nat)(A:Option Addr)(l:List Int)(zs:List Bool)(pre:List (MkR zs))(W:World):Prop:=
 Below s w W∧bo+2<W.heap.size∧Bx W s #[.pointer (some ⟨g,0,none⟩)] 24∧Bx W bo #[.slice A n c] 41∧
  (n=0∨∃(R:Nat) (vs:List Value),A=some ⟨R,0,none⟩∧s<R∧R<bo∧Bx W R (R32 ((pre.map MkR.p).foldl (xL T) l)++vs).toArray 21)∧
  ((pre.map MkR.p).foldl (xL T) l).length=n∧R32ok ((pre.map MkR.p).foldl (xL T) l)∧patD T ((pre.map MkR.p).foldl (xL T) l)=zs
theorem ordI_own (T:TM)(w:World)(s bo g n c B:Nat)(A:Option Addr)(l:List Int)(zs:List Bool)(hs:s≤w.heap.size)(hB:s≤B):OwnFrom B (fun(pre:List (MkR zs)) W=>OrdI T w s bo g n c A l zs pre W):=by
 rintro pre X Y row ⟨hbel,hbo,h1,h2,h3,h4⟩ hg hr;have hr':∀r,row=some r→∃o:Obj,X.heap[r]? =some o∧o.isCells=false:=fun r e=>(hr r e).2
 have hc:∀{b:Nat} {cs:Array Value} {t:TypeId},Bx X b cs t→Bx Y b cs t:=fun h=>h.grown hg fun e=>by
  obtain⟨o,ho,hc⟩:=hr' _ e;rw[show X.heap[_]? =_ from h]at ho;cases ho;cases hc
 refine⟨ownFrom_below (β:=Unit) hs hB () X Y row hbel hg hr,Nat.lt_of_lt_of_le hbo hg.size,hc h1,hc h2,?_,h4⟩;rcases h3 with h3|⟨R,vs,e1,e2,e3,e4⟩
 ·exact .inl h3
 ·exact .inr ⟨R,vs,e1,e2,e3,hc e4⟩
theorem sortF_len (T:TM){l:List Int}{p:Nat×Nat}(h1:p.1<p.2)(h2:p.2≤l.length):(xL T l p).length=l.length:=by
 unfold xL;simp only[List.length_append,List.length_take,List.length_drop,stableM_len,cutM_len l p.1 p.2 h2];omega
theorem sortF_32 (T:TM){l:List Int}(p:Nat×Nat)(h:R32ok l):R32ok (xL T l p):=by
 refine R32ok.app (R32ok.app (h.sub fun x hx=>List.mem_of_mem_take hx) (h.sub fun x hx=>?_)) (h.sub fun x hx=>List.mem_of_mem_drop hx);have:=(SubL.stable T.cls (cutM l p.1 p.2)).2 x hx;unfold cutM at this;exact List.mem_of_mem_take (List.mem_of_mem_drop this)
theorem row_parts (l:List Int)(vs:List Value){a b:Nat}(h1:a≤b)(_h2:b≤l.length):R32 l++vs=R32 (l.take a)++R32 (cutM l a b)++(R32 (l.drop b)++vs):=by
 have e3:l=l.take a++cutM l a b++l.drop b:=by
  unfold cutM;rw[List.append_assoc,List.drop_take];have h5:l.drop a=(l.drop a).take (b - a)++l.drop b:=by
   have h6:=(List.take_append_drop (b - a) (l.drop a)).symm;rw[List.drop_drop,show a+(b - a)=b by omega]at h6;exact h6
  rw[←h5,List.take_append_drop]
 conv=>lhs;rw[e3]
 rw[←zM,←zM];simp only[List.append_assoc]
theorem ord_end {T:TM}{w W W':World}{s bo g n c R:Nat}{l l':List Int}{zs:List Bool}{vs:List Value}{pre:List (MkR zs)}{x:MkR zs}{B:Nat}(hs0:s=w.heap.size)(hbel:Below s w W)(hbo:bo+2<W.heap.size)(hbt:Bx W s #[.pointer (some ⟨g,0,none⟩)] 24)(hbb:Bx W bo #[.slice (some ⟨R,0,none⟩) n c] 41)(hR1:s<R)(hR2:R<bo)
 (hrow:Bx W R (R32 l'++vs).toArray 21)(hl':l'=(pre.map MkR.p).foldl (xL T) l)(hlen:l'.length=n)(h32:R32ok l')(hpat:patD T l'=zs)
 (hsx:Sx W W' R (R32 (l'.take x.fr)) (zS T.cls (cutM l' x.fr x.tt)) (R32 (l'.drop x.tt)++vs)):
 KeepsFrom B W W'∧MKp w.heap.size (bo+2) (bo+1) T (some ⟨R,0,none⟩) n zs W W'∧OrdI T w s bo g n c (some ⟨R,0,none⟩) l zs (pre++[x]) W':=by
 obtain⟨h1,h2⟩:=hsx;have hx:=x.ok;have hxl:x.tt≤l'.length:=by rw[←vG T,hpat];exact hx.2.1
 have hrow':Bx W' R (R32 (xL T l' x.p)++vs).toArray 21:=by
  have e:R32 (xL T l' x.p)++vs=R32 (l'.take x.fr)++R32 (zS T.cls (cutM l' x.fr x.tt))++(R32 (l'.drop x.tt)++vs):=by
   show R32 (l'.take x.fr++zS T.cls (cutM l' x.fr x.tt)++l'.drop x.tt)++vs=_;rw[←zM,←zM];simp only[List.append_assoc]
  rw[e];exact h1
 have hfold:((pre++[x]).map MkR.p).foldl (xL T) l=xL T l' x.p:=by rw[List.map_append,List.foldl_append,←hl'];rfl
 have hpat':patD T (xL T l' x.p)=zs:=by
  rw[patD_sort T (show x.p.1<x.p.2 from hx.1) hxl (fun k h3 h4=>by rw[hpat];exact hx.2.2 k h3 h4)];exact hpat
 have hlen':(xL T l' x.p).length=n:=by rw[sortF_len T (show x.p.1<x.p.2 from hx.1) hxl];exact hlen
 have h32':=sortF_32 T x.p h32;have hblk:∀k,k<W.heap.size→k≠R→W'.heap[k]? =W.heap[k]? :=fun k hk hn=>h2.block k hk hn
 have hbelW:Below w.heap.size W W':=⟨h2.os,h2.tape,h2.output,h2.size,fun k hk=>hblk k (by have:=hbel.size;omega) (by omega)⟩;refine⟨⟨h2.size,fun k o _ hk ho=>?_⟩,⟨hbelW,?_,?_,h2.size,fun _=>.inr ⟨R,_,vs,rfl,hrow',hlen',h32',hpat'⟩⟩,?_,Nat.lt_of_lt_of_le hbo h2.size,h2.bx hbt (by show s≠R;omega),h2.bx hbb (by show bo≠R;omega),.inr ⟨R,vs,rfl,hR1,hR2,by rw[hfold];exact hrow'⟩,by rw[hfold];exact hlen',by rw[hfold];exact h32',by rw[hfold];exact hpat'⟩
 ·refine(hblk k (Array.getElem?_eq_some_iff.1 hk).1 ?_).trans hk
  rintro rfl;rw[show W.heap[k]? =_ from hrow]at hk;cases hk
  cases ho
 ·exact hblk _ hbo (by omega)
 ·exact hblk _ (by omega) (by omega)
 ·rw[hs0]at hbel⊢
  exact hbel.trans hbelW
theorem order_any (F:Nat→Prop)(g:Nat)(T:TM)(A:Option Addr)(n c:Nat)(l:List Int)(w:World)(hT:TabAt w g T)(hl:Ru w F A n c l)(h32:R32ok l)(hn:n≤1099511627776):
 Calls Tryz.prog 137 #[.pointer (some ⟨g,0,none⟩),.slice A n c] w (RetRu (orderD T l) w):=by
 obtain⟨HT,HL,H32,HC⟩:=hid4 hT hl.len h32 (vE F A n c (R32 l) (w.alloc (.cells #[.pointer (some ⟨g,0,none⟩)] 24)) (hl.kp ((Kp.refl w).alloc _)) (zQ _) hn);clear hT hl h32;refine(callsIn_wide (n:=3)).1 ?_;refine callsIn_of_wp_marks Tryz.func137 rfl trivial ?_ rfl;simp only[Tryz.ntmps137,List.size_toArray,List.length_cons,List.length_nil,Nat.reduceAdd,Nat.reduceSub,Array.replicate_succ,Array.replicate_zero,List.push_toArray,List.append_toArray,List.nil_append,List.cons_append];have bt:=Bx.new w #[.pointer (some ⟨g,0,none⟩)] 24;have ka:=(Kp.refl w).alloc (.cells #[.pointer (some ⟨g,0,none⟩)] 24);have hza:(w.alloc (.cells #[.pointer (some ⟨g,0,none⟩)] 24)).heap.size=w.heap.size+1:=by simp
 gi_upto_region 1 with fail
 generalize(w.alloc (.cells #[.pointer (some ⟨g,0,none⟩)] 24))=wa at *
 gi_upto_region 2 with(gi_at_call 41;refine(callsIn_wide.2 HC.out).mono ?_;rintro e w1 ⟨A1,n1,c1,rfl,ho,k1⟩)
 have hn1:n1=n:=by have h1:=ho.len;rw[zG,HL.out]at h1;omega
 subst hn1;have bt1:=bt.kp k1;have hw1:w.heap.size<w1.heap.size:=bt1.lt;have kw1:=ka.trans k1;obtain⟨t0,_⟩:=bt1.one;have ha0:∀o:Obj,(w1.alloc o).cell? ⟨w.heap.size,0,none⟩=some (.pointer (some ⟨g,0,none⟩)):=fun o=>zE ((Kp.refl w1).alloc o) t0
 gi_wp2_with (gi_at_call 164;refine(marks_in _ _ _ _ _ _).mono ?_;rintro e w' ⟨rfl,rfl⟩)
 have bO:=Bx.new w1 #[.slice A1 n1 c1] 41;have bT:=Bx.new (w1.alloc (.cells #[.slice A1 n1 c1] 41)) #[.pointer (some ⟨g,0,none⟩)] 24;have bL:=Bx.new ((w1.alloc (.cells #[.slice A1 n1 c1] 41)).alloc (.cells #[.pointer (some ⟨g,0,none⟩)] 24)) #[.slice A1 n1 c1] 41;rw[World.size_alloc]at bT bL;rw[World.size_alloc]at bL;have k0:Kp w1 (((w1.alloc (.cells #[.slice A1 n1 c1] 41)).alloc (.cells #[.pointer (some ⟨g,0,none⟩)] 24)).alloc (.cells #[.slice A1 n1 c1] 41)):=(((Kp.refl w1).alloc _).alloc _).alloc _;have bO':=(bO.alloc (.cells #[.pointer (some ⟨g,0,none⟩)] 24)).alloc (.cells #[.slice A1 n1 c1] 41);have bT':=bT.alloc (.cells #[.slice A1 n1 c1] 41);have hzw:(((w1.alloc (.cells #[.slice A1 n1 c1] 41)).alloc (.cells #[.pointer (some ⟨g,0,none⟩)] 24)).alloc (.cells #[.slice A1 n1 c1] 41)).heap.size=w1.heap.size+3:=by simp
 have bt2:=bt1.kp k0;have ho0:=ho.kp k0;have kw0:=kw1.trans k0;have hol:∀r,zB A1=some r→r<w1.heap.size:=fun r e=>(ho.lt r e).2
 generalize(((w1.alloc (.cells #[.slice A1 n1 c1] 41)).alloc (.cells #[.pointer (some ⟨g,0,none⟩)] 24)).alloc (.cells #[.slice A1 n1 c1] 41))=w0 at *;generalize w1.heap.size=bo at *;have hrow0:n1=0∨∃(R:Nat) (vs:List Value),A1=some ⟨R,0,none⟩∧w.heap.size<R∧R<bo∧Bx w0 R (R32 l++vs).toArray 21:=by
  rcases Nat.eq_zero_or_pos n1 with h0|h0
  ·exact .inl h0
  ·obtain⟨gr,cur,hA,hgb,hbx,_,_,_,htk⟩:∃g cur,A1=some ⟨g,0,none⟩∧wa.heap.size≤g∧Bx w0 g cur 21∧n1≤c1∧c1≤maxLen∧cur.size=c1*1∧cur.toList.take (n1*1)=R32 l:=by
    rcases ho0.2 with⟨_,h1⟩|⟨g',cap,cur,hv,h1,h2,h3,h4,h5,h6⟩
    ·omega
    ·cases hv
     exact⟨g',cur,rfl,h1,h2,h3,h4,h5,h6⟩
   refine .inr ⟨gr,cur.toList.drop n1,hA,by omega,hol gr (by rw[hA];rfl),?_⟩;rw[Nat.mul_one]at htk;rw[←htk,List.take_append_drop];exact hbx
 have hcap1:=ho.cap.2;have hnc1:=ho.cap.1;unfold maxLen at hcap1;have hr0:RowP T A1 n1 (patD T l) w0:=by
  rcases hrow0 with h|⟨R,vs,h1,_,_,h2⟩
  ·exact .inl h
  ·exact .inr ⟨R,l,vs,h1,h2,HL.out,H32.out,rfl⟩
 refine wpIn_rangeFunc_ownH rfl (by omega) (gf:=191) (lb:=#[.pointer (some ⟨bo+1+1,0,none⟩),.pointer (some ⟨bo+1,0,none⟩)]) rfl trivial (enters_of Tryz.func191 (by kernel_rfl) rfl)
  (marks_stops (3 - 1) (by omega) (bo+2) (bo+1) n1 c1 g T A1 (patD T l) w w0 kw0 hn (by rw[vG];exact HL.out) HT.out bL bT' hr0) MKp.trans (MKp.b kw0.size (by omega) (by omega)) (Below.refl _ _) (fun _=>rfl)
  (fun pre W=>OrdI T w w.heap.size bo g n1 c1 A1 l (patD T l) pre W) (fun _ _ _=>False) (ordI_own T w w.heap.size bo g n1 c1 _ A1 l (patD T l) le_ kw0.size) (fun _ _ _ _ _ hs _ _=>hs)
  ⟨kw0,by omega,bt2,bO',hrow0,HL.out,H32.out,rfl⟩
  (fun x a' _=>a'={tmps:=#[.pointer (some ⟨g,0,none⟩),.slice A n1 c,.pointer (some ⟨w.heap.size,0,none⟩),undef,.slice none 0 0,.pointer (some ⟨bo,0,none⟩),.int .i64 (x.fr:Int),.int .i64 (x.tt:Int),.slice A n1 c,.slice A1 n1 c1,.pointer (some ⟨g,0,none⟩),.slice A1 n1 c1,.func (.func 191) #[] #[.pointer (some ⟨bo+1+1,0,none⟩),.pointer (some ⟨bo+1,0,none⟩)],.int .i64 (x.fr:Int),.int .i64 (x.tt:Int),undef,undef,undef,undef,undef,undef,undef],defers:=[]}) (fun x a' _ _ _ _ h _ _=>h) ?assign ?body ?done ?stop
 case assign=>
  intro l1 pre x W K hI hK
  gi_wp2
  exact hK _ _ (KeepsFrom.refl _ _) (MKp.refl _) hI rfl
 case body=>
  rintro l1 pre x a' W hl hr ⟨hbel,hbo,h1,h2,h3,h4,h5,h6⟩ rfl hlt;rcases h3 with h3|⟨R,vs,rfl,hR1,hR2,hbx⟩
  ·omega
  ·have hx:=x.ok
   have hxl:x.tt≤n1:=by have:=hx.2.1;rw[vG,HL.out]at this;exact this
   obtain⟨l',hl'⟩:∃l',l'=(pre.map MkR.p).foldl (xL T) l:=⟨_,rfl⟩;rw[←hl']at hbx h4 h5 h6;have HE:=hid (fun(W':World) (hsx:Sx W W' R (R32 (l'.take x.fr)) (zS T.cls (cutM l' x.fr x.tt)) (R32 (l'.drop x.tt)++vs))=>ord_end (B:=w0.heap.size) rfl hbel hbo h1 h2 hR1 hR2 hbx hl' h4 h5 h6 hsx);have hvp:(R32 (l'.take x.fr)).length=x.fr:=by rw[zG,List.length_take];omega
   have hsx0:Sx W W R (R32 (l'.take x.fr)) (cutM l' x.fr x.tt) (R32 (l'.drop x.tt)++vs):=⟨by rw[←row_parts l' vs (by omega) (by omega)];exact hbx,Mu.refl _⟩;have HS:=hid (sort_any w w.heap.size g T R (x.tt - x.fr) (c1 - x.fr) (R32 (l'.take x.fr)) (R32 (l'.drop x.tt)++vs) (cutM l' x.fr x.tt) W W ⟨HT.out,hbel,by omega,h1.cell 0,by omega⟩ hsx0 (cutM_len l' _ _ (by omega)) (h5.sub fun y hy=>List.mem_of_mem_take (List.mem_of_mem_drop hy)) (by omega) (by omega) (by omega));rw[hvp]at HS;unfold clV at HS;obtain⟨p0,_⟩:=h2.one;have hf1:x.fr≤x.tt:=by omega
   have hf2:x.tt≤c1:=by omega
   have hf3:x.fr<c1:=by omega
   clear HL H32 ho ho0 hcap1 hrow0 hr0 hl' hbx h1 h2 h4 h5 h6 hbel hsx0 hvp hx
   gi_wp2_with (gi_at_call 165;refine(callsIn_wide.2 HS.out).mono ?_;rintro e W3 ⟨rfl,hs⟩;have HW:=hid hs;clear hs)
   exact HE.out W3 HW.out
 case done=>
  rintro D ys W hD hys ⟨hbel,hbo,h1,h2,h3,h4,h5,h6⟩ hK;obtain⟨p0,_⟩:=h2.one;have hzs:(patD T l).length=n1:=by rw[vG];exact HL.out
  have hord:(ys.map MkR.p).foldl (xL T) l=orderD T l:=by rw[hys,←HL.out];exact order_eq T l
  rw[hord]at h3 h4;have hnc:∀r,some D=some r→∃o:Obj,W.heap[r]? =some o∧o.isCells=false:=fun r e=>by cases e;exact⟨_,hK,rfl⟩
  have hfin:∀{b:Nat} {cs:Array Value} {t:TypeId},Bx W b cs t→Bx (W.putObj D (.deferred none)) b cs t:=fun h=>(World.putObj_heap_other (by rintro rfl;rw[show W.heap[_]? =_ from h]at hK;cases hK)).trans h
  have k6:=hbel.trans (belowK_b (w:=w) le_ W D _ (.deferred none) (by have:=kw0.size;omega) hK rfl rfl);have HLL:=hid h4;have HRR:Hid (n1=0∨∃(R:Nat) (vs:List Value),A1=some ⟨R,0,none⟩∧w.heap.size<R∧R<bo∧Bx (W.putObj D (.deferred none)) R (R32 (orderD T l)++vs).toArray 21):=by
   rcases h3 with h|⟨R,vs,e1,e2,e3,e4⟩
   ·exact .inl h
   ·exact .inr ⟨R,vs,e1,e2,e3,hfin e4⟩
  clear HL H32 ho ho0 hrow0 hr0 h1 h2 h3 h4 h5 h6 hord hys
  gi_wp2
  refine⟨by simp,.inl ⟨_,_,rfl,run_takeDeferred hK,?_⟩⟩;refine⟨_,results_tmp rfl _ _ _,A1,n1,c1,rfl,?_,k6⟩;rcases HRR.out with h0|⟨R,vs,rfl,hR1,hR2,hb⟩
  ·have hnil:orderD T l=[]:=List.eq_nil_of_length_eq_zero (by rw[HLL.out];exact h0)
   rw[hnil];exact⟨hnc1,by unfold maxLen;omega,by rw[h0];rfl,fun h=>by omega⟩
  ·refine⟨hnc1,by unfold maxLen;omega,by rw[zG,Nat.mul_one];exact HLL.out,fun _=>⟨⟨R,0,none⟩,rfl,by unfold From;dsimp only;omega,hb.lt,fun j u hu=>?_⟩⟩
   have e:(⟨R,0,none⟩:Addr).add j=⟨R,j,none⟩:=by unfold Addr.add;split<;>simp_all
   rw[e,hb.cell];have hj:j<(R32 (orderD T l)).length:=(List.getElem?_eq_some_iff.1 hu).1;rw[List.getElem?_toArray,List.getElem?_append_left hj];exact hu
 case stop=>
  rintro D c' pre W hD _ h _;exact h.elim
end
theorem splitH_32 {r:Int}:R32ok (yD r):=by
 intro x hx;unfold yD at hx;unfold r32
 split at hx
 ·rename_i hs
  have hb:44032≤r∧r<55204:=by unfold sylB at hs;simpa using hs
  split at hx
  ·simp at hx
   rcases hx with rfl|rfl<;>omega
  ·simp at hx
   rcases hx with rfl|rfl|rfl<;>omega
 ·simp at hx
theorem takeD_32 {T:TM}(hT:T.Ok):∀(d:Nat) {r:Int},r32 r→R32ok (yE T d r)
 |0,r,h=>by
  unfold yE
  split
  ·exact splitH_32
  ·intro x hx;rw[List.mem_singleton]at hx;subst hx;exact h
 |d+1,r,h=>by
  unfold yE
  split
  ·exact splitH_32
  ·split
   ·refine(takeD_32 hT d (hT.pr32 r).1).app ?_
    split
    ·exact R32ok.nil
    ·exact takeD_32 hT d (hT.pr32 r).2
   ·intro x hx;rw[List.mem_singleton]at hx;subst hx;exact h
theorem partsD_32 {T:TM}(hT:T.Ok){l:List Int}(h:R32ok l):R32ok (partsD T l):=by
 intro x hx;unfold partsD at hx;obtain⟨y,hy,hx⟩:=List.mem_flatten.1 hx;obtain⟨r,hr,rfl⟩:=List.mem_map.1 hy;exact takeD_32 hT 8 (h r hr) x hx
theorem ordD_32 {T:TM}:∀(k:Nat) {l:List Int},R32ok l→R32ok (ordD T k l)
 |0,_,h=>h
 |k+1,l,h=>by
  unfold ordD
  split
  ·exact R32ok.nil
  ·refine R32ok.app ?_ (R32ok.app (h.sub fun x hx=>List.mem_of_mem_drop (List.mem_of_mem_take hx)) (ordD_32 k (h.sub fun x hx=>List.mem_of_mem_drop hx)))
   have hr:R32ok (runD T l):=h.sub fun x hx=>(List.takeWhile_prefix _).subset hx
   unfold sortD
   split
   ·exact hr.sub fun x hx=>(SubL.stable T.cls (runD T l)).2 x hx
   ·exact hr
theorem nfdD_32 {T:TM}(hT:T.Ok){l:List Int}(h:R32ok l):R32ok (nfdD T l):=ordD_32 _ (partsD_32 hT h)
theorem nfcC_32 {T:TM}(hT:T.Ok){l:List Int}(h:R32ok l):R32ok (nfcC T l):=runC_32 hT (nfdD_32 hT h)
theorem nfd_any (F:Nat→Prop)(g:Nat)(T:TM)(A:Option Addr)(n c:Nat)(l:List Int)(w:World)(h:TabAt w g T)(hl:Ru w F A n c l)(h32:R32ok l)(hn:n≤268435456):
 Calls Tryz.prog 99 #[.pointer (some ⟨g,0,none⟩),.slice A n c] w (RetRu (nfdD T l) w):=by
 have hle:=hl.le;have hcap:=hl.cap;unfold maxLen at hcap;obtain⟨HT,H32,HL,HRL⟩:=hid4 h h32 hl.len hl;clear h h32 hl;go_enter Tryz.func99,Tryz.ntmps99;go_wp2_with fail;have HK0:Hid (Tk w (w.alloc (.cells #[.pointer (some ⟨g,0,none⟩),.slice none 0 0] 261)) w.heap.size g []):=⟨none,0,0,Bx.new _ _ _,Own.nil _ _ _ _,by simp[zB],(Kp.refl w).alloc _,le_⟩;go_loopw [12] (fun v wr=>∃k:Nat,v=.int .i64 k∧k≤n∧Hid (Tk w wr w.heap.size g (partsD T (l.take k)))) (fun v _=>n - (intOf v).toNat)
 case atStart=>exact⟨0,rfl,Nat.zero_le _,HK0.out⟩
 case round=>
  obtain⟨k,rfl,hkn,htk⟩:=hrel;by_cases hlt:k<n
  ·have hkp:Kp w wr:=by obtain⟨A',n',c',_,_,_,h,_⟩:=htk.out;exact h
   obtain⟨ad,rfl,hck⟩:=(HRL.out.kp hkp).getN hlt;have HX:=hid (H32.out.get (k:=k));have hpl:=partsD_len T (l.take k);have hps:=partsD_snoc T (l.take k) (gN l k);rw[←take_snoc (by rw[HL.out];exact hlt)]at hps;obtain⟨HPS,HTA⟩:=hid2 hps (take_any g T w w.heap.size HT.out 8 (gN l k) (partsD T (l.take k)) wr HX.out le_ (by rw[List.length_take]at hpl;omega) htk.out);clear hpl hps htk hkp;generalize gN l k=x at *;go_wp2_with fail;refine HTA.out.mono ?_;rintro e w1 ⟨rfl,hk1⟩;have HK1:=hid hk1;clear hk1;go_wp2_with fail;go_roundw
   case rel=>exact⟨k+1,by go_num,by omega,by rw[HPS.out];exact HK1.out⟩
   case measure=>simp[intOf];omega
  ·have hkn':k=n:=by omega
   have ht:=htk.out;rw[List.take_of_length_le (by rw[HL.out];omega)]at ht;obtain⟨A1,n1,c1,hb,ho,hr,hkp,hB⟩:=ht;have hlen1:(partsD T l).length=n1:=by have:=ho.len;rw[zG]at this;omega
   have hpl:=partsD_len T l;have hln:=HL.out;have hn1:n1≤1099511627776:=by omega
   have HO:=hid (order_any (From w.heap.size) g T A1 n1 c1 (partsD T l) wr (HT.out.kp hkp) ho.sl (partsD_32 HT.out.ok H32.out) hn1);have hz:=hkp.size;obtain⟨b0,b1,_⟩:=hb.two;clear hlen1 hpl hln htk ho hkn';go_wp2_with fail;refine HO.out.mono ?_;rintro e w1 ⟨A2,n2,c2,rfl,h2,k2⟩;go_wp2_with fail;go_ret;exact⟨A2,n2,c2,rfl,h2.weak (fun j _ h=>by unfold From at h⊢;omega),hkp.trans k2⟩
theorem nfc_any (F:Nat→Prop)(g:Nat)(T:TM)(A:Option Addr)(n c:Nat)(l:List Int)(w:World)(h:TabAt w g T)(hl:Ru w F A n c l)(h32:R32ok l)(hn:n≤268435456):
 Calls Tryz.prog 62 #[.pointer (some ⟨g,0,none⟩),.slice A n c] w (RetRu (nfcC T l) w):=by
 obtain⟨HT,H32,HN⟩:=hid3 h h32 (nfd_any F g T A n c l w h hl h32 hn);have hlen:=nfdD_len T l;have hl1:(nfdD T l).length≤1099511627776:=by rw[hl.len]at hlen;omega
 clear h h32 hlen hl;go_enter Tryz.func62,Tryz.ntmps62;go_wp2_with fail;refine HN.out.mono ?_;rintro e w1 ⟨A1,n1,c1,rfl,h1,k1⟩;have hn1:n1≤1099511627776:=by rw[←h1.len];exact hl1
 have HC:=hid (composeT_any (From w.heap.size) g T A1 n1 c1 (nfdD T l) w1 (HT.out.kp k1) h1 (nfdD_32 HT.out.ok H32.out) hn1);have hz:=k1.size;clear h1;go_wp2_with fail;refine HC.out.mono ?_;rintro e w2 ⟨A2,n2,c2,rfl,h2,k2⟩;go_wp2_with fail;go_ret;exact⟨A2,n2,c2,rfl,h2.weak (fun j _ h=>by unfold From at h⊢;omega),k1.trans k2⟩
theorem stableQ_any (g:Nat)(T:TM)(r:Int)(w:World)(h:TabAt w g T)(hr:r32 r):
 Calls Tryz.prog 208 #[.pointer (some ⟨g,0,none⟩),.int .i32 r] w fun e w'=>e=.returned (.bool (yP T r))∧Kp w w':=by
 obtain⟨v,hv⟩:∃v,v=yP T r:=⟨_,rfl⟩;rw[←hv];have HV:=hid hv;clear hv;obtain⟨HT,HR,HF⟩:=hid3 h hr (full_any g T r w h hr);have hne:0<(yM T r).length:=List.length_pos_iff.2 (takeD_ne T 8 r);obtain⟨HNE,H2⟩:=hid2 hne (show R32ok (yM T r)from takeD_32 h.ok 8 hr);have HH:Hid ((yM T r).headD 0=gN (yM T r) 0):=by show _=_;unfold gN;cases yM T r<;>rfl
 clear h hr hne;go_enter Tryz.func208,Tryz.ntmps208;go_wp2_with fail;refine HF.out.mono ?_;rintro e w1 ⟨A1,n1,c1,rfl,h1,k1⟩;have hn1:0<n1:=by rw[←h1.len];exact HNE.out
 obtain⟨ad,rfl,hck⟩:=h1.getN hn1;have HQ:=hid (H2.out.get (k:=0));clear h1;generalize gN (yM T r) 0=q at *;have i0:∀w,(Instr.index 327 (.agg #[.int .i32 r,.int .i32 q]) (.int .i64 0)).run Tryz.prog w=.ok (.int .i32 r) w:=fun _=>by kernel_rfl
 have i1:∀w,(Instr.index 327 (.agg #[.int .i32 r,.int .i32 q]) (.int .i64 1)).run Tryz.prog w=.ok (.int .i32 q) w:=fun _=>by kernel_rfl
 have HW:=hid k1;clear k1;rw[add_zero]at hck;go_wp2_with fail;go_loopw [14] (fun v wr=>∃k:Nat,v=.int .i64 k∧k≤2∧Kp w wr∧Hid (1≤k→oneQ T r=true)∧Hid (2≤k→oneQ T q=true)) (fun v _=>2 - (intOf v).toNat)
 case atStart=>exact⟨0,rfl,by omega,HW.out,fun h=>by omega,fun h=>by omega⟩
 case round=>
  obtain⟨k,rfl,hk,kr,o1,o2⟩:=hrel;have HTR:=hid (HT.out.kp kr);rcases(show k=0∨k=1∨k=2 by omega)with rfl|rfl|rfl
  ·by_cases hc:(T.cls r != 0)=true
   ·have HN:Hid (v=false):=by
     show _=_;rw[HV.out];unfold yP;rw[HH.out];unfold oneQ;simp at hc;simp[hc]
    have HC:=hid (xD g T r wr HTR.out HR.out);go_wp2_with fail;refine HC.out.mono ?_;rintro e w2 ⟨rfl,k2⟩;go_wp2_with fail;go_ret;exact⟨zD HN.out.symm,kr.trans k2⟩
   ·have hc':(T.cls r != 0)=false:=by simpa using hc
    have HC0:Hid (T.cls r=0):=by show _=_;simpa using hc
    have HC:=hid (xD g T r wr HTR.out HR.out);by_cases hq:(quickQ T r != 0)=true
    ·have HN:Hid (v=false):=by
      show _=_;rw[HV.out];unfold yP;rw[HH.out];unfold oneQ;simp at hq;simp[hq]
     clear hc;go_wp2_with fail;refine HC.out.mono ?_;rintro e w2 ⟨rfl,k2⟩;have HTR2:=hid (HTR.out.kp k2);go_wp2_with fail;refine(of_any g T r w2 HTR2.out HR.out).mono ?_;rintro e w3 ⟨rfl,k3⟩;go_wp2_with fail;go_ret;exact⟨zD HN.out.symm,(kr.trans k2).trans k3⟩
    ·have hq':(quickQ T r != 0)=false:=by simpa using hq
     have HO:Hid (oneQ T r=true):=by
      show _=_;unfold oneQ;simp at hq;simp[hq,HC0.out]
     clear hc hq;go_wp2_with fail;refine HC.out.mono ?_;rintro e w2 ⟨rfl,k2⟩;have HTR2:=hid (HTR.out.kp k2);go_wp2_with fail;refine(of_any g T r w2 HTR2.out HR.out).mono ?_;rintro e w3 ⟨rfl,k3⟩;go_wp2_with fail;go_roundw
     case rel=>exact⟨1,by rfl,by omega,(kr.trans k2).trans k3,fun _=>HO.out,fun h=>absurd h (by omega)⟩
     case measure=>simp[intOf]
  ·by_cases hc:(T.cls q != 0)=true
   ·have HN:Hid (v=false):=by
     show _=_;rw[HV.out];unfold yP;rw[HH.out];unfold oneQ;simp at hc;simp[hc]
    have HC:=hid (xD g T q wr HTR.out HQ.out);go_wp2_with fail;refine HC.out.mono ?_;rintro e w2 ⟨rfl,k2⟩;go_wp2_with fail;go_ret;exact⟨zD HN.out.symm,kr.trans k2⟩
   ·have hc':(T.cls q != 0)=false:=by simpa using hc
    have HC0:Hid (T.cls q=0):=by show _=_;simpa using hc
    have HC:=hid (xD g T q wr HTR.out HQ.out);by_cases hq:(quickQ T q != 0)=true
    ·have HN:Hid (v=false):=by
      show _=_;rw[HV.out];unfold yP;rw[HH.out];unfold oneQ;simp at hq;simp[hq]
     clear hc;go_wp2_with fail;refine HC.out.mono ?_;rintro e w2 ⟨rfl,k2⟩;have HTR2:=hid (HTR.out.kp k2);go_wp2_with fail;refine(of_any g T q w2 HTR2.out HQ.out).mono ?_;rintro e w3 ⟨rfl,k3⟩;go_wp2_with fail;go_ret;exact⟨zD HN.out.symm,(kr.trans k2).trans k3⟩
    ·have hq':(quickQ T q != 0)=false:=by simpa using hq
     have HO:Hid (oneQ T q=true):=by
      show _=_;unfold oneQ;simp at hq;simp[hq,HC0.out]
     clear hc hq;go_wp2_with fail;refine HC.out.mono ?_;rintro e w2 ⟨rfl,k2⟩;have HTR2:=hid (HTR.out.kp k2);go_wp2_with fail;refine(of_any g T q w2 HTR2.out HQ.out).mono ?_;rintro e w3 ⟨rfl,k3⟩;go_wp2_with fail;go_roundw
     case rel=>exact⟨2,by rfl,by omega,(kr.trans k2).trans k3,fun _=>o1.out (by omega),fun h=>HO.out⟩
     case measure=>simp[intOf]
  ·have HN:Hid (v=true):=by
    show _=_;rw[HV.out];unfold yP;rw[HH.out,o1.out (by omega),o2.out (by omega)];rfl
   go_wp2_with fail;go_ret;exact⟨zD HN.out.symm,kr⟩
theorem back_any (F:Nat→Prop)(g:Nat)(T:TM)(A:Option Addr)(n c:Nat)(l:List Int)(at_:Nat)(w:World)(h:TabAt w g T)(hl:Ru w F A n c l)(h32:R32ok l)(ha:at_≤n):
 Calls Tryz.prog 193 #[.pointer (some ⟨g,0,none⟩),.slice A n c,.int .i64 (at_:Int)] w fun e w'=>e=.returned (.int .i64 (yG T l at_:Int))∧Kp w w':=by
 obtain⟨v,hv⟩:∃v,v=yG T l at_:=⟨_,rfl⟩;rw[←hv];have HV:=hid hv;clear hv;have hle:=hl.le;have hcap:=hl.cap;unfold maxLen at hcap;obtain⟨HT,H32,HRL⟩:=hid3 h h32 hl;clear h h32 hl;by_cases h0:(((at_:Nat):Int)==0)=true
 ·have HN:Hid (v=0):=by show _=_;simp at h0;subst h0;rw[HV.out];rfl
  go_enter Tryz.func193,Tryz.ntmps193;go_wp2_with fail;go_ret;exact⟨zC (by rw[HN.out];rfl),Kp.refl w⟩
 ·have h0':(((at_:Nat):Int)==0)=false:=by simpa using h0
  obtain⟨m,hm⟩:∃m,at_=m+1:=⟨at_ - 1,by simp at h0;omega⟩;have hm1:(at_:Int) - 1=(m:Int):=by omega
  have HM:Hid (v=yG T l (m+1)):=by show _=_;rw[HV.out,hm]
  have hmn:m<n:=by omega
  clear h0 hm HV;go_enter Tryz.func193,Tryz.ntmps193;go_wp2_with fail;go_loopw [2] (fun u wr=>∃k:Nat,u=.int .i64 k∧k<n∧Kp w wr∧Hid (v=yG T l (k+1))) (fun u _=>(intOf u).toNat)
  case atStart=>exact⟨m,rfl,hmn,Kp.refl w,HM.out⟩
  case round=>
   clear hm1 h0';obtain⟨k,rfl,hk,kr,hvk⟩:=hrel;by_cases hk0:((k:Int)>0)
   ·obtain⟨ad,rfl,hck⟩:=(HRL.out.kp kr).getN hk
    have HX:=hid (H32.out.get (k:=k));have HST:=hid (stableQ_any g T (gN l k) wr (HT.out.kp kr) HX.out);have hgl:l[k]?.getD 0=gN l k:=rfl;have HGL:=hid hgl;obtain⟨x,hx⟩:∃x,x=gN l k:=⟨_,rfl⟩;rw[←hx]at hck HST;have HE:=hid hx;clear hx hgl;cases hs:yP T x
    ·have HN:Hid (v=yG T l k):=by
      show _=_;rw[hvk.out];conv=>lhs;unfold yG
      rw[HGL.out,←HE.out,hs,if_neg (by simp;omega)]
     have HS:=hid hs;obtain⟨j,hj⟩:∃j,k=j+1:=⟨k - 1,by omega⟩;have hj1:(k:Int) - 1=(j:Int):=by omega
     have HJ:=hid hj;clear hs hj;go_wp2_with fail;refine HST.out.mono ?_;rintro e w2 ⟨rfl,k2⟩;rw[HS.out];go_wp2_with fail;go_roundw
     case rel=>exact⟨j,rfl,by omega,kr.trans k2,by rw[←HJ.out];exact HN.out⟩
     case measure=>have:=HJ.out;simp[intOf];omega
    ·have HN:Hid (v=k):=by
      show _=_;rw[hvk.out];unfold yG;rw[HGL.out,←HE.out,hs,if_pos (by simp)]
     have HS:=hid hs;clear hs;go_wp2_with fail;refine HST.out.mono ?_;rintro e w2 ⟨rfl,k2⟩;rw[HS.out];go_wp2_with fail;go_ret;exact⟨zC (by rw[HN.out]),kr.trans k2⟩
   ·have HN:Hid (v=k):=by
     have :k=0:=by omega
     show _=_;rw[hvk.out];unfold yG;rw[if_pos (by simp[this])]
    go_wp2_with fail;go_ret;exact⟨zC (by rw[HN.out]),kr⟩
theorem onL_at (T:TM)(l:List Int)(k:Nat)(h:l.length≤k):onL T l k=k:=by
 unfold onL;rw[List.drop_eq_nil_of_le h];rfl
theorem onL_yes (T:TM)(l:List Int)(k:Nat)(h:k<l.length)(hs:yP T (gN l k)=true):onL T l k=k:=by
 unfold onL;rw[List.drop_eq_getElem_cons h];unfold gN at hs;rw[List.getElem?_eq_getElem h]at hs;rw[List.takeWhile_cons_of_neg (by simpa using hs)];rfl
theorem onL_no (T:TM)(l:List Int)(k:Nat)(h:k<l.length)(hs:yP T (gN l k)=false):onL T l k=onL T l (k+1):=by
 unfold onL;rw[List.drop_eq_getElem_cons h];unfold gN at hs;rw[List.getElem?_eq_getElem h]at hs;rw[List.takeWhile_cons_of_pos (by simpa using hs)];simp only[List.length_cons];omega
theorem on_any (F:Nat→Prop)(g:Nat)(T:TM)(A:Option Addr)(n c:Nat)(l:List Int)(at_:Nat)(w:World)(h:TabAt w g T)(hl:Ru w F A n c l)(h32:R32ok l)(ha:at_≤n):
 Calls Tryz.prog 194 #[.pointer (some ⟨g,0,none⟩),.slice A n c,.int .i64 (at_:Int)] w fun e w'=>e=.returned (.int .i64 (onL T l at_:Int))∧Kp w w':=by
 obtain⟨v,hv⟩:∃v,v=onL T l at_:=⟨_,rfl⟩;rw[←hv];have HV:=hid hv;clear hv;have hle:=hl.le;have hcap:=hl.cap;unfold maxLen at hcap;obtain⟨HT,H32,HL,HRL⟩:=hid4 h h32 hl.len hl;clear h h32 hl;go_enter Tryz.func194,Tryz.ntmps194;go_wp2_with fail;go_loopw [2] (fun u wr=>∃k:Nat,u=.int .i64 k∧k≤n∧Kp w wr∧Hid (v=onL T l k)) (fun u _=>n - (intOf u).toNat)
 case atStart=>exact⟨at_,rfl,ha,Kp.refl w,HV.out⟩
 case round=>
  clear HV;obtain⟨k,rfl,hk,kr,hvk⟩:=hrel;by_cases hlt:k<n
  ·obtain⟨ad,rfl,hck⟩:=(HRL.out.kp kr).getN hlt
   have HX:=hid (H32.out.get (k:=k));have HST:=hid (stableQ_any g T (gN l k) wr (HT.out.kp kr) HX.out);have hyes:=onL_yes T l k (by rw[HL.out];exact hlt);have hno:=onL_no T l k (by rw[HL.out];exact hlt);generalize gN l k=x at *;cases hs:yP T x
   ·have HN:Hid (v=onL T l (k+1)):=by
     show _=_;rw[hvk.out];exact hno hs
    have HS:=hid hs;clear hs hyes hno;go_wp2_with fail;refine HST.out.mono ?_;rintro e w2 ⟨rfl,k2⟩;rw[HS.out];go_wp2_with fail;go_roundw
    case rel=>exact⟨k+1,by go_num,by omega,kr.trans k2,HN.out⟩
    case measure=>simp[intOf];omega
   ·have HN:Hid (v=k):=by
     show _=_;rw[hvk.out];exact hyes hs
    have HS:=hid hs;clear hs hyes hno;go_wp2_with fail;refine HST.out.mono ?_;rintro e w2 ⟨rfl,k2⟩;rw[HS.out];go_wp2_with fail;go_ret;exact⟨zC (by rw[HN.out]),kr.trans k2⟩
  ·have HN:Hid (v=k):=by
    show _=_;rw[hvk.out];exact onL_at T l k (by rw[HL.out];omega)
   go_wp2_with fail;go_ret;exact⟨zC (by rw[HN.out]),kr⟩
theorem grow_any (n:Nat)(w:World)(hn:n≤1099511627776):
 Calls Tryz.prog 200 #[.slice none 0 0,.int .i64 (n:Int)] w fun e w'=>∃A c,e=.returned (.slice A 0 c)∧Own w' w.heap.size 21 1 A 0 c []∧Kp w w':=by
 rcases Nat.eq_zero_or_pos n with rfl|h0
 ·go_enter Tryz.func200,Tryz.ntmps200
  go_wp2_with fail;go_ret;exact⟨none,0,rfl,Own.nil _ _ _ _,Kp.refl w⟩
 ·obtain⟨i0,hi,hzz⟩:=Option.map_eq_some_iff.1 yF
  simp only[Prod.mk.injEq]at hzz;obtain⟨hz0,hz1,hz2⟩:=hzz;have happ:=Lib.run_append_nil_zeros (P:=Tryz.prog) w 41 3 41 21 i0 (.int .i32 0) .i64 .i64 Tryz.underlying41 Tryz.underlying3 hi hz0 n h0 (by omega) (by omega) (by rw[hz2];omega);have hcapge:n≤grownCap w n 0 21:=grownCap_ge w _ 0 _;have hcaple:grownCap w n 0 21≤maxLen:=grownCap_le_maxLen w _ 0 _ (by unfold maxLen;omega);obtain⟨Z,hZ⟩:∃Z,Z=(Builtin.zeroCells (Value.int .i32 0).cells n++Builtin.zeroCells (Value.int .i32 0).cells (grownCap w n 0 21 - n)):=⟨_,rfl⟩;rw[←hZ]at happ;generalize grownCap w n 0 21=cap2 at *;have hZs:Z.size=cap2:=by rw[hZ];simp[size_zeroCells,Value.cells];omega
  have hown:Own (w.drew.alloc (.cells Z 21)) w.heap.size 21 1 (some ⟨w.heap.size,0,none⟩) 0 cap2 []:=
   ⟨rfl,.inr ⟨w.heap.size,cap2,Z,rfl,le_,heap_alloc_new w.drew _,Nat.zero_le _,hcaple,by omega,by simp⟩⟩
  have hk:Kp w (w.drew.alloc (.cells Z 21)):=(Kp.refl w).drew.alloc _;unfold maxLen at hcaple;clear hZ hZs;obtain⟨HO,HK⟩:=hid2 hown hk;clear hown hk hi hz0 hz1 hz2;go_enter Tryz.func200,Tryz.ntmps200;go_wp2_with (at_builtin;refine Lib.wpList_append_run _ rfl _ _ _ _ rfl _ _ rfl rfl _ _ happ ?_);go_ret;exact⟨_,cap2,rfl,HO.out,HK.out⟩
structure RowsAt (w:World)(vs:List Value)(ls:List (List Int)):Prop where
 len:vs.length=ls.length
 row:∀k,k<vs.length→∃A n c,vs[k]? =some (.slice A n c)∧Ru w Any A n c (ls[k]?.getD [])
theorem RowsAt.kp {w w':World}{vs:List Value}{ls:List (List Int)}(h:RowsAt w vs ls)(k:Kp w w'):RowsAt w' vs ls:=
 ⟨h.len,fun j hj=>by obtain⟨A,n,c,h1,h2⟩:=h.row j hj;exact⟨A,n,c,h1,h2.kp k⟩⟩
theorem flat_snoc {ls:List (List Int)}{k:Nat}(h:k<ls.length):(ls.take (k+1)).flatten=(ls.take k).flatten++ls[k]?.getD []:=by
 rw[List.take_succ_eq_append_getElem h,List.flatten_append,List.getElem?_eq_getElem h];simp
theorem flat_le (ls:List (List Int))(k:Nat):(ls.take k).flatten.length≤ls.flatten.length:=by
 conv=>rhs;rw[←List.take_append_drop k ls]
 rw[List.flatten_append,List.length_append];omega
theorem concat_any (F:Nat→Prop)(A:Option Addr)(m c:Nat)(vs:List Value)(ls:List (List Int))(w:World)(hs:Sl w F 1 A m c vs)(hr:RowsAt w vs ls)(hm:m≤1099511627776)(hn:ls.flatten.length≤1099511627776):
 Calls Tryz.prog 184 #[.slice A m c] w (RetRu ls.flatten w):=by
 have hlen:vs.length=m:=by have:=hs.len;omega
 have hll:ls.length=m:=by have:=hr.len;omega
 have hle:=hs.le;have hcap:=hs.cap;unfold maxLen at hcap;obtain⟨HS,HR,HV,HL,HN⟩:=hid5 hs hr hlen hll hn;clear hs hr hlen hll hn;go_enter Tryz.func184,Tryz.ntmps184;go_wp2_with fail;go_loopw [11,3] (fun v u wr=>∃k s:Nat,v=.int .i64 k∧u=.int .i64 s∧k≤m∧Hid (wr=w)∧Hid (s=(ls.take k).flatten.length)) (fun v _ _=>m - (intOf v).toNat)
 case atStart=>exact⟨0,0,rfl,rfl,Nat.zero_le _,rfl,rfl⟩
 case round=>
  obtain⟨k,s,rfl,rfl,hk,hwr,hsum⟩:=hrel;obtain rfl:w=wr:=hwr.out.symm;clear hwr;by_cases hlt:k<m
  ·obtain⟨ad,u,rfl,hu,hck⟩:=HS.out.get hlt
   obtain⟨A1,n1,c1,he,hru⟩:=HR.out.row k (by rw[HV.out];exact hlt);rw[hu]at he
   injection he with he
   subst he;have hq:s+n1=((ls.take (k+1)).flatten).length:=by
    rw[flat_snoc (by rw[HL.out];exact hlt),List.length_append,hru.len,hsum.out]
   have hb:s+n1≤1099511627776:=by rw[hq];exact Nat.le_trans (flat_le ls _) HN.out
   obtain⟨s',hs'⟩:∃s',s'=s+n1:=⟨_,rfl⟩;have HQ:Hid (s'=((ls.take (k+1)).flatten).length):=hs'.trans hq;have hb':s'≤1099511627776:=by omega
   have hsi:(s:Int)+(n1:Int)=(s':Int):=by omega
   have hnn:¬((s':Int)<0):=by omega
   clear hq hu hru hsum hs';go_wp2_with fail;go_roundw
   case rel=>exact⟨k+1,s',by go_num,rfl,by omega,(by first|exact hid rfl|exact hid trivial),HQ.out⟩
   case measure=>simp[intOf];omega
  ·have hkm:k=m:=by omega
   have hb:s≤1099511627776:=by rw[hsum.out];exact Nat.le_trans (flat_le ls _) HN.out
   have HG:=hid (grow_any s w hb);clear hsum hkm;go_wp2_with fail;refine HG.out.mono ?_;rintro e w1 ⟨A0,c0,rfl,h0,k0⟩;obtain⟨H0,K0⟩:=hid2 h0 k0;clear h0 k0;go_wp2_with fail;go_loopw [27,6] (fun v u wr=>∃(k n:Nat) (A1:Option Addr) (c1:Nat),v=.int .i64 k∧u=.slice A1 n c1∧k≤m∧Kp w wr∧Own wr w.heap.size 21 1 A1 n c1 (R32 (ls.take k).flatten)) (fun v _ _=>m - (intOf v).toNat)
   case atStart=>exact⟨0,0,A0,c0,rfl,rfl,Nat.zero_le _,K0.out,H0.out⟩
   case round=>
    obtain⟨k,n,A1,c1,rfl,rfl,hk,kr,ho⟩:=hrel;by_cases hlt:k<m
    ·obtain⟨ad,u,rfl,hu,hck⟩:=(HS.out.kp kr).get hlt
     obtain⟨A2,n2,c2,he,hru⟩:=(HR.out.kp kr).row k (by rw[HV.out];exact hlt);rw[hu]at he
     injection he with he
     subst he;have hq:=flat_snoc (ls:=ls) (k:=k) (by rw[HL.out];exact hlt);have h2:(R32 (ls[k]?.getD [])).length=n2:=by rw[zG];exact hru.len
     have hnl:(ls.take k).flatten.length=n:=by have:=ho.len;rw[zG]at this;omega
     have hb:n+n2≤1099511627776:=by
      have h3:=flat_le ls (k+1);rw[hq,List.length_append,hnl,hru.len]at h3;exact Nat.le_trans h3 HN.out
     have hz:=kr.size;obtain⟨HQ,HNL⟩:=hid2 hq hnl;clear hq h2 hnl hu;go_wp2_with (at_builtin;refine zA _ rfl _ _ _ rfl w.heap.size 21 _ 1 4 Tryz.underlying41 yF rfl (by omega) A1 n c1 (R32 (ls.take k).flatten) rfl ho Any A2 n2 c2 (R32 (ls[k]?.getD [])) rfl hru (zQ _) (by simp only[maxLen];omega) (by omega) hz ?_;intro A4 c4 w4 hown4 hg4 hat4);have k4:=Kp.grown kr hg4 (fun j e=>(ho.lt j e).1);rw[zM,←HQ.out]at hown4;obtain⟨HO4,HK4⟩:=hid2 hown4 k4;clear hown4 hg4 hat4 ho k4;go_wp2_with fail;go_roundw
     case rel=>exact⟨k+1,n+n2,A4,c4,by go_num,rfl,by omega,HK4.out,HO4.out⟩
     case measure=>simp[intOf];omega
    ·have hkm:k=m:=by omega
     obtain⟨HO,HK⟩:=hid2 ho hkm;clear hkm ho;go_wp2_with fail;go_ret;have h:=HO.out.sl;rw[List.take_of_length_le (by rw[HL.out,HK.out];omega)]at h;exact⟨A1,n,c1,rfl,h,kr⟩
end Go.Proofs.YtociefdcccokjaaGreat

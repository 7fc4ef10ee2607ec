/-
  Lemmas for TopMacro. Conditions: each states its own.
-/
import Derived.Deep.LoopGhost
import Derived.Laws.OwnMore
import Derived.Lib.QuietBelow
import Derived.Test.YtociefdcccokjaaGreatG12
import Derived.Test.YtociefdcccokjaaGreatG15
import Derived.Test.YtociefdcccokjaaGreatG21
set_option maxHeartbeats 6400000
set_option maxRecDepth 100000
namespace Go.Proofs.YtociefdcccokjaaGreat
open Go.RowKit Go.Lib
theorem run_makeI (k:Nat)(hk:k≤1048576)(w:World):(Instr.makeSlice 126 (.int .i64 (k:Int)) (.int .i64 (k:Int))).run Tryz.prog w=.ok (.slice (some ⟨w.heap.size,0,none⟩) k k) (w.alloc (.cells (R64 (List.replicate k 0)).toArray 3)):=by
 obtain⟨i,hi,hz⟩:=Option.map_eq_some_iff.1 infoInt;simp only[Prod.mk.injEq]at hz;obtain⟨h1,h2,h3⟩:=hz;have h:=run_make (P:=Tryz.prog) w 126 3 i (.int .i64 0) Tryz.underlying126 hi h1 .i64 .i64 k k (by omega) (by omega) (by rw[h3];omega) (by omega);rw[h,h2];simp only[Int.toNat_natCast,Nat.mul_one];have e:madeCells (Value.int IntKind.i64 0).cells k=(R64 (List.replicate k 0)).toArray:=by
  apply Array.ext'
  show(madeCells #[Value.int IntKind.i64 0] k).toList=_;rw[toList_madeCells_one];simp[R64]
 rw[e]
def szF (T:TM)(l:List Int):List Int:=l.map fun r=>((yM T r).length:Int)
theorem szF_len (T:TM)(l:List Int):(szF T l).length=l.length:=by simp[szF]
theorem szF_get (T:TM)(l:List Int){k:Nat}(h:k<l.length):gN (szF T l) k=((yM T (gN l k)).length:Int):=by
 unfold gN szF;rw[List.getElem?_map,List.getElem?_eq_getElem h];rfl
def szK (T:TM)(l:List Int)(k:Nat):List Int:=(szF T l).take k++List.replicate (l.length - k) 0
theorem szK_len (T:TM)(l:List Int){k:Nat}(h:k≤l.length):(szK T l k).length=l.length:=by unfold szK;simp[szF_len];omega
theorem szK_all (T:TM)(l:List Int):szK T l l.length=szF T l:=by unfold szK;rw[Nat.sub_self,List.take_of_length_le (by rw[szF_len];omega)];simp
theorem szK_zero (T:TM)(l:List Int):szK T l 0=List.replicate l.length 0:=by unfold szK;simp
theorem szK_set (T:TM)(l:List Int){k:Nat}(h:k<l.length):(R64 (szK T l k)).toArray.setIfInBounds k (.int .i64 ((yM T (gN l k)).length:Int))=(R64 (szK T l (k+1))).toArray:=by
 have e:(R64 (szK T l k)).set k (.int .i64 ((yM T (gN l k)).length:Int))=R64 (szK T l (k+1)):=by
  rw[←szF_get T l h];unfold R64;rw[←List.map_set]
  congr 1
  unfold szK;have hl:((szF T l).take k).length=k:=by rw[List.length_take,szF_len];omega
  rw[List.set_append_right _ _ (by omega),hl,Nat.sub_self,List.take_succ_eq_append_getElem (by rw[szF_len];exact h)];obtain⟨m,hm⟩:∃m,l.length - k=m+1:=⟨l.length - k - 1,by omega⟩;rw[hm,show l.length - (k+1)=m by omega,List.replicate_succ,List.set_cons_zero,List.append_assoc];unfold gN;rw[List.getElem?_eq_getElem (by rw[szF_len];exact h)];rfl
 rw[List.setIfInBounds_toArray,e]
section
variable {T:TM}{l want:List Int}{frm to_ f q k m:Nat}
theorem fromF_end (h:¬to_<l.length):xP T l want frm f to_ q=none:=by cases f with
 |zero=>rfl
 |succ f=>unfold xP;rw[if_neg h]
theorem fromF_big (hf:l.length - to_≤f)(h:to_<l.length)(h2:want.length<q+(yM T (gN l to_)).length):xP T l want frm f to_ q=none:=by
 obtain⟨f,rfl⟩:∃f',f=f'+1:=⟨f - 1,by omega⟩;unfold xP;rw[if_pos h,if_pos h2]
theorem fromF_hit (hf:l.length - to_≤f)(h:to_<l.length)(h2:¬want.length<q+(yM T (gN l to_)).length)(h3:q+(yM T (gN l to_)).length=want.length)(h4:nfdD T (cutM l frm (to_+1))=want):xP T l want frm f to_ q=some (to_+1):=by
 obtain⟨f,rfl⟩:∃f',f=f'+1:=⟨f - 1,by omega⟩;unfold xP;rw[if_pos h,if_neg h2,if_pos ⟨h3,h4⟩]
theorem fromF_on (hf:l.length - to_≤f)(h:to_<l.length)(h2:¬want.length<q+(yM T (gN l to_)).length)(h3:¬(q+(yM T (gN l to_)).length=want.length∧nfdD T (cutM l frm (to_+1))=want)):
 xP T l want frm f to_ q=xP T l want frm (f - 1) (to_+1) (q+(yM T (gN l to_)).length):=by
 obtain⟨f,rfl⟩:∃f',f=f'+1:=⟨f - 1,by omega⟩;rw[xP,if_pos h,if_neg h2,if_neg h3];rfl
theorem allF_hit {t:Nat}(hk:frm<l.length)(hm:0<m)(h:xP T l want frm l.length frm 0=some t):allF T l want m frm=some (frm,t):=by
 obtain⟨m,rfl⟩:∃m',m=m'+1:=⟨m - 1,by omega⟩;unfold allF;rw[if_pos hk,h]
theorem allF_no (hk:frm<l.length)(hm:0<m)(h:xP T l want frm l.length frm 0=none):allF T l want m frm=allF T l want (m - 1) (frm+1):=by
 obtain⟨m,rfl⟩:∃m',m=m'+1:=⟨m - 1,by omega⟩;rw[allF,if_pos hk,h];rfl
theorem allF_end (hk:¬frm<l.length):allF T l want m frm=none:=by cases m with
 |zero=>rfl
 |succ m=>unfold allF;rw[if_neg hk]
end
def RetFi (o:Option (Nat×Nat))(w:World)(e:Ending)(w':World):Prop:=
 match o with
 |some p=>e=.returned (.tuple #[.int .i64 (p.1:Int),.int .i64 (p.2:Int),.bool true])∧Kp w w'
 |none=>e=.returned (.tuple #[.int .i64 0,.int .i64 0,.bool false])∧Kp w w'
theorem find_any (F G:Nat→Prop)(g:Nat)(T:TM)(A B:Option Addr)(n c m d:Nat)(l pat:List Int)(w:World)(h:TabAt w g T)(hl:Ru w F A n c l)(h32:R32ok l)(hp:Ru w G B m d pat)(hp32:R32ok pat)(hn:n≤65536)(hm:m≤65536):
 Calls Tryz.prog 177 #[.pointer (some ⟨g,0,none⟩),.slice A n c,.slice B m d] w (RetFi (findF T l pat) w):=by
 have HNF:=hid (nfd_any G g T B m d pat w h hp hp32 (by omega));have hwl:=nfdD_len T pat;have hw32:=nfdD_32 h.ok hp32;obtain⟨want,hwant⟩:∃y,y=nfdD T pat:=⟨_,rfl⟩;rw[←hwant]at HNF hwl hw32;obtain⟨res,hres⟩:∃r,r=findF T l pat:=⟨_,rfl⟩;have hre:res=if want=[]then some (0,0)else allF T l want l.length 0:=by rw[hres,hwant];rfl
 rw[←hres];have hpl:=hp.len;have hwb:want.length≤50331648:=by omega
 have hcn:=hl.le;have hcap:=hl.cap;unfold maxLen at hcap;obtain⟨HRE,HT,HL,H32,HLL,HWB⟩:=hid6 hre h hl h32 hl.len hwb;clear h hl h32 hp hp32 hwl hw32 hwant hres hre hpl hwb;go_enter Tryz.func177,Tryz.ntmps177;go_wp2_with fail;go_step3;go_wp2_with fail;refine HNF.out.mono ?_;rintro e w1 ⟨A1,n1,c1,rfl,hr1,k1⟩;have hn1:=hr1.len;obtain⟨HN1,HW1,HK1⟩:=hid3 hn1 hr1 k1;have hn1b:n1≤50331648:=by have:=HWB.out;omega
 have HZ1:=hid k1.size;clear hr1 k1 hn1 HNF;by_cases h0:n1=0
 ·subst h0
  have HR:=hid (show res=some (0,0) by rw[HRE.out,if_pos (List.eq_nil_of_length_eq_zero HN1.out)]);clear HRE;go_wp2_with fail;try rw[Exit.noGoto_ret]
  go_ret3;rw[HR.out];exact⟨rfl,HK1.out⟩
 ·have q0:((n1:Int)==0)=false:=by simpa using h0
  have HR:=hid (show res=allF T l want n 0 by rw[HRE.out,if_neg (by rintro rfl;exact h0 (by simpa using HN1.out.symm)),HLL.out]);have hmk:=run_makeI n (by omega);obtain⟨Z0,hZ0⟩:∃Z,Z=(R64 (List.replicate n 0)).toArray:=⟨_,rfl⟩;rw[←hZ0]at hmk;have HZ0:=hid hZ0;clear HRE hZ0 h0;go_upto_region 5 with fail;obtain⟨Z,hZ⟩:∃Z,Z=w1.heap.size:=⟨_,rfl⟩;have k2:=(Kp.refl w1).alloc (.cells Z0 3);have bz:=Bx.new w1 Z0 3;rw[←hZ]at bz⊢;obtain⟨HZZ,HW2⟩:=hid2 (show w.heap.size≤Z by have:=HZ1.out;omega) (show Ru w1 (fun k=>¬k=Z) A1 n1 c1 want from Sl.weak HW1.out (fun k hk _=>by omega));obtain⟨HW2,HK2⟩:=hid2 (HW2.out.kp k2) (HK1.out.trans k2);clear k2 hmk hZ HW1 HK1;generalize(w1.alloc (.cells Z0 3))=w2 at *;rw[HZ0.out]at bz;have HBZ:=hid (show Bx w2 Z (R64 (szK T l 0)).toArray 3 by rw[szK_zero,HLL.out];exact bz);clear bz HZ0;go_wp2_with fail;go_loopg [27,11,12] n (fun gh u v r wr=>∃k:Nat,u=.int .i64 (k:Int)∧k≤n∧n≤k+gh∧Bx wr Z (R64 (szK T l k)).toArray 3∧Kp w wr∧Mu (fun b=>b=Z) w2 wr)
  case atStart=>exact⟨0,rfl,Nat.zero_le _,by omega,HBZ.out,HK2.out,Mu.refl _⟩
  case round=>
   obtain⟨k,rfl,hkn,hkg,hbz,kr,mr⟩:=hrel;by_cases hlt:k<n
   ·obtain⟨ad,rfl,hc1⟩:=(HL.out.kp kr).getN hlt
    have hkl:k<l.length:=by rw[HLL.out];exact hlt
    have hz:=hbz.cell k;have hf:=hbz.frozen k;obtain⟨old,hold⟩:∃old,(R64 (szK T l k)).toArray[k]? =some old:=⟨(R64 (szK T l k)).toArray[k]'(by simp[yK,szK_len T l (Nat.le_of_lt hkl)];exact hkl),Array.getElem?_eq_getElem _⟩;rw[hold]at hz;obtain⟨HFU,HST,HSU⟩:=hid3 (full_any g T (gN l k) wr (HT.out.kp kr) (H32.out.get)) (szK_set T l hkl) (fullD_len T (gN l k));generalize gN l k=r at *;obtain⟨HBK,HKR,HMR⟩:=hid3 hbz kr mr;have hzlt:=hbz.lt;clear hbz kr mr hold;go_wp2_with fail;refine HFU.out.mono ?_;rintro e w4 ⟨A4,n4,c4,rfl,hr4,k4⟩;have hn4:n4=(yM T r).length:=hr4.len.symm;have hz4:=zE k4 hz;have hf4:w4.frozen? ⟨Z,k,none⟩=false:=(HBK.out.kp k4).frozen k;obtain⟨HB4,HK4,HM4,HN4⟩:=hid4 (HBK.out.kp k4) (HKR.out.trans k4) (HMR.out.then_kp k4) hn4;have hn4b:n4≤768:=by have:=HSU.out;omega
    clear hr4 k4 hn4 hz hf HFU HBK HKR HMR;go_wp2_with fail;go_roundg (n - (k+1))
    case measure=>omega
    case rel=>
     refine⟨k+1,by go_num,by omega,by omega,?_,HK4.out.setCell (p:=⟨Z,k,none⟩) HZZ.out _,HM4.out.setCell (p:=⟨Z,k,none⟩) rfl _⟩;rw[←HST.out,←HN4.out];exact HB4.out.set k _
   ·have hkn2:k=n:=by omega
    obtain⟨HBF,HKF,HWF⟩:=hid3 (show Bx wr Z (R64 (szF T l)).toArray 3 by rw[←szK_all T l,HLL.out,←hkn2];exact hbz) kr (show Ru wr (fun k=>¬k=Z) A1 n1 c1 want from Mu.sl mr HW2.out (fun _ h=>h));obtain⟨wo,hwo⟩:∃wo:World,wo=wr:=⟨_,rfl⟩;rw[←hwo]at HBF HKF HWF⊢;clear hkn2 hbz kr mr hwo HBZ HK2 HW2;go_wp2_with fail;go_step3;go_wp2_with fail;go_loopg [42,13,14,15] n (fun gh u v1 v2 v3 wr=>∃k:Nat,u=.int .i64 (k:Int)∧k≤n∧n≤k+gh∧Kp wo wr∧Hid (res=allF T l want (n - k) k))
    case atStart=>exact⟨0,rfl,Nat.zero_le _,by omega,Kp.refl _,HR.out⟩
    case round=>
     obtain⟨k1,rfl,hk1n,hk1g,kr1,hres⟩:=hrel;by_cases hlt1:k1<n
     ·obtain⟨wi,hwi⟩:∃wi:World,wi=wr:=⟨_,rfl⟩
      rw[←hwi]at kr1⊢;clear hwi;go_wp2_with fail;go_loopg [14,15] (n - k1) (fun gh s t wr2=>∃(j q f:Nat),s=.int .i64 (q:Int)∧t=.int .i64 (j:Int)∧k1≤j∧j≤n∧n≤j+gh∧n - j≤f∧q≤n1∧Kp wi wr2∧Hid (xP T l want k1 l.length k1 0=xP T l want k1 f j q))
      case atStart=>exact⟨k1,0,n,rfl,rfl,le_,by omega,by omega,by omega,Nat.zero_le _,Kp.refl _,by show _=_;rw[HLL.out]⟩
      case round=>
       obtain⟨j,q,f,rfl,rfl,hkj,hjn,hjg,hjf,hqn,kr2,hfr⟩:=hrel;by_cases hlt2:j<n
       ·have hjl:j<l.length:=by rw[HLL.out];exact hlt2
        have hz:=(HBF.out.kp (kr1.trans kr2)).cell j;have hzg:(R64 (szF T l)).toArray[j]? =some (.int .i64 ((yM T (gN l j)).length:Int)):=by
         rw[←szF_get T l hjl,List.getElem?_toArray,R64_get];unfold gN;rw[List.getElem?_eq_getElem (by rw[szF_len];exact hjl)];rfl
        rw[hzg]at hz;have hsz:=fullD_len T (gN l j);obtain⟨z,hzz⟩:∃z,z=(yM T (gN l j)).length:=⟨_,rfl⟩;rw[←hzz]at hz hsz;obtain⟨q2,hq2⟩:∃q2,q2=q+z:=⟨_,rfl⟩;have eq2:(q:Int)+(z:Int)=(q2:Int):=by omega
        have hq2b:q2≤50400000:=by omega
        obtain⟨HZZ2,HQ2,HFR,HKR⟩:=hid4 hzz hq2 hfr.out kr2;clear hzz hq2 hfr kr2 hzg;by_cases hbig:n1<q2
        ·have qb:=dT (show(q2:Int)>(n1:Int) by omega)
         have HNX:=hid (show res=allF T l want (n - (k1+1)) (k1+1) by
          have h1:xP T l want k1 l.length k1 0=none:=by rw[HFR.out,fromF_big (by rw[HLL.out];exact hjf) hjl (by rw[HN1.out,←HZZ2.out,←HQ2.out];exact hbig)]
          rw[hres.out,allF_no (by rw[HLL.out];exact hlt1) (by omega) h1,Nat.sub_sub])
         clear hres;go_wp2_with fail;go_roundg (n - (k1+1))
         case measure=>omega
         case rel=>exact⟨k1+1,by go_num,by omega,by omega,kr1.trans HKR.out,HNX.out⟩
        ·have qb:=dF (show¬((q2:Int)>(n1:Int)) by omega)
         have hnb:¬want.length<q+(yM T (gN l j)).length:=by rw[HN1.out,←HZZ2.out,←HQ2.out];exact hbig
         have HNB:=hid hnb;have hfl:l.length - j≤f:=by rw[HLL.out];exact hjf
         obtain⟨j1,hj1⟩:∃j1,j1=j+1:=⟨_,rfl⟩;have ej:(j:Int)+1=(j1:Int):=by omega
         have HJ1:=hid hj1;clear hnb;by_cases heq:q2=n1
         ·subst heq
          have hkj1:k1≤j1:=by omega
          have hj1n:j1≤n:=by omega
          have hj1c:j1≤c:=by omega
          have hs:=Ru.drop (Ru.take (HL.out.kp (HKF.out.trans (kr1.trans HKR.out))) hj1n) hkj1;have hs:Ru wr F (if c=k1 then A else Option.map (fun x=>x.add k1) A) (j1 - k1) (c - k1) (cutM l k1 j1):=hs;rw[if_neg (by omega)]at hs;have h32c:R32ok (cutM l k1 j1):=H32.out.sub (fun _ h=>List.mem_of_mem_take (List.mem_of_mem_drop h));obtain⟨HND,HWR⟩:=hid2 (nfd_any F g T _ _ _ _ wr (HT.out.kp (HKF.out.trans (kr1.trans HKR.out))) hs h32c (by omega)) (HWF.out.kp (kr1.trans HKR.out));clear hj1 hs h32c;go_wp2_with fail;refine HND.out.mono ?_;rintro e w5 ⟨A5,n5,c5,rfl,hr5,k5⟩;have HE:=hid (equal_any _ _ A5 A1 n5 c5 _ c1 _ want w5 hr5 (Sl.kp HWR.out k5));rcases hsb:sameB (nfdD T (cutM l k1 j1)) want with _|_
          ·rw[hsb]at HE
           have HNE:=hid (show¬(q+(yM T (gN l j)).length=want.length∧nfdD T (cutM l k1 (j+1))=want) by
            rintro⟨-,h⟩;rw[←HJ1.out]at h;rw[(xX _ _).2 h]at hsb;cases hsb)
           obtain⟨HFN,HK5⟩:=hid2 (show xP T l want k1 l.length k1 0=xP T l want k1 (f - 1) j1 _ by have h:=HFR.out;rw[fromF_on hfl hjl HNB.out HNE.out,←HJ1.out,←HZZ2.out,←HQ2.out]at h;exact h) (HKR.out.trans k5);clear hsb hr5 k5 HND;go_wp2_with fail;refine HE.out.mono ?_;rintro e w6 ⟨rfl,d6⟩;have HK6:=hid (HK5.out.trans d6.kp);clear d6;go_wp2_with fail;go_roundg (n - j1)
           case measure=>have:=HJ1.out;omega
           case rel=>exact⟨j1,_,f - 1,rfl,rfl,by omega,by omega,by omega,by have:=HJ1.out;omega,le_,HK6.out,HFN.out⟩
          ·rw[hsb]at HE
           have HFN:=hid (show res=some (k1,j1) by
            have h1:xP T l want k1 l.length k1 0=some j1:=by
             rw[HFR.out,fromF_hit hfl hjl HNB.out (by rw[HN1.out,←HZZ2.out,←HQ2.out]) (by rw[←HJ1.out];exact(xX _ _).1 hsb),HJ1.out]
            rw[hres.out,allF_hit (by rw[HLL.out];exact hlt1) (by omega) h1])
           have HK5:=hid (HKF.out.trans (kr1.trans (HKR.out.trans k5)));clear hsb hr5 k5 HND hres;go_wp2_with fail;refine HE.out.mono ?_;rintro e w6 ⟨rfl,d6⟩;have HK6:=hid (HK5.out.trans d6.kp);clear d6;go_wp2_with fail;try rw[Exit.noGoto_ret]
           go_ret3;rw[HFN.out];exact⟨rfl,HK6.out⟩
         ·have qe:((q2:Int)==(n1:Int))=false:=by rw[beq_eq_false_iff_ne];omega
          have HNE:=hid (show¬(q+(yM T (gN l j)).length=want.length∧nfdD T (cutM l k1 (j+1))=want) by
           rintro⟨h,-⟩;rw[HN1.out,←HZZ2.out,←HQ2.out]at h;exact heq h)
          obtain⟨HFN,HJ1b⟩:=hid2 (show xP T l want k1 l.length k1 0=xP T l want k1 (f - 1) j1 q2 by rw[HFR.out,fromF_on hfl hjl HNB.out HNE.out,HJ1.out,HQ2.out,HZZ2.out]) (show j1≤n∧k1≤j1 by omega);clear heq hj1;go_wp2_with fail;go_roundg (n - j1)
          case measure=>have:=HJ1.out;omega
          case rel=>exact⟨j1,q2,f - 1,rfl,rfl,HJ1b.out.2,HJ1b.out.1,by omega,by have:=HJ1.out;omega,by omega,HKR.out,HFN.out⟩
       ·have HNX:=hid (show res=allF T l want (n - (k1+1)) (k1+1) by
         have h1:xP T l want k1 l.length k1 0=none:=by rw[hfr.out,fromF_end (by rw[HLL.out];exact hlt2)]
         rw[hres.out,allF_no (by rw[HLL.out];exact hlt1) (by omega) h1,Nat.sub_sub])
        have HKR:=hid kr2;clear hres hfr kr2;go_wp2_with fail;go_roundg (n - (k1+1))
        case measure=>omega
        case rel=>exact⟨k1+1,by go_num,by omega,by omega,kr1.trans HKR.out,HNX.out⟩
     ·have HEN:=hid (show res=none by rw[hres.out,allF_end (by rw[HLL.out];exact hlt1)])
      clear hres;go_wp2_with fail;try rw[Exit.noGoto_ret]
      go_ret3;rw[HEN.out];exact⟨rfl,HKF.out.trans kr1⟩
def RetNe (o:Option (Int×Nat))(w:World)(e:Ending)(w':World):Prop:=
 match o with
 |some p=>e=.returned (.tuple #[.int .i64 p.1,.int .i64 (p.2:Int),.bool true])∧Kp w w'
 |none=>e=.returned (.tuple #[.int .i64 0,.int .i64 0,.bool false])∧Kp w w'
def TxOks (L:List (List Int)):Prop:=∀x∈L,x.length≤65536∧R32ok x
theorem nearF_out {T:TM}{L:List (List Int)}{st:Int}{pat:List Int}{k:Nat}{a:Int}(h:¬(0≤a∧a<L.length)):vH T L st pat k a=none:=by cases k with
 |zero=>rfl
 |succ k=>unfold vH;rw[if_neg h]
theorem nearF_hit {T:TM}{L:List (List Int)}{st:Int}{pat:List Int}{k:Nat}{a:Int}{p:Nat×Nat}(hk:0<k)(h:0≤a∧a<L.length)(h2:findF T (L[a.toNat]?.getD []) pat=some p):vH T L st pat k a=some (a,p.1):=by
 obtain⟨k,rfl⟩:∃k',k=k'+1:=⟨k - 1,by omega⟩;unfold vH;rw[if_pos h,h2]
theorem nearF_on {T:TM}{L:List (List Int)}{st:Int}{pat:List Int}{k:Nat}{a:Int}(hk:0<k)(h:0≤a∧a<L.length)(h2:findF T (L[a.toNat]?.getD []) pat=none):vH T L st pat k a=vH T L st pat (k - 1) (a+st):=by
 obtain⟨k,rfl⟩:∃k',k=k'+1:=⟨k - 1,by omega⟩;rw[vH,if_pos h,h2];rfl
theorem nearest_any (F G H:Nat→Prop)(g:Nat)(T:TM)(A B:Option Addr)(n c m d:Nat)(L:List (List Int))(at_ st:Int)(pat:List Int)(w:World)(h:TabAt w g T)(hT:Txs w F G A n c L)(hL:TxOks L)(hp:Ru w H B m d pat)(hp32:R32ok pat)(hn:n≤100000)(hm:m≤65536)(hst:st=1∨st= -1)(ha: -1000000≤at_∧at_≤1000000):
 Calls Tryz.prog 141 #[.pointer (some ⟨g,0,none⟩),.slice A n c,.int .i64 at_,.int .i64 st,.slice B m d] w (RetNe (vH T L st pat (L.length+1) at_) w):=by
 have hln:=hT.len;have hle:=hT.le;have hcap:=hT.cap;unfold maxLen at hcap;obtain⟨res,hres⟩:∃r,r=vH T L st pat (L.length+1) at_:=⟨_,rfl⟩;rw[←hres];obtain⟨HTB,HTX,HOK,HP,HP32,HLN,HRES,HST⟩:=hid8 h hT hL hp hp32 hln (show res=vH T L st pat (n+1) at_ by rw[hres,hln]) hst;have s1:¬(st< -1):=by omega
 have s1':¬((-1:Int)>st):=by omega
 have s2:¬(1<st):=by omega
 have s3:(st==0)=false:=by rw[beq_eq_false_iff_ne];omega
 have hsb: -1≤st∧st≤1:=by omega
 clear h hT hL hp hp32 hln hres hst;go_enter Tryz.func141,Tryz.ntmps141;go_upto_region 1 with fail;go_cut [3] (fun v wx=>v=.int .i64 st∧wx=w)
 case first=>
  go_wp2_with fail
  all_goals
   go_meet;exact⟨by first|rfl|(congr 1;omega),rfl⟩
 case rest=>
  obtain⟨rfl,rfl⟩:=hcut;go_wp2_with fail;go_loopg [2] (n+1) (fun gh u wr=>∃(a:Int) (k:Nat),u=.int .i64 a∧ -1000001≤a∧a≤1000001∧k≤gh∧(0≤a∧a<n→((st=1→(n:Int)≤a+k)∧(st= -1→a+1≤k)))∧Kp wc wr∧Hid (res=vH T L st pat k a))
  case atStart=>exact⟨at_,n+1,rfl,by omega,by omega,le_,fun h=>⟨fun _=>by omega,fun _=>by omega⟩,Kp.refl _,HRES.out⟩
  case round=>
   obtain⟨a,k,rfl,ha1,ha2,hkg,hin,kr,hres⟩:=hrel;by_cases h1:a≥0
   ·have q1:=dT h1
    by_cases h2:a<(n:Int)
    ·have q2:=dT h2
     obtain⟨i,hi⟩:∃i:Nat,a=i:=⟨a.toNat,by omega⟩;subst hi;have hin':i<n:=by omega
     have hkp:0<k:=by rcases HST.out with e|e;have:=(hin ⟨by omega,by omega⟩).1 e;omega;have:=(hin ⟨by omega,by omega⟩).2 e;omega
     obtain⟨ad,B1,m1,d1,rfl,hc1,hr1⟩:=(HTX.out.kp kr).get hin';obtain⟨x,hx⟩:∃x,x=L[i]?.getD []:=⟨_,rfl⟩;rw[←hx]at hr1;have hxm:x∈L:=by
      rw[hx,List.getElem?_eq_getElem (by rw[HLN.out];exact hin')];exact List.getElem_mem _
     have hm1:m1≤65536:=by have:=(HOK.out x hxm).1;have:=Ru.len hr1;omega
     obtain⟨HFI,HXX⟩:=hid2 (find_any G H g T B1 B m1 d1 m d x pat wr (HTB.out.kp kr) hr1 (HOK.out x hxm).2 (HP.out.kp kr) HP32.out hm1 hm) (show L[(i:Int).toNat]?.getD []=x by rw[hx];rfl);have hrng:(0:Int)≤(i:Int)∧(i:Int)<L.length:=by rw[HLN.out];omega
     obtain⟨HRG,HKR,HRE,HIN⟩:=hid4 hrng kr hres.out hin;clear hx hxm hr1 kr hrng hres hin;go_wp2_with fail;refine HFI.out.mono ?_;rintro e w2 hret;rcases hff:findF T x pat with _|p
     ·rw[hff]at hret
      obtain⟨rfl,k2⟩:=hret;obtain⟨HN,HK2⟩:=hid2 (show res=vH T L st pat (k - 1) ((i:Int)+st) by rw[HRE.out,nearF_on hkp HRG.out (by rw[HXX.out];exact hff)]) (HKR.out.trans k2);clear hff k2 HFI;go_wp2_with fail;go_roundg (k - 1)
      case measure=>omega
      case rel=>exact⟨(i:Int)+st,k - 1,rfl,by omega,by omega,le_,fun h=>by have:=HIN.out ⟨by omega,by omega⟩;exact⟨fun e=>by have:=this.1 e;omega,fun e=>by have:=this.2 e;omega⟩,HK2.out,HN.out⟩
     ·rw[hff]at hret
      obtain⟨rfl,k2⟩:=hret;obtain⟨HN,HK2⟩:=hid2 (show res=some ((i:Int),p.1) by rw[HRE.out,nearF_hit hkp HRG.out (by rw[HXX.out];exact hff)]) (HKR.out.trans k2);clear hff k2 HFI;go_wp2_with fail;go_ret3;rw[HN.out];exact⟨rfl,HK2.out⟩
    ·have q2:=dF h2
     have HN:=hid (show res=none by rw[hres.out,nearF_out (by rw[HLN.out];omega)]);clear hres;go_wp2_with fail;go_ret3;rw[HN.out];exact⟨rfl,kr⟩
   ·have q1:=dF h1
    have HN:=hid (show res=none by rw[hres.out,nearF_out (by omega)]);clear hres;go_wp2_with fail;go_ret3;rw[HN.out];exact⟨rfl,kr⟩
def SkV (s:Sk)(A:Option Addr)(n c:Nat):Array Value:=#[.bool s.back,.slice A n c,.int .i64 s.at_,.int .i64 s.place,.bool s.failed,.int .i64 s.homeAt,.int .i64 s.homePlace]
theorem Bx.seven {w:World}{b:Nat}{t:TypeId}{x0 x1 x2 x3 x4 x5 x6:Value}(h:Bx w b #[x0,x1,x2,x3,x4,x5,x6] t):
 (w.cell? ⟨b,0,none⟩=some x0∧w.cell? ⟨b,1,none⟩=some x1∧w.cell? ⟨b,2,none⟩=some x2∧w.cell? ⟨b,3,none⟩=some x3∧w.cell? ⟨b,4,none⟩=some x4∧w.cell? ⟨b,5,none⟩=some x5∧w.cell? ⟨b,6,none⟩=some x6)∧
 (w.frozen? ⟨b,0,none⟩=false∧w.frozen? ⟨b,1,none⟩=false∧w.frozen? ⟨b,2,none⟩=false∧w.frozen? ⟨b,3,none⟩=false∧w.frozen? ⟨b,4,none⟩=false∧w.frozen? ⟨b,5,none⟩=false∧w.frozen? ⟨b,6,none⟩=false):=
 ⟨⟨h.cell 0,h.cell 1,h.cell 2,h.cell 3,h.cell 4,h.cell 5,h.cell 6⟩,h.frozen 0,h.frozen 1,h.frozen 2,h.frozen 3,h.frozen 4,h.frozen 5,h.frozen 6⟩
theorem skBegin_any (b:Bool)(at_ place:Int)(w:World):
 Calls Tryz.prog 121 #[.bool b,.int .i64 at_,.int .i64 place] w fun e w'=>e=.returned (.agg (SkV ⟨b,[],at_,place,false,at_,place⟩ none 0 0))∧Kp w w':=by
 have HK:=hid ((Kp.refl w).alloc (.cells #[.bool b,.slice none 0 0,.int .i64 at_,.int .i64 place,.bool false,.int .i64 at_,.int .i64 place] 66));go_enter Tryz.func121,Tryz.ntmps121;go_wp2_with fail;refine bodyPost_ret (v:=.agg #[.bool b,.slice none 0 0,.int .i64 at_,.int .i64 place,.bool false,.int .i64 at_,.int .i64 place]) (by simp[results,Tryz.results121,go_sem]) rfl ?_;exact⟨rfl,HK.out⟩
theorem skStep_any (s:Sk)(A:Option Addr)(n c:Nat)(w:World):
 Calls Tryz.prog 106 #[.agg (SkV s A n c)] w fun e w'=>e=.returned (.int .i64 s.step)∧Kp w w':=by
 obtain⟨b,p,a,pl,f,ha,hp⟩:=s;unfold SkV Sk.step;dsimp only;cases b
 ·rw[if_neg (by simp)]
  go_enter Tryz.func106,Tryz.ntmps106;go_wp2_with fail;go_ret;exact⟨rfl,(Kp.refl _).alloc _⟩
 ·rw[if_pos rfl]
  go_enter Tryz.func106,Tryz.ntmps106;go_wp2_with fail;go_ret;exact⟨rfl,(Kp.refl _).alloc _⟩
theorem Sk.step_in (s:Sk):s.step=1∨s.step= -1:=by unfold Sk.step;split;exact .inl rfl;exact .inr rfl
theorem skFrom_any (F G H:Nat→Prop)(g:Nat)(T:TM)(s:Sk)(A B:Option Addr)(n c m d:Nat)(L:List (List Int))(at_:Int)(w:World)(h:TabAt w g T)(hT:Txs w F G B m d L)(hL:TxOks L)(hp:Ru w H A n c s.pat)(hp32:R32ok s.pat)(hm:m≤100000)(hn:n≤65536)(ha: -1000000≤at_∧at_≤1000000):
 Calls Tryz.prog 103 #[.agg (SkV s A n c),.pointer (some ⟨g,0,none⟩),.slice B m d,.int .i64 at_] w fun e w'=>e=.returned (.agg (SkV (Sk.from_ T s L at_) A n c))∧Kp w w':=by
 obtain⟨HNE,HSP⟩:=hid2 (fun(wx:World) (kx:Kp w wx)=>nearest_any F G H g T B A m d n c L at_ s.step s.pat wx (h.kp kx) (hT.kp kx) hL (hp.kp kx) hp32 hm hn s.step_in ha) (fun(wx:World)=>skStep_any s A n c wx);have hfr:Sk.from_ T s L at_=match vH T L s.step s.pat (L.length+1) at_ with
  |some (k,p)=>{s with failed:=false,at_:=k,place:=p}
  |none=>{s with failed:=true}:=rfl
 obtain⟨res,hres⟩:∃r,r=vH T L s.step s.pat (L.length+1) at_:=⟨_,rfl⟩;obtain⟨st,hst⟩:∃r,r=s.step:=⟨_,rfl⟩;rw[←hres]at HNE hfr;rw[←hst]at HNE HSP;obtain⟨fr,hfr2⟩:∃r,r=Sk.from_ T s L at_:=⟨_,rfl⟩;rw[←hfr2]at hfr⊢;have HFR:=hid hfr;clear h hT hL hp hp32 hfr hres hst hfr2;obtain⟨sb,sp,sa,spl,sf,sha,shp⟩:=s;unfold SkV at HSP⊢;dsimp only at HSP HNE HFR⊢;go_enter Tryz.func103,Tryz.ntmps103;go_upto_region 1 with fail;obtain⟨S,hS⟩:∃S,S=w.heap.size:=⟨_,rfl⟩;have k2:=((Kp.refl w).alloc (.cells #[.bool sb,.slice A n c,.int .i64 sa,.int .i64 spl,.bool sf,.int .i64 sha,.int .i64 shp] 66)).alloc (.cells #[.bool false,.slice none 0 0,.int .i64 0,.int .i64 0,.bool false,.int .i64 0,.int .i64 0] 66);have b0:=(Bx.new w #[.bool sb,.slice A n c,.int .i64 sa,.int .i64 spl,.bool sf,.int .i64 sha,.int .i64 shp] 66).alloc (.cells #[.bool false,.slice none 0 0,.int .i64 0,.int .i64 0,.bool false,.int .i64 0,.int .i64 0] 66);have b1:=Bx.new (w.alloc (.cells #[.bool sb,.slice A n c,.int .i64 sa,.int .i64 spl,.bool sf,.int .i64 sha,.int .i64 shp] 66)) #[.bool false,.slice none 0 0,.int .i64 0,.int .i64 0,.bool false,.int .i64 0,.int .i64 0] 66;rw[World.size_alloc]at b1;rw[←hS]at b0 b1⊢;have HS:=hid hS;clear hS;generalize((w.alloc (.cells #[.bool sb,.slice A n c,.int .i64 sa,.int .i64 spl,.bool sf,.int .i64 sha,.int .i64 shp] 66)).alloc (.cells #[.bool false,.slice none 0 0,.int .i64 0,.int .i64 0,.bool false,.int .i64 0,.int .i64 0] 66))=w2 at *;obtain⟨HB0,HB1,HK2⟩:=hid3 b0 b1 k2;obtain⟨⟨p0,p1,p2,p3,p4,p5,p6⟩,_⟩:=b0.seven;have z0:=cell_regrown p0;have z1:=cell_regrown p1;have z2:=cell_regrown p2;have z3:=cell_regrown p3;have z4:=cell_regrown p4;have z5:=cell_regrown p5;have z6:=cell_regrown p6;clear b0 b1 k2;rcases res with _|p
 all_goals
  refine wp_region_quiet_below (by kernel_rfl) (by kernel_rfl) ?_;repeat(first|go_big_quiet_step (first|(go_at_call 106;exact Calls.regrown_of (HSP.out _))|(go_at_call 141;exact Calls.regrown_of (HNE.out _ (HK2.out.trans (below_regrown w2 _ _))))))
  refine wpQuiet_nil ?_;intro w7 hw';obtain⟨⟨dq,osq⟩,hw''⟩:=hw';have kk:Kp w2 w7:=by rw[hw''];exact below_regrown w2 dq osq
  clear hw'';obtain⟨HB07,HB17,HK7⟩:=hid3 (HB0.out.kp kk) (HB1.out.kp kk) (HK2.out.trans kk);clear p0 p1 p2 p3 p4 p5 p6 z0 z1 z2 z3 z4 z5 z6 HB0 HB1 HK2 kk;obtain⟨⟨p0,p1,p2,p3,p4,p5,p6⟩,f0,f1,f2,f3,f4,f5,f6⟩:=HB07.out.seven;obtain⟨⟨r0,r1,r2,r3,r4,r5,r6⟩,g0,g1,g2,g3,g4,g5,g6⟩:=HB17.out.seven;go_wp2_with fail
 ·have hbf:=(Bx.set (Bx.set (Bx.set (Bx.set (Bx.set (Bx.set (Bx.set (Bx.far HB17.out (p:=⟨S,4,none⟩) (by simp) (.bool true)) 0 (.bool sb)) 1 (.slice A n c)) 2 (.int .i64 sa)) 3 (.int .i64 spl)) 4 (.bool true)) 5 (.int .i64 sha)) 6 (.int .i64 shp))
  have hkf:=(Kp.setCell (Kp.setCell (Kp.setCell (Kp.setCell (Kp.setCell (Kp.setCell (Kp.setCell (Kp.setCell HK7.out (p:=⟨S,4,none⟩) (by rw[HS.out];exact le_) (.bool true)) (p:=⟨S+1,0,none⟩) (by rw[HS.out];exact Nat.le_succ _) (.bool sb)) (p:=⟨S+1,1,none⟩) (by rw[HS.out];exact Nat.le_succ _) (.slice A n c)) (p:=⟨S+1,2,none⟩) (by rw[HS.out];exact Nat.le_succ _) (.int .i64 sa)) (p:=⟨S+1,3,none⟩) (by rw[HS.out];exact Nat.le_succ _) (.int .i64 spl)) (p:=⟨S+1,4,none⟩) (by rw[HS.out];exact Nat.le_succ _) (.bool true)) (p:=⟨S+1,5,none⟩) (by rw[HS.out];exact Nat.le_succ _) (.int .i64 sha)) (p:=⟨S+1,6,none⟩) (by rw[HS.out];exact Nat.le_succ _) (.int .i64 shp));generalize((((((((w7.setCell ⟨S,4,none⟩ (.bool true)).setCell ⟨S+1,0,none⟩ (.bool sb)).setCell ⟨S+1,1,none⟩ (.slice A n c)).setCell ⟨S+1,2,none⟩ (.int .i64 sa)).setCell ⟨S+1,3,none⟩ (.int .i64 spl)).setCell ⟨S+1,4,none⟩ (.bool true)).setCell ⟨S+1,5,none⟩ (.int .i64 sha)).setCell ⟨S+1,6,none⟩ (.int .i64 shp))=wf at *;have hbf:Bx wf (S+1) #[.bool sb,.slice A n c,.int .i64 sa,.int .i64 spl,.bool true,.int .i64 sha,.int .i64 shp] 66:=hbf;have HKF:=hid hkf;obtain⟨⟨y0,y1,y2,y3,y4,y5,y6⟩,_⟩:=hbf.seven;clear hbf hkf p0 p1 p2 p3 p4 p5 p6 r0 r1 r2 r3 r4 r5 r6;refine bodyPost_ret (v:=.agg #[.bool sb,.slice A n c,.int .i64 sa,.int .i64 spl,.bool true,.int .i64 sha,.int .i64 shp]) (by simp[results,Tryz.results103,go_sem,y0,y1,y2,y3,y4,y5,y6]) rfl ?_;rw[HFR.out];exact⟨rfl,HKF.out⟩
 ·have hbf:=(Bx.set (Bx.set (Bx.set (Bx.set (Bx.set (Bx.set (Bx.set (Bx.far (Bx.far (Bx.far HB17.out (p:=⟨S,4,none⟩) (by simp) (.bool false)) (p:=⟨S,2,none⟩) (by simp) (.int .i64 p.1)) (p:=⟨S,3,none⟩) (by simp) (.int .i64 (p.2:Int))) 0 (.bool sb)) 1 (.slice A n c)) 2 (.int .i64 p.1)) 3 (.int .i64 (p.2:Int))) 4 (.bool false)) 5 (.int .i64 sha)) 6 (.int .i64 shp))
  have hkf:=(Kp.setCell (Kp.setCell (Kp.setCell (Kp.setCell (Kp.setCell (Kp.setCell (Kp.setCell (Kp.setCell (Kp.setCell (Kp.setCell HK7.out (p:=⟨S,4,none⟩) (by rw[HS.out];exact le_) (.bool false)) (p:=⟨S,2,none⟩) (by rw[HS.out];exact le_) (.int .i64 p.1)) (p:=⟨S,3,none⟩) (by rw[HS.out];exact le_) (.int .i64 (p.2:Int))) (p:=⟨S+1,0,none⟩) (by rw[HS.out];exact Nat.le_succ _) (.bool sb)) (p:=⟨S+1,1,none⟩) (by rw[HS.out];exact Nat.le_succ _) (.slice A n c)) (p:=⟨S+1,2,none⟩) (by rw[HS.out];exact Nat.le_succ _) (.int .i64 p.1)) (p:=⟨S+1,3,none⟩) (by rw[HS.out];exact Nat.le_succ _) (.int .i64 (p.2:Int))) (p:=⟨S+1,4,none⟩) (by rw[HS.out];exact Nat.le_succ _) (.bool false)) (p:=⟨S+1,5,none⟩) (by rw[HS.out];exact Nat.le_succ _) (.int .i64 sha)) (p:=⟨S+1,6,none⟩) (by rw[HS.out];exact Nat.le_succ _) (.int .i64 shp));generalize((((((((((w7.setCell ⟨S,4,none⟩ (.bool false)).setCell ⟨S,2,none⟩ (.int .i64 p.1)).setCell ⟨S,3,none⟩ (.int .i64 (p.2:Int))).setCell ⟨S+1,0,none⟩ (.bool sb)).setCell ⟨S+1,1,none⟩ (.slice A n c)).setCell ⟨S+1,2,none⟩ (.int .i64 p.1)).setCell ⟨S+1,3,none⟩ (.int .i64 (p.2:Int))).setCell ⟨S+1,4,none⟩ (.bool false)).setCell ⟨S+1,5,none⟩ (.int .i64 sha)).setCell ⟨S+1,6,none⟩ (.int .i64 shp))=wf at *;have hbf:Bx wf (S+1) #[.bool sb,.slice A n c,.int .i64 p.1,.int .i64 (p.2:Int),.bool false,.int .i64 sha,.int .i64 shp] 66:=hbf;have HKF:=hid hkf;obtain⟨⟨y0,y1,y2,y3,y4,y5,y6⟩,_⟩:=hbf.seven;clear hbf hkf p0 p1 p2 p3 p4 p5 p6 r0 r1 r2 r3 r4 r5 r6;refine bodyPost_ret (v:=.agg #[.bool sb,.slice A n c,.int .i64 p.1,.int .i64 (p.2:Int),.bool false,.int .i64 sha,.int .i64 shp]) (by simp[results,Tryz.results103,go_sem,y0,y1,y2,y3,y4,y5,y6]) rfl ?_;rw[HFR.out];exact⟨rfl,HKF.out⟩
end Go.Proofs.YtociefdcccokjaaGreat

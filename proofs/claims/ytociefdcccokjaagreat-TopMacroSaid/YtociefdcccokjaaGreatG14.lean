/-
  Lemmas for TopMacro. Conditions: each states its own.
-/
import Derived.Test.YtociefdcccokjaaGreatG13
set_option maxHeartbeats 12800000
set_option maxRecDepth 100000
namespace Go.Proofs.YtociefdcccokjaaGreat
open Go.RowKit Go.Lib
section
variable (f:Int→Int)
theorem R32ok.insJ (a:Nat):∀(j:Nat) {l:List Int},R32ok l→R32ok (insJ f a j l)
 |0,_,h=>h
 |j+1,l,h=>by unfold Go.Proofs.YtociefdcccokjaaGreat.insJ;split;exact R32ok.insJ a j (h.swap _ _);exact h
theorem R32ok.insL (a b:Nat):∀(k i:Nat) {l:List Int},R32ok l→R32ok (insL f a b k i l)
 |0,_,_,h=>h
 |k+1,i,l,h=>by unfold Go.Proofs.YtociefdcccokjaaGreat.insL;split;exact R32ok.insL a b k (i+1) (R32ok.insJ f a i h);exact h
theorem R32ok.swR (a b:Nat):∀(k i:Nat) {l:List Int},R32ok l→R32ok (swR a b k i l)
 |0,_,_,h=>h
 |k+1,i,_,h=>R32ok.swR a b k (i+1) (h.swap _ _)
theorem R32ok.rotW (m:Nat):∀(k i j:Nat) {l:List Int},R32ok l→R32ok (rotW m k i j l)
 |0,_,_,_,h=>h
 |k+1,i,j,l,h=>by
  unfold Go.Proofs.YtociefdcccokjaaGreat.rotW
  split
  ·exact R32ok.swR _ _ _ _ h
  ·split
   ·exact R32ok.rotW m k _ _ (R32ok.swR _ _ _ _ h)
   ·exact R32ok.rotW m k _ _ (R32ok.swR _ _ _ _ h)
theorem R32ok.upM (i:Nat):∀(c k:Nat) {l:List Int},R32ok l→R32ok (upM i c k l)
 |0,_,_,h=>h
 |c+1,k,l,h=>by unfold Go.Proofs.YtociefdcccokjaaGreat.upM;split;exact R32ok.upM i c (k+1) (h.swap _ _);exact h
theorem R32ok.downM (i:Nat):∀(k:Nat) {l:List Int},R32ok l→R32ok (downM i k l)
 |0,_,h=>h
 |k+1,l,h=>by unfold Go.Proofs.YtociefdcccokjaaGreat.downM;split;exact R32ok.downM i k (h.swap _ _);exact h
theorem R32ok.symM:∀(k a m b:Nat) {l:List Int},R32ok l→R32ok (symM f k a m b l)
 |0,_,_,_,_,h=>h
 |k+1,a,m,b,l,h=>by
  have hrot:R32ok (if symS f l a m b<m∧m<(a+b) / 2+m - symS f l a m b then rotM (symS f l a m b) m ((a+b) / 2+m - symS f l a m b) l else l):=by
   split
   ·exact R32ok.rotW _ _ _ _ h
   ·exact h
  unfold Go.Proofs.YtociefdcccokjaaGreat.symM
  split
  ·exact R32ok.upM _ _ _ h
  ·split
   ·exact R32ok.downM _ _ h
   ·dsimp only
    generalize(if symS f l a m b<m∧m<(a+b) / 2+m - symS f l a m b then rotM (symS f l a m b) m ((a+b) / 2+m - symS f l a m b) l else l)=l2 at *;have h3:R32ok (if a<symS f l a m b∧symS f l a m b<(a+b) / 2 then Go.Proofs.YtociefdcccokjaaGreat.symM f k a (symS f l a m b) ((a+b) / 2) l2 else l2):=by
     split
     ·exact R32ok.symM k _ _ _ hrot
     ·exact hrot
    split
    ·exact R32ok.symM k _ _ _ h3
    ·exact h3
end
def sy1 (a m b q:Nat)(l:List Int):List Int:=if q<m∧m<(a+b) / 2+m - q then rotM q m ((a+b) / 2+m - q) l else l
def sy2 (f:Int→Int)(k a b q:Nat)(l:List Int):List Int:=if a<q∧q<(a+b) / 2 then symM f k a q ((a+b) / 2) l else l
def sy3 (f:Int→Int)(k a m b q:Nat)(l:List Int):List Int:=if(a+b) / 2<(a+b) / 2+m - q∧(a+b) / 2+m - q<b then symM f k ((a+b) / 2) ((a+b) / 2+m - q) b l else l
theorem symM_gen (f:Int→Int)(k a m b:Nat)(l:List Int)(h1:m - a≠1)(h2:b - m≠1):symM f (k+1) a m b l=sy3 f k a m b (symS f l a m b) (sy2 f k a b (symS f l a m b) (sy1 a m b (symS f l a m b) l)):=by
 show(if _ then _ else if _ then _ else _)=_;rw[if_neg h1,if_neg h2];rfl
theorem sy1_ok (a m b q:Nat){l:List Int}(h:R32ok l):R32ok (sy1 a m b q l)∧(sy1 a m b q l).length=l.length:=by
 unfold sy1;split
 ·exact⟨R32ok.rotW _ _ _ _ h,rotM_len _ _ _ _⟩
 ·exact⟨h,rfl⟩
theorem sy2_ok (f:Int→Int)(k a b q:Nat){l:List Int}(h:R32ok l):R32ok (sy2 f k a b q l)∧(sy2 f k a b q l).length=l.length:=by
 unfold sy2;split
 ·exact⟨R32ok.symM f _ _ _ _ h,vF _ _ _ _ _ _⟩
 ·exact⟨h,rfl⟩
def SymAt (tb R n c:Nat)(vp vs:List Value)(w0:World)(f:Int→Int)(k a m b:Nat)(l:List Int)(w:World):Prop:=
 Calls Tryz.prog 207 #[.slice (some ⟨R,vp.length,none⟩) n c,.int .i64 (a:Int),.int .i64 (m:Int),.int .i64 (b:Int),clV tb] w fun e w'=>e=.returned (.tuple #[])∧Sx w0 w' R vp (symM f k a m b l) vs
theorem sym3_any (wT:World)(tb g:Nat)(T:TM)(R n c k a m b:Nat)(vp vs:List Value)(l:List Int)(w0 w:World)(hcm:Cm wT w0 tb g T R)(h:Sx w0 w R vp l vs)(hln:l.length=n)(h32:R32ok l)(hnc:n≤c)(hc:c≤9223372036854775807)(hn40:n≤1099511627776)(hbn:b≤n)(ham:a<m)(hmb:m<b)(h1m:m - a≠1)(h1b:b - m≠1)
 (hkk:b - a≤k+1)
 (ih:∀(a m b:Nat) (l:List Int) (w:World),a<m→m<b→b≤n→b - a≤k→l.length=n→R32ok l→Sx w0 w R vp l vs→SymAt tb R n c vp vs w0 T.cls k a m b l w):
 SymAt tb R n c vp vs w0 T.cls (k+1) a m b l w:=by
 unfold SymAt;rw[symM_gen _ _ _ _ _ _ h1m h1b];obtain⟨HL,HS,HCM,H32,HIH,HKK⟩:=hid6 hln h hcm h32 ih hkk;have e1:((m:Int) - a==1)=false:=by simp;omega
 have e2:((b:Int) - m==1)=false:=by simp;omega
 clear hln h hcm h32 h1m h1b ih hkk;have hqq:=symS_in T.cls l ham hmb;have HQ:Hid (symS T.cls l a m b=bsP (fun c=>!decide (T.cls (gN l ((a+b) / 2+m - 1 - c))<T.cls (gN l c))) (b - a) (if(a+b) / 2<m then(a+b) / 2+m - b else a) (if(a+b) / 2<m then(a+b) / 2 else m)):=rfl;generalize symS T.cls l a m b=q at *;generalize hvo:vp.length=o at *;have HO:=hid hvo;clear hvo;obtain⟨d,hd⟩:∃d,d=(a+b) / 2:=⟨_,rfl⟩;have hd1:((a:Int)+b) / 2=(d:Int):=by omega
 have hda:a<d:=by omega
 have hdb:d<b:=by omega
 have hd2:2*d≤a+b∧a+b≤2*d+1:=by omega
 rw[←hd]at HQ hqq;obtain⟨s0,hs0⟩:∃s0,s0=if d<m then d+m - b else a:=⟨_,rfl⟩;obtain⟨r0,hr0⟩:∃r0,r0=if d<m then d else m:=⟨_,rfl⟩;rw[←hs0,←hr0]at HQ;have HSR:Hid (s0=(if d<m then d+m - b else a)∧r0=if d<m then d else m):=⟨hs0,hr0⟩;have hsr:s0≤r0∧r0≤m∧r0≤d∧a≤s0∧d+m≤b+s0∧r0 - s0≤b - a:=by split at hs0<;>split at hr0<;>omega
 clear hs0 hr0;obtain⟨hsr1,hsr2,hsr3,hsr4,hsr5,hsr6⟩:=hsr;obtain⟨p,hp⟩:∃p,p+1=d+m:=⟨d+m - 1,by omega⟩;have hp1:(d:Int)+m - 1=(p:Int):=by omega
 have HP:Hid (d+m - 1=p):=by show _=_;omega
 obtain⟨HP2,HD⟩:=hid2 hp hd;have hpl:p<n+n:=by omega
 clear hp hd;unfold clV;go_enter Tryz.func207,Tryz.ntmps207;go_upto_region 27 with fail;go_upto_if 140 with fail;go_cut [20,21] (fun u v wx=>u=.int .i64 s0∧v=.int .i64 r0∧wx=w)
 case first=>as_aux_lemma=>
  by_cases hdm:d<m
  ·have e3:(d:Int)+m - b=(s0:Int):=by have:=HSR.out;rw[if_pos hdm,if_pos hdm]at this;have:=HP2.out;omega
   have e4:d=r0:=by have:=HSR.out;rw[if_pos hdm,if_pos hdm]at this;omega
   have E4:=hid e4;clear e4;go_wp2_with fail;go_meet;exact⟨rfl,by rw[E4.out],rfl⟩
  ·have e3:a=s0:=by have:=HSR.out;rw[if_neg hdm,if_neg hdm]at this;omega
   have e4:m=r0:=by have:=HSR.out;rw[if_neg hdm,if_neg hdm]at this;omega
   obtain⟨E3,E4⟩:=hid2 e3 e4;clear e3 e4;go_wp2_with fail;go_meet;exact⟨by rw[E3.out],by rw[E4.out],rfl⟩
 case rest=>
  obtain⟨rfl,rfl,hwx⟩:=hcut;subst wc;go_wp2_with fail;go_loopw [20,21] (fun u v wr=>∃i j k:Nat,u=.int .i64 i∧v=.int .i64 j∧s0≤i∧i≤j∧j≤r0∧Sx w0 wr R vp l vs∧Hid (q=bsP (fun c=>!decide (T.cls (gN l (d+m - 1 - c))<T.cls (gN l c))) k i j∧j - i≤k)) (fun u v _=>(intOf v - intOf u).toNat)
  case atStart=>exact⟨s0,r0,b - a,rfl,rfl,le_,hsr1,le_,HS.out,HQ.out,hsr6⟩
  case round=>
   obtain⟨i,j,k',rfl,rfl,hsi,hij,hjr,hs,hbs⟩:=hrel;by_cases hlt:i<j
   ·as_aux_lemma=>
    obtain⟨ci,hci⟩:∃ci,ci=(i+j) / 2:=⟨_,rfl⟩;obtain⟨pi,hpi⟩:∃pi,pi+ci=p:=⟨p - ci,by have:=HP2.out;omega⟩;have hcn:ci<n:=by omega
    have hpn:pi<n:=by have:=HP2.out;omega
    have h1:=hs.cell (k:=pi) (by rw[HL.out];exact hpn);have h2:=hs.cell (k:=ci) (by rw[HL.out];exact hcn);rw[HO.out]at h1 h2;obtain⟨HCA,HS2⟩:=hid2 (fun(d:Nat)=>HCM.out.at_ hs d (R32ok.get (k:=pi) H32.out) (R32ok.get (k:=ci) H32.out)) hs;have HC:=cmp_lt (T.cls (gN l pi)) (T.cls (gN l ci));have hbo:=hbs.out;have hc1:((i:Int)+j) / 2=(ci:Int):=by omega
    have hc2:(p:Int) - ci=(pi:Int):=by omega
    have hpe:d+m - 1 - (i+j) / 2=pi:=by rw[HP.out,←hci];omega
    have HCI:=hid hci;have HCN:Hid (i≤ci∧ci<j):=by constructor<;>omega
    clear hs hbs;by_cases hp:¬T.cls (gN l pi)<T.cls (gN l ci)
    ·have HN:Hid (q=bsP (fun c=>!decide (T.cls (gN l (d+m - 1 - c))<T.cls (gN l c))) (k' - 1) (ci+1) j∧j - (ci+1)≤k' - 1):=⟨by rw[hbo.1,hci];exact bsP_yes _ hlt hbo.2 (by rw[hpe,←hci];simpa using hp),by omega⟩
     rw[decide_eq_false hp]at HC;clear hp hbo hpe hpi hci;go_upto_region 35 with fail;go_quiet ((go_at_call 166;exact Calls.quiet_of (HCA.out _)));go_wp2_with fail;go_roundw
     case rel=>exact⟨ci+1,j,k' - 1,by go_num,rfl,by have:=HCN.out;omega,by have:=HCN.out;omega,hjr,HS2.out.dr ⟨_,rfl⟩,HN.out⟩
     case measure=>have:=HCN.out;simp[intOf];omega
    ·have HN:Hid (q=bsP (fun c=>!decide (T.cls (gN l (d+m - 1 - c))<T.cls (gN l c))) (k' - 1) i ci∧ci - i≤k' - 1):=⟨by rw[hbo.1,hci];exact bsP_no _ hlt hbo.2 (by rw[hpe,←hci];simpa using hp),by omega⟩
     rw[decide_eq_true (Classical.not_not.1 hp)]at HC;clear hp hbo hpe hpi hci;go_upto_region 35 with fail;go_quiet ((go_at_call 166;exact Calls.quiet_of (HCA.out _)));go_wp2_with fail;go_roundw
     case rel=>exact⟨i,ci,k' - 1,rfl,rfl,hsi,by have:=HCN.out;omega,by have:=HCN.out;omega,HS2.out.dr ⟨_,rfl⟩,HN.out⟩
     case measure=>have:=HCN.out;simp[intOf];omega
   ·have hij':i=j:=by omega
    subst hij';have hqi:q=i:=by have:=hbs.out.1;rw[bsP_stop _ _ _ _ (by omega)]at this;exact this
    subst hqi;have HS2:=hid hs;clear hs hbs HQ;obtain⟨wo,hwo⟩:∃wo:World,wo=wr:=⟨_,rfl⟩;subst hwo;obtain⟨en,hen⟩:∃en,en+q=d+m:=⟨d+m - q,by omega⟩;have hen1:(d:Int)+m - q=(en:Int):=by omega
    have henm:m≤en:=by omega
    have henb:en≤b:=by omega
    have hmid:(a+b) / 2=d:=HD.out.symm;have hene:d+m - q=en:=by omega
    have H1:Hid (sy1 a m b q l=if q<m∧m<en then rotM q m en l else l):=by show _=_;unfold sy1;rw[hmid,hene]
    have H2:Hid (∀l',sy2 T.cls k a b q l'=if a<q∧q<d then symM T.cls k a q d l' else l'):=by intro l';unfold sy2;rw[hmid]
    have H3:Hid (∀l',sy3 T.cls k a m b q l'=if d<en∧en<b then symM T.cls k d en b l' else l'):=by intro l';unfold sy3;rw[hmid,hene]
    have hdq:q≤d:=by omega
    clear hen hmid hene hqq HSR hp1 hd1 hij hlt hsr1 hsr6 HP HP2 HD;go_upto_region 39 with fail;obtain⟨t1,ht1⟩:∃t1,t1=(decide (q<m)&&decide (m<en)):=⟨_,rfl⟩;have HT1:=hid ht1;clear ht1;go_cut [185] (fun v wx=>v=.bool t1∧wx=wo)
    case first=>as_aux_lemma=>
     by_cases hx:q<m
     ·by_cases hy:m<en
      ·go_wp2_with fail
       go_meet;exact⟨by rw[HT1.out,decide_eq_true hx,decide_eq_true hy];rfl,rfl⟩
      ·go_wp2_with fail
       go_meet;exact⟨by rw[HT1.out,decide_eq_false hy,Bool.and_false],rfl⟩
     ·go_wp2_with fail
      go_meet;exact⟨by rw[HT1.out,decide_eq_false hx,Bool.false_and],rfl⟩
    case rest=>
     obtain⟨rfl,hwx⟩:=hcut;subst wc;go_upto_if 185 with fail;go_cut [] (fun wx=>Sx w0 wx R vp (sy1 a m b q l) vs)
     case first=>as_aux_lemma=>
      cases t1
      ·have HE:Hid (sy1 a m b q l=l):=by show _=_;rw[H1.out,if_neg (by intro h;have:=HT1.out;simp[h.1,h.2]at this)]
       go_wp2_with fail;go_meet;rw[HE.out];exact HS2.out
      ·have ht:=HT1.out
       have hx:q<m∧m<en:=by simpa using ht.symm
       have HE:Hid (sy1 a m b q l=rotM q m en l):=by show _=_;rw[H1.out,if_pos hx]
       have HR:=hid (rot_any R n c q m en (clV tb) vp vs l w0 wo HS2.out HL.out hnc hc hn40 hx.1 hx.2 (by omega));rw[HO.out]at HR;unfold clV at HR;clear ht hx;go_wp2_with fail;refine HR.out.mono ?_;rintro e w1 ⟨rfl,hs1⟩;have HS1:=hid hs1;clear hs1;go_wp2_with fail;go_meet;rw[HE.out];exact HS1.out
     case rest=>
      have HS3:=hid hcut;clear hcut HS2;obtain⟨hok1,hlen1⟩:=sy1_ok a m b q H32.out;have HL1:Hid ((sy1 a m b q l).length=n):=by show _=_;rw[hlen1];exact HL.out
      have HR1:=hid hok1;clear hok1 hlen1;obtain⟨l1,hl1⟩:∃l1,l1=sy1 a m b q l:=⟨_,rfl⟩;rw[←hl1]at HL1 HR1 HS3;have E1:=hid hl1;clear hl1;obtain⟨wo2,hwo2⟩:∃wo2:World,wo2=wc:=⟨_,rfl⟩;subst hwo2;go_upto_region 41 with fail;obtain⟨t2,ht2⟩:∃t2,t2=(decide (a<q)&&decide (q<d)):=⟨_,rfl⟩;have HT2:=hid ht2;clear ht2;go_cut [199] (fun v wx=>v=.bool t2∧wx=wo2)
      case first=>as_aux_lemma=>
       by_cases hx:a<q
       ·by_cases hy:q<d
        ·go_wp2_with fail
         go_meet;exact⟨by rw[HT2.out,decide_eq_true hx,decide_eq_true hy];rfl,rfl⟩
        ·go_wp2_with fail
         go_meet;exact⟨by rw[HT2.out,decide_eq_false hy,Bool.and_false],rfl⟩
       ·go_wp2_with fail
        go_meet;exact⟨by rw[HT2.out,decide_eq_false hx,Bool.false_and],rfl⟩
      case rest=>
       obtain⟨rfl,hwx⟩:=hcut;subst wc;go_upto_if 199 with fail;go_cut [] (fun wx=>Sx w0 wx R vp (sy2 T.cls k a b q l1) vs)
       case first=>as_aux_lemma=>
        cases t2
        ·have HE:Hid (sy2 T.cls k a b q l1=l1):=by show _=_;rw[H2.out,if_neg (by intro h;have:=HT2.out;simp[h.1,h.2]at this)]
         go_wp2_with fail;go_meet;rw[HE.out];exact HS3.out
        ·have ht:=HT2.out
         have hx:a<q∧q<d:=by simpa using ht.symm
         have HE:Hid (sy2 T.cls k a b q l1=symM T.cls k a q d l1):=by show _=_;rw[H2.out,if_pos hx]
         have HR:=HIH.out a q d l1 wo2 hx.1 hx.2 (by omega) (by have:=HKK.out;omega) HL1.out HR1.out HS3.out;unfold SymAt clV at HR;rw[HO.out]at HR;have HR:=hid HR;clear ht hx;go_wp2_with fail;refine HR.out.mono ?_;rintro e w1 ⟨rfl,hs1⟩;have HS1:=hid hs1;clear hs1;go_wp2_with fail;go_meet;rw[HE.out];exact HS1.out
       case rest=>
        have HS4:=hid hcut;clear hcut HS3;obtain⟨hok2,hlen2⟩:=sy2_ok T.cls k a b q HR1.out;have HL2:Hid ((sy2 T.cls k a b q l1).length=n):=by show _=_;rw[hlen2];exact HL1.out
        have HR2:=hid hok2;clear hok2 hlen2;obtain⟨l2,hl2⟩:∃l2,l2=sy2 T.cls k a b q l1:=⟨_,rfl⟩;rw[←hl2]at HL2 HR2 HS4;have E2:=hid hl2;clear hl2;obtain⟨wo3,hwo3⟩:∃wo3:World,wo3=wc:=⟨_,rfl⟩;subst hwo3;by_cases hx:d<en
        ·by_cases hy:en<b
         ·have HE:Hid (sy3 T.cls k a m b q l2=symM T.cls k d en b l2):=by show _=_;rw[H3.out,if_pos ⟨hx,hy⟩]
          have HR:=HIH.out d en b l2 wo3 hx hy hbn (by have:=HKK.out;omega) HL2.out HR2.out HS4.out;unfold SymAt clV at HR;rw[HO.out]at HR;have HR:=hid HR;go_wp2_with fail;refine HR.out.mono ?_;rintro e w1 ⟨rfl,hs1⟩;have HS1:=hid hs1;clear hs1;go_wp2_with fail;go_end0;rw[←E1.out,←E2.out,HE.out];exact⟨rfl,HS1.out⟩
         ·have HE:Hid (sy3 T.cls k a m b q l2=l2):=by show _=_;rw[H3.out,if_neg (by omega)]
          go_wp2_with fail;go_end0;rw[←E1.out,←E2.out,HE.out];exact⟨rfl,HS4.out⟩
        ·have HE:Hid (sy3 T.cls k a m b q l2=l2):=by show _=_;rw[H3.out,if_neg (by omega)]
         go_wp2_with fail;go_end0;rw[←E1.out,←E2.out,HE.out];exact⟨rfl,HS4.out⟩
end Go.Proofs.YtociefdcccokjaaGreat

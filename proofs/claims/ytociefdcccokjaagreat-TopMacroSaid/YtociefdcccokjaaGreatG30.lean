/-
  Lemmas for TopMacro. Conditions: each states its own.
-/
import Derived.Test.YtociefdcccokjaaGreatG25
import Derived.Test.YtociefdcccokjaaGreatG29
set_option maxHeartbeats 6400000
set_option maxRecDepth 100000
namespace Go.Proofs.YtociefdcccokjaaGreat
open Go.RowKit Go.Lib
section
variable {D:Nat→Prop}
theorem part_32 {x:Tx}(h:R32ok x.l)(a b:Int):R32ok (x.part a b):=by
 unfold Tx.part
 split
 ·exact h.sub (cutM_sub _ _ _)
 ·exact R32ok.nil
theorem addR_ok {j:Nat}{L:List (List Int)}{s:List Int}(hl:L.length≤60)(hL:∀x∈L,x.length≤65536*(j+1)∧R32ok x)(hs:s.length≤65536*(j+1)∧R32ok s):
 (addR L s).length≤60∧addR L s≠[]∧∀x∈addR L s,x.length≤65536*(j+1)∧R32ok x:=by
 unfold addR;refine⟨by simp;omega,by simp,fun x hx=>?_⟩;have hx:=List.mem_of_mem_take hx;rcases List.mem_cons.1 hx with rfl|hx
 ·exact hs
 ·exact hL x hx
theorem joinR_ok {j:Nat}{L:List (List Int)}{s:List Int}{ah:Bool}(hl:L.length≤60)(hL:∀x∈L,x.length≤65536*(j+1)∧R32ok x)(hs:s.length≤65536∧R32ok s):
 (joinR L s ah).length≤60∧joinR L s ah≠[]∧∀x∈joinR L s ah,x.length≤65536*(j+1+1)∧R32ok x:=by
 have up:∀x∈L,x.length≤65536*(j+1+1)∧R32ok x:=fun x hx=>⟨by have:=(hL x hx).1;omega,(hL x hx).2⟩
 unfold joinR
 split
 ·exact addR_ok (by simp) (by simp) ⟨by omega,hs.2⟩
 ·rename_i x r
  refine⟨hl,by simp,fun y hy=>?_⟩;rcases List.mem_cons.1 hy with rfl|hy
  ·have h1:=hL x (by simp)
   split
   ·exact⟨by rw[List.length_append];omega,hs.2.app h1.2⟩
   ·exact⟨by rw[List.length_append];omega,h1.2.app hs.2⟩
  ·exact up y (by simp[hy])
theorem EdOk.rings {j:Nat}{e:EdS}(h:EdOk j e)(L:List (List Int))(la:Int)(h1:L.length≤60)(h2:L≠[])(h3:∀x∈L,x.length≤65536*(j+1)∧R32ok x):EdOk j {e with ring:=L,rat:=0,last:=la}:=
 ⟨h.jb,h.c1,h.m1,h1,h3,by dsimp only;omega,.inl (by dsimp only;have:=List.length_pos_iff.2 h2;omega),h.ulen,h.ues,h.pat0,h.pat1,h.plen,h.ptx,h.stash,h.ska,h.skh,h.skp,h.n0,h.run,h.lines⟩
structure KlSt (D:Nat→Prop)(E X G R g:Nat)(e:EdS)(jn:Bool)(ef:EdS)(j:Nat)(w wx:World)(P:Nat)(A:Option Addr)(n c:Nat)(kl:List Int)(f t:Int)(ah:Bool)(b:Bool)(X' G' R':Nat)(v1:EdL)(e1:EdS):Prop where
 ed:EdAt D wx E X' G' R' g e1 v1
 nx:EdN E X G R X' G' R' w wx
 ru:Ru wx (fun k=>¬Ew D E X' G' R' k) A n c kl
 bx:Bx wx P #[.int .i64 f,.int .i64 t,.bool ah] 228
 off:¬Ew D E X' G' R' P
 ok:EdOk (j+1) e1
 ring:e1.ring=e.ring
 last:e1.last=0
 bad:b=true→ef={e1 with bell:=true}
 good:b=false→ef={e1 with ring:=(if jn=true∧e.last=2 then joinR e.ring kl ah else addR e.ring kl),rat:=0,last:=if jn=true then 2 else 0}
section
variable (E X G R g:Nat)(e:EdS)(v:EdL)(T:TM)(wT w:World)(h:EdAt D w E X G R g e v)(hT:TabN wT w g T (Eb E X G R))(j:Nat)(ok:EdOk j e)(hj:j+1≤1000)(s:Sp)(hs:0≤s.frm∧s.tt≤e.tx.l.length)(jn out:Bool)
include h hT ok hj hs
theorem kill_any:Calls Tryz.prog 112 #[.pointer (some ⟨E,0,none⟩),.agg #[.int .i64 s.frm,.int .i64 s.tt,.bool s.ahead],.bool jn,.bool out] w (RetE D (j+1) E X G R g (e.kill T s jn out) (.tuple #[]) w):=by
 obtain⟨f,hf⟩:∃x,x=s.frm:=⟨_,rfl⟩;obtain⟨t,ht⟩:∃x,x=s.tt:=⟨_,rfl⟩;obtain⟨ah,hah⟩:∃x,x=s.ahead:=⟨_,rfl⟩;obtain⟨kl,hkl⟩:∃x,x=e.tx.part f t:=⟨_,rfl⟩;have HPT:=hid (fun(wx:World) (kx:Kp w wx)=>textPart_any X G R g e.tx wx ((h.kp kx).2.tx.tx fun k hk hx=>hk (.inr hx)) s.frm s.tt hs.1 hs.2);rw[←hf,←ht,←hkl]at HPT;rw[←hf,←ht,←hah];obtain⟨ef,hef⟩:∃x,x=e.kill T s jn out:=⟨_,rfl⟩;have hres:ef=if kl=[]then {e with last:=0,bell:=true}else
  (fun p:EdS×Bool=>if p.2=true then {p.1 with ring:=(if jn=true∧e.last=2 then joinR e.ring kl ah else addR e.ring kl),rat:=0,last:=if jn=true then 2 else 0}else {p.1 with bell:=true})
   (if out=true then EdS.change T {e with last:=0} f t [] false else({e with last:=0},true)):=by rw[hef,hkl,hf,ht,hah];rfl
 obtain⟨t1,mk,us,cu,bl,hch⟩:=yX T {e with last:=0} f t [] false;have HCH:=hid (fun(wx:World) (h1:EdAt D wx E X G R g {e with last:=0} v) (hTx:TabN wT wx g T (Eb E X G R))=>zZ E X G R g {e with last:=0} v Any T f t none 0 0 [] false wT wx h1 hTx (Ru.nil _ _) R32ok.nil (by omega) j (ok.run_ 0 e.run e.bell ok.run) hj);obtain⟨b2,hb2⟩:∃b,b=(EdS.change T {e with last:=0} f t [] false).2:=⟨_,rfl⟩;have hpair:EdS.change T {e with last:=0} f t [] false=({e with last:=0,tx:=t1,mark:=mk,undo:=us,cursor:=cu,bell:=bl},b2):=Prod.ext hch hb2.symm;rw[hpair]at hres HCH;clear hpair;obtain⟨HRS,HK32,HKL⟩:=hid3 hres (show R32ok kl by rw[hkl];exact part_32 (h.2.tx.tx fun k hk hx=>hk (.inr hx)).ok.r32 f t) (show kl.length≤65536 by rw[hkl];have:=part_len e.tx f t;have:=(h.2.tx.tx fun k hk hx=>hk (.inr hx)).ok.len;omega);rw[←hef];obtain⟨H,HT,HOK,HJ⟩:=hid4 h hT ok hj;clear h hs hres hch hb2 hf ht hah hkl hef ok hj hT;go_enter Tryz.func112,Tryz.ntmps112;go_upto_region 1 with fail;have k1:=(Kp.refl w).alloc (.cells #[.int .i64 f,.int .i64 t,.bool ah] 228);have bs:=Bx.new w #[.int .i64 f,.int .i64 t,.bool ah] 228;obtain⟨P,hP⟩:∃P,P=w.heap.size:=⟨_,rfl⟩;rw[←hP]at bs⊢;obtain⟨HP,K1,HB1⟩:=hid3 (show¬Ew D E X G R P by rw[hP];exact H.out.new_off _ le_) k1 bs;clear hP k1 bs;generalize(w.alloc (.cells #[.int .i64 f,.int .i64 t,.bool ah] 228))=w1 at *;have H1:=hid (H.out.kp K1.out);have p2:w1.cell? ⟨E,2,none⟩=some (.pointer (some ⟨X,0,none⟩)):=(H1.out.c 2 rfl).1;obtain⟨b0,b1,b2,_,_,_⟩:=HB1.out.three;go_cut [8] (fun x wx=>∃A n c,x=.slice A n c∧Ru wx (From w.heap.size) A n c kl∧Kp w1 wx)
 case first=>
  go_region_held3 (fun w'=>w'.cell? ⟨E,2,none⟩=some (.pointer (some ⟨X,0,none⟩))∧w'.cell? ⟨P,0,none⟩=some (.int .i64 f)∧w'.cell? ⟨P,1,none⟩=some (.int .i64 t))
   (first|(with_reducible exact⟨p2,b0,b1⟩)|(with_reducible exact⟨r2,c0,c1⟩)|go_keep)
   (first|(go_at_call 147;go_loud (refine(HPT.out _ (K1.out.trans (Kp.refl w1).drew)).mono ?_);rintro en w3 ⟨A3,n3,c3,rfl,hr3,k3'⟩;have k3:Kp w1 w3:=(Kp.refl w1).drew.trans k3';have r2:w3.cell? ⟨E,2,none⟩=some (.pointer (some ⟨X,0,none⟩)):=((H1.out.kp k3).c 2 rfl).1;obtain⟨c0,c1,c2,_,_,_⟩:=(HB1.out.kp k3).three))
  go_wp2_with fail;go_meet;exact⟨A3,n3,c3,rfl,Sl.weak hr3 (fun q _ hq=>Nat.le_trans K1.out.size hq),k3⟩
 case rest=>
  obtain⟨A,n,c,rfl,hkr,kk⟩:=hcut;have hkn:=Ru.len hkr;obtain⟨H2,HKR,HB2,K2⟩:=hid4 (H1.out.kp kk) hkr (HB1.out.kp kk) (K1.out.trans kk);clear hkr kk p2 b0 b1 b2
  rename World=>w2
  obtain⟨p25,f25⟩:w2.cell? ⟨E,25,none⟩=some (.int .i64 e.last)∧w2.frozen? ⟨E,25,none⟩=false:=H2.out.c 25 rfl;obtain⟨la,hla⟩:∃x,x=e.last:=⟨_,rfl⟩;rw[←hla]at p25;have HLA:=hid hla;have hE2:=H2.out.1.lt;clear hla;obtain⟨H3,HKR3,HB3,N3⟩:=hid4 (H2.out.set (e':={e with last:=0}) 25 (.int .i64 0) rfl rfl rfl rfl rfl rfl rfl rfl) (Sl.setCell (p:=⟨E,25,none⟩) HKR.out (fun hq=>by have:=H.out.1.lt;unfold From at hq;simp at hq;omega) (.int .i64 0)) (HB2.out.far (p:=⟨E,25,none⟩) (fun hp=>HP.out (.inl (.inl hp))) (.int .i64 0)) ((EdN.refl (E:=E) (X:=X) (G:=G) (R:=R) K2.out).set 25 (.int .i64 0));go_upto_region 4 with fail;clear H1 HB1 K1 H2 HKR HB2 p25 f25;generalize(w2.setCell ⟨E,25,none⟩ (.int .i64 0))=w3 at *;go_cut [42] (fun x wx=>∃b X' G' R' v1 e1,x=.bool b∧KlSt D E X G R g e jn ef j w wx P A n c kl f t ah b X' G' R' v1 e1)
  case first=>
   obtain⟨HUP,HKF⟩:=hid2 ((HOK.out.up (k:=j+1) (by omega) HJ.out).run_ 0 e.run e.bell HOK.out.run) (Sl.weak (G:=fun k=>¬Ew D E X G R k) HKR3.out (fun q _ hq hE=>by have:=H.out.lt q hE;unfold From at hq;omega));by_cases hk:kl=[]
   ·subst hk
    obtain rfl:n=0:=by simpa using hkn.symm
    have HE2:=hid (show ef={e with last:=0,bell:=true} by rw[HRS.out,if_pos rfl]);go_wp2_with fail;go_meet;exact⟨true,X,G,R,v,{e with last:=0},rfl,H3.out,N3.out,HKF.out,HB3.out,HP.out,HUP.out,rfl,rfl,fun _=>HE2.out,fun hf=>by cases hf⟩
   ·have hn0:((n:Int)==0)=false:=by have :0<kl.length:=List.length_pos_iff.2 hk;simp;omega
    have hrs:=HRS.out;rw[if_neg hk]at hrs;have HRS2:=hid hrs;clear hrs HRS hk;cases out with
    |false=>
     have HE2:=hid (HRS2.out);go_wp2_with fail;go_meet;exact⟨false,X,G,R,v,{e with last:=0},rfl,H3.out,N3.out,HKF.out,HB3.out,HP.out,HUP.out,rfl,rfl,(fun hf=>by cases hf),fun _=>HE2.out⟩
    |true=>
     obtain⟨b0,b1,b2',_,_,_⟩:=HB3.out.three;go_wp2_with fail;refine(HCH.out w3 H3.out (N3.out.tab HT.out)).mono ?_;rintro en w4 ⟨rfl,X',G',R',v1,h4,n4,ok4⟩;obtain⟨N4,HK4,HB4,H4,OK4⟩:=hid5 (N3.out.trans n4) (n4.ru HKF.out) (n4.bx HB3.out HP.out) h4 ok4;clear h4 n4 ok4 HCH b0 b1 b2';cases b2 with
     |true=>
      have HE2:=hid (HRS2.out);go_wp2_with fail;go_meet;exact⟨false,X',G',R',v1,_,rfl,H4.out,N4.out,HK4.out,HB4.out.1,HB4.out.2,OK4.out,rfl,rfl,(fun hf=>by cases hf),fun _=>HE2.out⟩
     |false=>
      have HE2:=hid (HRS2.out);go_wp2_with fail;go_meet;exact⟨true,X',G',R',v1,_,rfl,H4.out,N4.out,HK4.out,HB4.out.1,HB4.out.2,OK4.out,rfl,rfl,(fun _=>HE2.out),fun hf=>by cases hf⟩
  case rest=>
   obtain⟨b,X',G',R',v1,e1,rfl,hst⟩:=hcut;have HST:=hid hst;clear hst;cases b with
   |true=>
    have HB:=hid (zO E X' G' R' g _ v1 _ HST.out.ed);go_wp2_with fail;refine HB.out.mono ?_;rintro en w5 ⟨rfl,h5,m5⟩;go_wp2_with fail;go_end0;refine⟨rfl,X',G',R',v1,?_,HST.out.nx.then_mu (m5.weak (S':=Eb E X' G' R') fun _ _ q=>.inl q),?_⟩
    ·rw[HST.out.bad rfl];exact h5
    ·rw[HST.out.bad rfl];exact HST.out.ok.ring_
   |false=>
    cases jn with
    |true=>
     by_cases hl:la=2
     ·have q1:(la==2)=true:=by simpa using hl
      have hla2:e.last=2:=by rw[←HLA.out];exact hl
      clear hl;obtain⟨HJN,HEF,HRO⟩:=hid3 (fun(wx:World) (kx:Kp wc wx)=>ringJoin_any (fun q=>¬Ew D E X' G' R' q) _ v1.rA A v1.rn v1.rc n c e1.rat e.ring kl ah wx (fun q hq hE=>by have:=(HST.out.ed.kp kx).lt q hE;omega) (by have:=(HST.out.ed.kp kx).2.ring;rw[HST.out.ring]at this;exact this) (Sl.kp HST.out.ru kx) (by have:=HST.out.ed.2.ring.len;rw[HST.out.ring]at this;have:=HOK.out.rlen;omega) (by have:=Ru.len HST.out.ru;have:=HKL.out;omega) (fun x hx=>by have:=(HOK.out.rtx x hx).1;have:=HOK.out.jb;omega)) (show ef={e1 with ring:=joinR e.ring kl ah,rat:=0,last:=2} by rw[HST.out.good rfl,if_pos ⟨rfl,hla2⟩];rfl) (joinR_ok (ah:=ah) HOK.out.rlen HOK.out.rtx ⟨HKL.out,HK32.out⟩);clear hla2;obtain⟨p5,f5⟩:wc.cell? ⟨E,5,none⟩=some (.slice v1.rA v1.rn v1.rc)∧wc.frozen? ⟨E,5,none⟩=false:=HST.out.ed.c 5 rfl;obtain⟨p6,f6⟩:wc.cell? ⟨E,6,none⟩=some (.int .i64 e1.rat)∧wc.frozen? ⟨E,6,none⟩=false:=HST.out.ed.c 6 rfl;have hE:=HST.out.ed.1.lt;obtain⟨d0,d1,d2,_,_,_⟩:=HST.out.bx.three;go_upto_region 7 with fail;go_region_with ((go_at_call 148;refine(HJN.out _ (Kp.refl wc).drew).mono ?_;rintro en w6 ⟨A6,n6,c6,rfl,hT6,k6⟩;have K6:=hid ((Kp.refl wc).drew.trans k6);have HT6:=hid hT6;have H6:=hid (HST.out.ed.kp K6.out);obtain⟨q5,g5⟩:w6.cell? ⟨E,5,none⟩=some (.slice v1.rA v1.rn v1.rc)∧w6.frozen? ⟨E,5,none⟩=false:=H6.out.c 5 rfl;obtain⟨q6,g6⟩:w6.cell? ⟨E,6,none⟩=some (.int .i64 e1.rat)∧w6.frozen? ⟨E,6,none⟩=false:=H6.out.c 6 rfl;obtain⟨q25,g25⟩:w6.cell? ⟨E,25,none⟩=some (.int .i64 e1.last)∧w6.frozen? ⟨E,25,none⟩=false:=H6.out.c 25 rfl;have hE6:=H6.out.1.lt;clear hT6 k6))
      all_goals
       go_wp2_with fail;go_end0;refine⟨rfl,X',G',R',{v1 with rA:=A6,rn:=n6,rc:=c6},?_,((((HST.out.nx.then_kp K6.out).set 5 _).set 6 _).set 25 _),?_⟩
       ·rw[HEF.out]
        exact(H6.out.ring_ HT6.out).set 25 _ rfl rfl rfl rfl rfl rfl rfl rfl
       ·rw[HEF.out]
        exact HST.out.ok.rings _ _ HRO.out.1 HRO.out.2.1 HRO.out.2.2
     ·have q1:(la==2)=false:=by simpa using hl
      have hla2:¬e.last=2:=by rw[←HLA.out];exact hl
      clear hl;obtain⟨HJN,HEF,HRO⟩:=hid3 (fun(wx:World) (kx:Kp wc wx)=>ringAdd_any (fun q=>¬Ew D E X' G' R' q) _ v1.rA A v1.rn v1.rc n c e1.rat e.ring kl wx (fun q hq hE=>by have:=(HST.out.ed.kp kx).lt q hE;omega) (by have:=(HST.out.ed.kp kx).2.ring;rw[HST.out.ring]at this;exact this) (Sl.kp HST.out.ru kx) (by have:=HST.out.ed.2.ring.len;rw[HST.out.ring]at this;have:=HOK.out.rlen;omega) (by have:=Ru.len HST.out.ru;have:=HKL.out;omega)) (show ef={e1 with ring:=addR e.ring kl,rat:=0,last:=2} by rw[HST.out.good rfl,if_neg (fun hh=>hla2 hh.2)];rfl) (addR_ok (j:=j+1) (s:=kl) HOK.out.rlen (fun x hx=>⟨by have:=(HOK.out.rtx x hx).1;omega,(HOK.out.rtx x hx).2⟩) ⟨by have:=HKL.out;omega,HK32.out⟩);clear hla2;obtain⟨p5,f5⟩:wc.cell? ⟨E,5,none⟩=some (.slice v1.rA v1.rn v1.rc)∧wc.frozen? ⟨E,5,none⟩=false:=HST.out.ed.c 5 rfl;obtain⟨p6,f6⟩:wc.cell? ⟨E,6,none⟩=some (.int .i64 e1.rat)∧wc.frozen? ⟨E,6,none⟩=false:=HST.out.ed.c 6 rfl;have hE:=HST.out.ed.1.lt;go_upto_region 8 with fail;go_wp2_with fail;refine(HJN.out _ (Kp.refl wc)).mono ?_;rintro en w6 ⟨A6,n6,c6,rfl,hT6,k6⟩;obtain⟨K6,HT6⟩:=hid2 ((Kp.refl wc).trans k6) hT6;have H6:=hid (HST.out.ed.kp K6.out);obtain⟨q5,g5⟩:w6.cell? ⟨E,5,none⟩=some (.slice v1.rA v1.rn v1.rc)∧w6.frozen? ⟨E,5,none⟩=false:=H6.out.c 5 rfl;obtain⟨q6,g6⟩:w6.cell? ⟨E,6,none⟩=some (.int .i64 e1.rat)∧w6.frozen? ⟨E,6,none⟩=false:=H6.out.c 6 rfl;obtain⟨q25,g25⟩:w6.cell? ⟨E,25,none⟩=some (.int .i64 e1.last)∧w6.frozen? ⟨E,25,none⟩=false:=H6.out.c 25 rfl;have hE6:=H6.out.1.lt;clear hT6 k6
      all_goals
       go_wp2_with fail;go_end0;refine⟨rfl,X',G',R',{v1 with rA:=A6,rn:=n6,rc:=c6},?_,((((HST.out.nx.then_kp K6.out).set 5 _).set 6 _).set 25 _),?_⟩
       ·rw[HEF.out]
        exact(H6.out.ring_ HT6.out).set 25 _ rfl rfl rfl rfl rfl rfl rfl rfl
       ·rw[HEF.out]
        exact HST.out.ok.rings _ _ HRO.out.1 HRO.out.2.1 HRO.out.2.2
    |false=>
     obtain⟨HJN,HEF,HRO⟩:=hid3 (fun(wx:World) (kx:Kp wc wx)=>ringAdd_any (fun q=>¬Ew D E X' G' R' q) _ v1.rA A v1.rn v1.rc n c e1.rat e.ring kl wx (fun q hq hE=>by have:=(HST.out.ed.kp kx).lt q hE;omega) (by have:=(HST.out.ed.kp kx).2.ring;rw[HST.out.ring]at this;exact this) (Sl.kp HST.out.ru kx) (by have:=HST.out.ed.2.ring.len;rw[HST.out.ring]at this;have:=HOK.out.rlen;omega) (by have:=Ru.len HST.out.ru;have:=HKL.out;omega)) (show ef={e1 with ring:=addR e.ring kl,rat:=0,last:=0} by rw[HST.out.good rfl,if_neg (fun hh=>by cases hh.1)];rfl) (addR_ok (j:=j+1) (s:=kl) HOK.out.rlen (fun x hx=>⟨by have:=(HOK.out.rtx x hx).1;omega,(HOK.out.rtx x hx).2⟩) ⟨by have:=HKL.out;omega,HK32.out⟩);obtain⟨p5,f5⟩:wc.cell? ⟨E,5,none⟩=some (.slice v1.rA v1.rn v1.rc)∧wc.frozen? ⟨E,5,none⟩=false:=HST.out.ed.c 5 rfl;obtain⟨p6,f6⟩:wc.cell? ⟨E,6,none⟩=some (.int .i64 e1.rat)∧wc.frozen? ⟨E,6,none⟩=false:=HST.out.ed.c 6 rfl;have hE:=HST.out.ed.1.lt;go_upto_region 8 with fail;go_wp2_with fail;refine(HJN.out _ (Kp.refl wc)).mono ?_;rintro en w6 ⟨A6,n6,c6,rfl,hT6,k6⟩;obtain⟨K6,HT6⟩:=hid2 ((Kp.refl wc).trans k6) hT6;have H6:=hid (HST.out.ed.kp K6.out);obtain⟨q5,g5⟩:w6.cell? ⟨E,5,none⟩=some (.slice v1.rA v1.rn v1.rc)∧w6.frozen? ⟨E,5,none⟩=false:=H6.out.c 5 rfl;obtain⟨q6,g6⟩:w6.cell? ⟨E,6,none⟩=some (.int .i64 e1.rat)∧w6.frozen? ⟨E,6,none⟩=false:=H6.out.c 6 rfl;obtain⟨q25,g25⟩:w6.cell? ⟨E,25,none⟩=some (.int .i64 e1.last)∧w6.frozen? ⟨E,25,none⟩=false:=H6.out.c 25 rfl;have hE6:=H6.out.1.lt;clear hT6 k6
     all_goals
      go_wp2_with fail;go_end0;refine⟨rfl,X',G',R',{v1 with rA:=A6,rn:=n6,rc:=c6},?_,(((HST.out.nx.then_kp K6.out).set 5 _).set 6 _),?_⟩
      ·rw[HEF.out]
       have hh:=H6.out.ring_ (at_:=0) HT6.out;rw[show e1={e1 with last:=0} by have:=HST.out.last;cases e1;dsimp only at this⊢;rw[this]]at hh;exact hh
      ·rw[HEF.out]
       exact HST.out.ok.rings _ _ HRO.out.1 HRO.out.2.1 HRO.out.2.2
end
end
section
variable {D:Nat→Prop}
theorem word_in (T:TM){x:Tx}(ht:TxOk x)(a n:Int):0≤x.word T a n∧x.word T a n≤x.l.length:=by
 unfold Tx.word
 split
 ·unfold wordBackW
  have h:=floorB_in T x.l a;exact backW_in T x.l _ _ _ h.1 h.2.1
 ·split
  ·exact ht.ix.floor_in a
  ·exact forwardW_in T x.l a
theorem wordsN_in (T:TM){x:Tx}(ht:TxOk x)(step:Int):∀(k:Nat) (a:Int),0≤a→a≤x.l.length→0≤wordsN T x step k a∧wordsN T x step k a≤x.l.length
 |0,_,h0,h1=>⟨h0,h1⟩
 |k+1,a,_,_=>wordsN_in T ht step k _ (word_in T ht a step).1 (word_in T ht a step).2
theorem wordsO_in (T:TM){x:Tx}(ht:TxOk x)(a n:Int)(h0:0≤a)(h1:a≤x.l.length):0≤xR T x a n∧xR T x a n≤x.l.length:=by
 unfold xR
 split
 ·exact wordsN_in T ht _ _ _ h0 h1
 ·exact wordsN_in T ht _ _ _ h0 h1
theorem takeO_in {T:TM}{x:Tx}(ht:TxOk x){c a m n:Int}{s:Sp}(h:takeO T x c a m n=some s):0≤s.frm∧s.tt≤x.l.length:=by
 have hf:=ht.ix.floor_in a;have key:∀o,otherO T x c (x.floor a) m n=some o→0≤o∧o≤x.l.length:=by
  intro o ho;have h1:0≤x.floor a∧x.floor a≤x.l.length:=hf;unfold otherO at ho
  repeat' (split at ho)
  all_goals(try(injection ho with ho;subst ho))
  ·exact ht.ix.on_in _ _
  ·exact ht.ix.on_in _ _
  ·exact wordsO_in T ht _ _ h1.1 h1.2
  ·exact wordsO_in T ht _ _ h1.1 h1.2
  ·omega
  ·omega
  ·exact ht.ix.floor_in m
  ·cases ho
 unfold takeO at h
 split at h
 ·rename_i o ho
  have:=key o ho
  injection h with h
  subst h;unfold Tx.floor;dsimp only;omega
 ·cases h
def spO (o:Option Sp):Sp:=o.getD ⟨0,0,false⟩
theorem take_u (X G R g:Nat)(x:Tx)(T:TM)(c at_ mark n:Int)(w:World)(h:TxAt w X G R g x)(hT:TabAt w g T)(hn1: -9223372036854775808≤n)(hn2:n≤9223372036854775807)(o:Option Sp)(ho:takeO T x c at_ mark n=o):
 Calls Tryz.prog 111 #[.pointer (some ⟨X,0,none⟩),.int .i64 c,.int .i64 at_,.int .i64 mark,.int .i64 n] w fun e w'=>e=.returned (.tuple #[.agg #[.int .i64 (spO o).frm,.int .i64 (spO o).tt,.bool (spO o).ahead],.bool o.isSome])∧Kp w w':=by
 refine(mtake_any X G R g x T c at_ mark n w h hT hn1 hn2).mono ?_;intro e w' k;rw[ho]at k;cases o with
 |some s=>exact k
 |none=>exact k
theorem spO_in {T:TM}{x:Tx}(ht:TxOk x)(c a m n:Int):0≤(spO (takeO T x c a m n)).frm∧(spO (takeO T x c a m n)).tt≤x.l.length:=by
 cases h:takeO T x c a m n with
 |some s=>exact takeO_in ht h
 |none=>unfold spO;simp
def SpAt (sf st:Int)(sa b:Bool)(x y:Value)(w w':World):Prop:=∃P,x=.pointer (some ⟨P,0,none⟩)∧y=.bool b∧Bx w' P #[.int .i64 sf,.int .i64 st,.bool sa] 228∧Kp w w'∧w.heap.size≤P
theorem spAt_set {sf st:Int}{sa b:Bool}{w w4:World}{P:Nat}{x y z:Value}(kk:Kp w w4)(fa:Bx w4 P #[x,y,z] 228)(hq:w.heap.size≤P):
 SpAt sf st sa b (.pointer (some ⟨P,0,none⟩)) (.bool b) w (((w4.setCell ⟨P,0,none⟩ (.int .i64 sf)).setCell ⟨P,1,none⟩ (.int .i64 st)).setCell ⟨P,2,none⟩ (.bool sa)):=
 ⟨P,rfl,rfl,fa.set3 _ _ _,((kk.setCell hq _).setCell hq _).setCell hq _,hq⟩
theorem spAt_new {sf st:Int}{sa b:Bool}{w w4:World}(kk:Kp w w4):SpAt sf st sa b (.pointer (some ⟨w4.heap.size,0,none⟩)) (.bool b) w (w4.alloc (.cells #[.int .i64 sf,.int .i64 st,.bool sa] 228)):=
 ⟨_,rfl,rfl,Bx.new _ _ _,kk.alloc _,kk.size⟩
theorem held3s {w:World}{E X G R g P:Nat}{e:EdS}{v:EdL}(h:EdAt D w E X G R g e v)(hn:E≠P)(a b c:Value):
 (((w.setCell ⟨P,0,none⟩ a).setCell ⟨P,1,none⟩ b).setCell ⟨P,2,none⟩ c).cell? ⟨E,2,none⟩=some (.pointer (some ⟨X,0,none⟩))∧(((w.setCell ⟨P,0,none⟩ a).setCell ⟨P,1,none⟩ b).setCell ⟨P,2,none⟩ c).cell? ⟨E,3,none⟩=some (.int .i64 e.cursor)∧
 (((w.setCell ⟨P,0,none⟩ a).setCell ⟨P,1,none⟩ b).setCell ⟨P,2,none⟩ c).cell? ⟨E,4,none⟩=some (.int .i64 e.mark):=by
 have b1:=Bx.far (p:=⟨P,2,none⟩) (Bx.far (p:=⟨P,1,none⟩) (Bx.far (p:=⟨P,0,none⟩) h.1 hn a) hn b) hn c;exact⟨b1.cell 2,b1.cell 3,b1.cell 4⟩
theorem held3s' {w:World}{E X G R g P:Nat}{e:EdS}{v:EdL}(h:EdAt D w E X G R g e v)(hn:E≠P){mk:Int}(hm:mk=e.mark)(a b c:Value):
 (((w.setCell ⟨P,0,none⟩ a).setCell ⟨P,1,none⟩ b).setCell ⟨P,2,none⟩ c).cell? ⟨E,2,none⟩=some (.pointer (some ⟨X,0,none⟩))∧(((w.setCell ⟨P,0,none⟩ a).setCell ⟨P,1,none⟩ b).setCell ⟨P,2,none⟩ c).cell? ⟨E,3,none⟩=some (.int .i64 e.cursor)∧
 (((w.setCell ⟨P,0,none⟩ a).setCell ⟨P,1,none⟩ b).setCell ⟨P,2,none⟩ c).cell? ⟨E,4,none⟩=some (.int .i64 mk):=by
 rw[hm];exact held3s h hn a b c
section
variable (E X G R g:Nat)(e:EdS)(v:EdL)(T:TM)(wT w:World)(h:EdAt D w E X G R g e v)(hT:TabN wT w g T (Eb E X G R))(j:Nat)(ok:EdOk j e)(hj:j+1≤1000)
include h ok hT hj
theorem region_any (c:Int):Calls Tryz.prog 82 #[.pointer (some ⟨E,0,none⟩),.int .i64 c] w (RetE D (j+1) E X G R g (e.region T c) (.tuple #[]) w):=by
 obtain⟨ef,hef⟩:∃x,x=e.region T c:=⟨_,rfl⟩;rw[←hef];obtain⟨o,ho⟩:∃x,x=takeO T e.tx c e.cursor e.mark 1:=⟨_,rfl⟩;have hres:ef=if e.mark<0 then {e with bell:=true,last:=0}else e.kill T (spO o) false (decide (c=15)):=by
  rw[hef];unfold EdS.region;rw[←ho];cases o<;>rfl
 have htx:TxOk e.tx:=(h.2.tx.tx fun k hk hx=>hk (.inr hx)).ok;have HTK:=hid (fun(wx:World) (kx:Kp w wx)=>take_u X G R g e.tx T c e.cursor e.mark 1 wx ((h.kp kx).2.tx.tx fun k hk hx=>hk (.inr hx)) (hT.next kx).tab (by omega) (by omega) o ho.symm);obtain⟨sf,hsf⟩:∃x,x=(spO o).frm:=⟨_,rfl⟩;obtain⟨st,hst⟩:∃x,x=(spO o).tt:=⟨_,rfl⟩;obtain⟨sa,hsa⟩:∃x,x=(spO o).ahead:=⟨_,rfl⟩;obtain⟨ob,hob⟩:∃x,x=o.isSome:=⟨_,rfl⟩;rw[←hsf,←hst,←hsa,←hob]at HTK;obtain⟨HSP,HIN,HRS,H,HT,HOK,HJ⟩:=hid7 (show spO o=⟨sf,st,sa⟩ by rw[hsf,hst,hsa]) (show 0≤(spO o).frm∧(spO o).tt≤e.tx.l.length by rw[ho];exact spO_in htx c e.cursor e.mark 1) hres h hT ok hj;have p2:w.cell? ⟨E,2,none⟩=some (.pointer (some ⟨X,0,none⟩)):=(h.c 2 rfl).1;have p3:w.cell? ⟨E,3,none⟩=some (.int .i64 e.cursor):=(h.c 3 rfl).1;have p4:w.cell? ⟨E,4,none⟩=some (.int .i64 e.mark):=(h.c 4 rfl).1;have HE:=hid h.1.lt;obtain⟨mk,hmk⟩:∃x,x=e.mark:=⟨_,rfl⟩;rw[←hmk]at p4 HTK;have HMK:=hid hmk;clear h hT ok hj hef ho hres htx hmk hsf hst hsa hob;by_cases hm:mk<0
 ·have HE2:=hid (show ef={e with bell:=true,last:=0} by rw[HRS.out,if_pos (by rw[←HMK.out];exact hm)])
  have HB:=hid (zO E X G R g e v w H.out);go_enter Tryz.func82,Tryz.ntmps82;go_wp2_with fail;refine HB.out.mono ?_;rintro en w1 ⟨rfl,h1,m1⟩;obtain⟨N1,H1⟩:=hid2 (EdN.of_mu (E:=E) (X:=X) (G:=G) (R:=R) (m1.weak (S':=Eb E X G R) fun _ _ q=>.inl q)) h1;clear h1 m1 p2 p3 p4;obtain⟨p25,f25⟩:w1.cell? ⟨E,25,none⟩=some (.int .i64 e.last)∧w1.frozen? ⟨E,25,none⟩=false:=H1.out.c 25 rfl;go_wp2_with fail;go_end0;refine⟨rfl,X,G,R,v,?_,N1.out.set 25 _,?_⟩
  ·rw[HE2.out]
   exact H1.out.set 25 _ rfl rfl rfl rfl rfl rfl rfl rfl
  ·rw[HE2.out]
   exact(HOK.out.up (k:=j+1) (by omega) HJ.out).run_ 0 e.run true HOK.out.run
 ·have HE2:=hid (show ef=e.kill T (spO o) false (decide (c=15)) by rw[HRS.out,if_neg (by rw[←HMK.out];exact hm)])
  go_enter Tryz.func82,Tryz.ntmps82;go_upto_region 3 with fail;go_cut [4,5] (fun x y wx=>Hid (SpAt sf st sa ob x y w wx))
  case first=>
   go_region_held3 (fun w'=>w'.cell? ⟨E,2,none⟩=some (.pointer (some ⟨X,0,none⟩))∧w'.cell? ⟨E,3,none⟩=some (.int .i64 e.cursor)∧w'.cell? ⟨E,4,none⟩=some (.int .i64 mk))
    (first|(with_reducible exact⟨p2,p3,p4⟩)|(with_reducible exact⟨r2,r3,r4⟩)|(with_reducible exact held3s' H3 nP HMK.out _ _ _)|go_keep)
    (first|(go_at_call 111;(first|(refine(HTK.out _ (Kp.refl w).drew).mono ?_;rintro en w3 ⟨rfl,k3⟩;have K3:=hid ((Kp.refl w).drew.trans k3))|(refine(HTK.out _ ((Kp.refl w).drew.alloc _)).mono ?_;rintro en w3 ⟨rfl,k3⟩;have K3:=hid (((Kp.refl w).drew.alloc _).trans k3);have fa:Bx w3 w.heap.size _ _:=Bx.kp (Bx.new w.drew _ _) k3;have nP:E≠w.heap.size:=Nat.ne_of_lt HE.out;obtain⟨b0,b1,b2,z0,z1,z2⟩:=fa.three;have bl:=fa.lt));have H3:=H.out.kp K3.out;have hE3:=H3.1.lt;have r2:w3.cell? ⟨E,2,none⟩=some (.pointer (some ⟨X,0,none⟩)):=(H3.c 2 rfl).1;have r3:w3.cell? ⟨E,3,none⟩=some (.int .i64 e.cursor):=(H3.c 3 rfl).1;have r4:w3.cell? ⟨E,4,none⟩=some (.int .i64 mk):=by rw[HMK.out];exact(H3.c 4 rfl).1))
   all_goals
    go_wp2_with fail;go_meet;first
     |exact spAt_new K3.out
     |exact spAt_set K3.out fa le_
  case rest=>
   obtain⟨P,rfl,rfl,hb,kk,hP⟩:=hcut.out;obtain⟨d0,d1,d2,_,_,_⟩:=hb.three;obtain⟨H4,KK⟩:=hid2 (H.out.kp kk) kk;obtain⟨q,hq⟩:∃q,q=decide (c=15):=⟨_,rfl⟩;have hq':(c==15)=q:=by rw[hq];exact rfl
   have HKL:=hid (kill_any E X G R g e v T wT wc H4.out (HT.out.next kk) j HOK.out HJ.out (spO o) HIN.out false q);rw[hq,←HE2.out]at HKL;rw[HSP.out]at HKL;rw[←hq]at HKL;dsimp only at HKL;clear hb kk hP hcut hq p2 p3 p4;go_wp2_with fail;refine HKL.out.mono ?_;rintro en w5 ⟨rfl,X',G',R',v1,h5,n5,ok5⟩;go_wp2_with fail;go_end0;exact⟨rfl,X',G',R',v1,h5,(EdN.refl (E:=E) (X:=X) (G:=G) (R:=R) KK.out).trans n5,ok5⟩
end
end
section
variable {D:Nat→Prop}
theorem moveO_in {T:TM}{x:Tx}(ht:TxOk x)(c a n:Int):(moveO T x c a n).1≤x.l.length:=by
 unfold moveO;have hf:=ht.ix.floor_in a;have h1:0≤x.floor a∧x.floor a≤x.l.length:=hf
 split
 ·exact(ht.ix.on_in _ _).2
 ·split
  ·exact(ht.ix.on_in _ _).2
  ·split
   ·exact(wordsO_in T ht _ _ h1.1 h1.2).2
   ·split
    ·exact(wordsO_in T ht _ _ h1.1 h1.2).2
    ·split
     ·dsimp only;omega
     ·split
      ·dsimp only;omega
      ·exact h1.2
theorem EdOk.cur {j:Nat}{e:EdS}(h:EdOk j e)(b:Bool)(cu la:Int)(hc:cu≤65536):EdOk j {e with bell:=b,cursor:=cu,last:=la}:=
 ⟨h.jb,by dsimp only;omega,h.m1,h.rlen,h.rtx,h.rat0,h.rat1,h.ulen,h.ues,h.pat0,h.pat1,h.plen,h.ptx,h.stash,h.ska,h.skh,h.skp,h.n0,h.run,h.lines⟩
section
variable (E X G R g:Nat)(e:EdS)(v:EdL)(T:TM)(wT w:World)(h:EdAt D w E X G R g e v)(hT:TabN wT w g T (Eb E X G R))(j:Nat)(ok:EdOk j e)(hj:j+1≤1000)(c n:Int)(hn: -1000000≤n∧n≤1000000)
include h ok hT hj hn
theorem goes_move (hm:(moveO T e.tx c e.cursor n).2=true):Calls Tryz.prog 78 #[.pointer (some ⟨E,0,none⟩),.int .i64 c,.int .i64 n] w (RetE D (j+1) E X G R g (e.goes T c n).1 (.bool (e.goes T c n).2) w):=by
 obtain⟨kb,hkb⟩:∃x,x=(decide ((moveO T e.tx c e.cursor n).1=e.cursor)&&decide (n≠0)&&decide (c≠7)&&decide (c≠8)):=⟨_,rfl⟩;have hres:e.goes T c n=({e with bell:=e.bell||kb,cursor:=(moveO T e.tx c e.cursor n).1,last:=0},true):=by unfold EdS.goes;rw[if_pos hm,hkb]
 rw[hres];have HMV:=hid (fun(wx:World) (kx:Kp w wx)=>move_any X G R g e.tx T c e.cursor n wx ((h.kp kx).2.tx.tx fun k hk hx=>hk (.inr hx)) (hT.next kx).tab (by omega) (by omega));have hin:=moveO_in (T:=T) (h.2.tx.tx fun k hk hx=>hk (.inr hx)).ok c e.cursor n;have htl:=(h.2.tx.tx fun k hk hx=>hk (.inr hx)).ok.len;obtain⟨at1,hat⟩:∃x,x=(moveO T e.tx c e.cursor n).1:=⟨_,rfl⟩;obtain⟨cu,hcu⟩:∃x,x=e.cursor:=⟨_,rfl⟩;rw[hm]at HMV;rw[←hat]at HMV hkb hin⊢;rw[←hcu]at HMV hkb;obtain⟨HKB,HIN⟩:=hid2 hkb (show at1≤65536 by omega);have p2:w.cell? ⟨E,2,none⟩=some (.pointer (some ⟨X,0,none⟩)):=(h.c 2 rfl).1;have p3:w.cell? ⟨E,3,none⟩=some (.int .i64 cu):=by rw[hcu];exact(h.c 3 rfl).1
 obtain⟨HCU,H,HOK,HJ⟩:=hid4 hcu h ok hj;clear h hT ok hj hn hm hkb hres hin htl hat hcu;go_enter Tryz.func78,Tryz.ntmps78;go_upto_region 1 with fail;go_region_held3 (fun w'=>w'.cell? ⟨E,2,none⟩=some (.pointer (some ⟨X,0,none⟩))∧w'.cell? ⟨E,3,none⟩=some (.int .i64 cu))
  (first|(with_reducible exact⟨p2,p3⟩)|(with_reducible exact⟨r2,r3⟩)|go_keep)
  (first|(go_at_call 110;refine(HMV.out _ (Kp.refl w).drew).mono ?_;rintro en w3 ⟨rfl,k3⟩;have K3:=hid ((Kp.refl w).drew.trans k3);have H3:=hid (H.out.kp K3.out);have r2:w3.cell? ⟨E,2,none⟩=some (.pointer (some ⟨X,0,none⟩)):=(H3.out.c 2 rfl).1;have r3:w3.cell? ⟨E,3,none⟩=some (.int .i64 cu):=by rw[HCU.out];exact(H3.out.c 3 rfl).1))
 go_upto_region 3 with fail;go_cut [45] (fun x wx=>x=.bool kb∧wx=w3)
 case first=>
  by_cases a1:at1=cu
  ·have b1:(at1==cu)=true:=by simpa using a1
   have HK1:=hid (show kb=(decide (n≠0)&&decide (c≠7)&&decide (c≠8)) by rw[HKB.out,decide_eq_true a1,Bool.true_and]);clear a1 HKB;by_cases a2:n=0
   ·have b2:(n != 0)=false:=by simp[a2]
    have HK2:=hid (show kb=false by rw[HK1.out];simp[a2]);clear a2 HK1;go_wp2_with fail;go_meet;exact⟨by rw[HK2.out],rfl⟩
   ·have b2:(n != 0)=true:=by simp[a2]
    have HK2:=hid (show kb=(decide (c≠7)&&decide (c≠8)) by rw[HK1.out];simp[a2]);clear a2 HK1;by_cases a3:c=7
    ·have b3:(c != 7)=false:=by simp[a3]
     have HK3:=hid (show kb=false by rw[HK2.out];simp[a3]);clear a3 HK2;go_wp2_with fail;go_meet;exact⟨by rw[HK3.out],rfl⟩
    ·have b3:(c != 7)=true:=by simp[a3]
     have HK3:=hid (show kb=(c != 8) by rw[HK2.out];by_cases a4:c=8<;>simp[a3,a4]);clear a3 HK2;go_wp2_with fail;go_meet;exact⟨by rw[HK3.out],rfl⟩
  ·have b1:(at1==cu)=false:=by simpa using a1
   have HK1:=hid (show kb=false by rw[HKB.out,decide_eq_false a1];rfl);clear a1 HKB;go_wp2_with fail;go_meet;exact⟨by rw[HK1.out],rfl⟩
 case rest=>
  obtain⟨rfl,hwx⟩:=hcut;subst wc;clear p2 p3 r2 r3;cases kb with
  |true=>
   have HB:=hid (zO E X G R g e v w3 H3.out);go_wp2_with fail;refine HB.out.mono ?_;rintro en w5 ⟨rfl,h5,m5⟩;obtain⟨N5,H5⟩:=hid2 ((EdN.refl (E:=E) (X:=X) (G:=G) (R:=R) K3.out).then_mu (m5.weak (S':=Eb E X G R) fun _ _ q=>.inl q)) h5;clear h5 m5;obtain⟨p3,f3⟩:w5.cell? ⟨E,3,none⟩=some (.int .i64 e.cursor)∧w5.frozen? ⟨E,3,none⟩=false:=H5.out.c 3 rfl;obtain⟨p25,f25⟩:w5.cell? ⟨E,25,none⟩=some (.int .i64 e.last)∧w5.frozen? ⟨E,25,none⟩=false:=H5.out.c 25 rfl;go_wp2_with fail;go_ret;refine⟨rfl,X,G,R,v,?_,(N5.out.set 3 _).set 25 _,(HOK.out.up (k:=j+1) (by omega) HJ.out).cur _ _ _ HIN.out⟩;rw[Bool.or_true];exact(H5.out.set (e':={e with bell:=true,cursor:=at1}) 3 _ rfl rfl rfl rfl rfl rfl rfl rfl).set 25 _ rfl rfl rfl rfl rfl rfl rfl rfl
  |false=>
   obtain⟨p3,f3⟩:w3.cell? ⟨E,3,none⟩=some (.int .i64 e.cursor)∧w3.frozen? ⟨E,3,none⟩=false:=H3.out.c 3 rfl;obtain⟨p25,f25⟩:w3.cell? ⟨E,25,none⟩=some (.int .i64 e.last)∧w3.frozen? ⟨E,25,none⟩=false:=H3.out.c 25 rfl;go_wp2_with fail;go_ret;refine⟨rfl,X,G,R,v,?_,((EdN.refl (E:=E) (X:=X) (G:=G) (R:=R) K3.out).set 3 _).set 25 _,(HOK.out.up (k:=j+1) (by omega) HJ.out).cur _ _ _ HIN.out⟩;rw[Bool.or_false];exact(H3.out.set (e':={e with cursor:=at1}) 3 _ rfl rfl rfl rfl rfl rfl rfl rfl).set 25 _ rfl rfl rfl rfl rfl rfl rfl rfl
end
end
end Go.Proofs.YtociefdcccokjaaGreat

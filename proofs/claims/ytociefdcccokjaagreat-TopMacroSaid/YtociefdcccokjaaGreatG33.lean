/-
  Lemmas for TopMacro. Conditions: each states its own.
-/
import Derived.Deep.RegionLawGrows
import Derived.Test.YtociefdcccokjaaGreatG30
import Derived.Test.YtociefdcccokjaaGreatG31
import Derived.Test.YtociefdcccokjaaGreatG32
set_option maxHeartbeats 12800000
set_option maxRecDepth 100000
namespace Go.Proofs.YtociefdcccokjaaGreat
open Go.RowKit Go.Lib
section
variable {D:Nat→Prop}
theorem held3t {w:World}{E X G R g P:Nat}{e:EdS}{v:EdL}(h:EdAt D w E X G R g e v)(hn:E≠P){mk cu:Int}(hc:cu=e.cursor)(hm:mk=e.mark)(a b c:Value):
 (((w.setCell ⟨P,0,none⟩ a).setCell ⟨P,1,none⟩ b).setCell ⟨P,2,none⟩ c).cell? ⟨E,2,none⟩=some (.pointer (some ⟨X,0,none⟩))∧(((w.setCell ⟨P,0,none⟩ a).setCell ⟨P,1,none⟩ b).setCell ⟨P,2,none⟩ c).cell? ⟨E,3,none⟩=some (.int .i64 cu)∧
 (((w.setCell ⟨P,0,none⟩ a).setCell ⟨P,1,none⟩ b).setCell ⟨P,2,none⟩ c).cell? ⟨E,4,none⟩=some (.int .i64 mk):=by
 rw[hm,hc];exact held3s h hn a b c
section
variable (E X G R g:Nat)(e:EdS)(v:EdL)(T:TM)(wT w:World)(h:EdAt D w E X G R g e v)(hT:TabN wT w g T (Eb E X G R))(j:Nat)(ok:EdOk j e)(hj:j+1≤1000)(c n:Int)(hn: -1000000≤n∧n≤1000000)
include h ok hT hj hn
theorem goes_take (hm:(moveO T e.tx c e.cursor n).2=false):Calls Tryz.prog 78 #[.pointer (some ⟨E,0,none⟩),.int .i64 c,.int .i64 n] w (RetE D (j+1) E X G R g (e.goes T c n).1 (.bool (e.goes T c n).2) w):=by
 obtain⟨o,ho⟩:∃x,x=takeO T e.tx c e.cursor e.mark n:=⟨_,rfl⟩;obtain⟨ef,hef⟩:∃x,x=e.goes T c n:=⟨_,rfl⟩;rw[←hef];have HR0:=hid (fun(hn:o=none)=>show ef=(e,false) by rw[hef];unfold EdS.goes;rw[if_neg (by rw[hm];simp),←ho,hn]);have HR1:=hid (fun(s:Sp) (hs:o=some s)=>show ef=if c=15∨c=16 then(e,false)else if c=9∨c=10 then
  (if s.frm=s.tt then({e with last:=0,bell:=true},true)else
   (fun p:EdS×Bool=>(if p.2=true then p.1 else {p.1 with bell:=true},true)) (EdS.change T {e with last:=0} s.frm s.tt [] false))
  else(e.kill T s true true,true) by rw[hef];unfold EdS.goes;rw[if_neg (by rw[hm];simp),←ho,hs])
 have htx:=(h.2.tx.tx fun k hk hx=>hk (.inr hx)).ok;have HMV:=hid (fun(wx:World) (kx:Kp w wx)=>move_any X G R g e.tx T c e.cursor n wx ((h.kp kx).2.tx.tx fun k hk hx=>hk (.inr hx)) (hT.next kx).tab (by omega) (by omega));rw[hm]at HMV;have HTK:=hid (fun(wx:World) (kx:Kp w wx)=>take_u X G R g e.tx T c e.cursor e.mark n wx ((h.kp kx).2.tx.tx fun k hk hx=>hk (.inr hx)) (hT.next kx).tab (by omega) (by omega) o ho.symm);obtain⟨sf,hsf⟩:∃x,x=(spO o).frm:=⟨_,rfl⟩;obtain⟨st,hst⟩:∃x,x=(spO o).tt:=⟨_,rfl⟩;obtain⟨sa,hsa⟩:∃x,x=(spO o).ahead:=⟨_,rfl⟩;obtain⟨ob,hob⟩:∃x,x=o.isSome:=⟨_,rfl⟩;rw[←hsf,←hst,←hsa,←hob]at HTK;obtain⟨HSP,HOB,HIN⟩:=hid3 (show spO o=⟨sf,st,sa⟩ by rw[hsf,hst,hsa]) hob (show 0≤(spO o).frm∧(spO o).tt≤e.tx.l.length by rw[ho];exact spO_in htx c e.cursor e.mark n);obtain⟨at1,hat⟩:∃x,x=(moveO T e.tx c e.cursor n).1:=⟨_,rfl⟩;obtain⟨cu,hcu⟩:∃x,x=e.cursor:=⟨_,rfl⟩;obtain⟨mk,hmk⟩:∃x,x=e.mark:=⟨_,rfl⟩;rw[←hat,←hcu]at HMV;rw[←hcu,←hmk]at HTK;have p2:w.cell? ⟨E,2,none⟩=some (.pointer (some ⟨X,0,none⟩)):=(h.c 2 rfl).1;have p3:w.cell? ⟨E,3,none⟩=some (.int .i64 cu):=by rw[hcu];exact(h.c 3 rfl).1
 obtain⟨HCU,HMK,H,HT,HOK,HJ⟩:=hid6 hcu hmk h hT ok hj;clear h hT ok hj hn hm htx hat hcu hmk ho hef hsf hst hsa hob;go_enter Tryz.func78,Tryz.ntmps78;go_upto_region 1 with fail;go_region_held3 (fun w'=>w'.cell? ⟨E,2,none⟩=some (.pointer (some ⟨X,0,none⟩))∧w'.cell? ⟨E,3,none⟩=some (.int .i64 cu))
  (first|(with_reducible exact⟨p2,p3⟩)|(with_reducible exact⟨s2,s3⟩)|go_keep)
  (first|(go_at_call 110;refine(HMV.out _ (Kp.refl w).drew).mono ?_;rintro en w1 ⟨rfl,k1⟩;have K1:=hid ((Kp.refl w).drew.trans k1);have H1:=hid (H.out.kp K1.out);have s2:w1.cell? ⟨E,2,none⟩=some (.pointer (some ⟨X,0,none⟩)):=(H1.out.c 2 rfl).1;have s3:w1.cell? ⟨E,3,none⟩=some (.int .i64 cu):=by rw[HCU.out];exact(H1.out.c 3 rfl).1))
 go_upto_region 7 with fail;clear p2 p3;have q2:w1.cell? ⟨E,2,none⟩=some (.pointer (some ⟨X,0,none⟩)):=s2;have q3:w1.cell? ⟨E,3,none⟩=some (.int .i64 cu):=s3;have q4:w1.cell? ⟨E,4,none⟩=some (.int .i64 mk):=by rw[HMK.out];exact(H1.out.c 4 rfl).1
 clear s2 s3;have HE1:=hid H1.out.1.lt;go_cut [9,10] (fun x y wx=>Hid (SpAt sf st sa ob x y w1 wx))
 case first=>
  go_region_held3 (fun w'=>w'.cell? ⟨E,2,none⟩=some (.pointer (some ⟨X,0,none⟩))∧w'.cell? ⟨E,3,none⟩=some (.int .i64 cu)∧w'.cell? ⟨E,4,none⟩=some (.int .i64 mk))
   (first|(with_reducible exact⟨q2,q3,q4⟩)|(with_reducible exact⟨r2,r3,r4⟩)|(with_reducible exact held3t H3 nP HCU.out HMK.out _ _ _)|go_keep)
   (first|(go_at_call 111;(first|(refine(HTK.out _ (K1.out.trans (Kp.refl w1).drew)).mono ?_;rintro en w3 ⟨rfl,k3⟩;have K3:=hid ((Kp.refl w1).drew.trans k3))|(refine(HTK.out _ (K1.out.trans ((Kp.refl w1).drew.alloc _))).mono ?_;rintro en w3 ⟨rfl,k3⟩;have K3:=hid (((Kp.refl w1).drew.alloc _).trans k3);have fa:Bx w3 w1.heap.size _ _:=Bx.kp (Bx.new w1.drew _ _) k3;have nP:E≠w1.heap.size:=Nat.ne_of_lt HE1.out;obtain⟨b0,b1,b2,z0,z1,z2⟩:=fa.three;have bl:=fa.lt));have H3:=H1.out.kp K3.out;have hE3:=H3.1.lt;have r2:w3.cell? ⟨E,2,none⟩=some (.pointer (some ⟨X,0,none⟩)):=(H3.c 2 rfl).1;have r3:w3.cell? ⟨E,3,none⟩=some (.int .i64 cu):=(by rw[HCU.out];exact(H3.c 3 rfl).1);have r4:w3.cell? ⟨E,4,none⟩=some (.int .i64 mk):=by rw[HMK.out];exact(H3.c 4 rfl).1))
  all_goals
   go_wp2_with fail;go_meet;first
    |exact spAt_new K3.out
    |exact spAt_set K3.out fa le_
 case rest=>
  obtain⟨P,rfl,rfl,hb,kk,hP⟩:=hcut.out;obtain⟨HB,KK,H4,HPE⟩:=hid4 hb (K1.out.trans kk) (H.out.kp (K1.out.trans kk)) (show¬Ew D E X G R P from H1.out.new_off P hP);clear hb kk hP hcut q2 q3 q4 HMV HTK;have HN0:=hid (EdN.refl (E:=E) (X:=X) (G:=G) (R:=R) KK.out);cases ob with
  |false=>
   have HE2:=hid (show ef=(e,false)from HR0.out (by have:=HOB.out;cases o with|none=>rfl|some s=>cases this));go_wp2_with fail;go_ret;exact⟨by rw[HE2.out];rfl,X,G,R,v,by rw[HE2.out];exact H4.out,HN0.out,by rw[HE2.out];exact HOK.out.up (by omega) HJ.out⟩
  |true=>
   obtain⟨s,hs⟩:∃s,o=some s:=by have:=HOB.out;cases o with|none=>cases this|some s=>exact⟨s,rfl⟩
   have hss:s=⟨sf,st,sa⟩:=by have:=HSP.out;rw[hs]at this;exact this
   obtain⟨HIN2,HR2⟩:=hid2 (show 0≤sf∧st≤e.tx.l.length by have:=HIN.out;rw[HSP.out]at this;exact this) (HR1.out s hs);rw[hss]at HR2;dsimp only at HR2;clear hs hss HR0 HR1 HIN HSP HOB;by_cases c15:c=15
   ·have b15:(c==15)=true:=by simpa using c15
    have HE2:=hid (show ef=(e,false) by rw[HR2.out,if_pos (.inl c15)]);clear c15 HR2;go_wp2_with fail;go_ret;exact⟨by rw[HE2.out];rfl,X,G,R,v,by rw[HE2.out];exact H4.out,HN0.out,by rw[HE2.out];exact HOK.out.up (by omega) HJ.out⟩
   ·have b15:(c==15)=false:=by simpa using c15
    by_cases c16:c=16
    ·have b16:(c==16)=true:=by simpa using c16
     have HE2:=hid (show ef=(e,false) by rw[HR2.out,if_pos (.inr c16)]);clear c15 c16 HR2;go_wp2_with fail;go_ret;exact⟨by rw[HE2.out];rfl,X,G,R,v,by rw[HE2.out];exact H4.out,HN0.out,by rw[HE2.out];exact HOK.out.up (by omega) HJ.out⟩
    ·have b16:(c==16)=false:=by simpa using c16
     have HR3:=hid (HR2.out);rw[if_neg (fun hh=>hh.elim c15 c16)]at HR3;clear c15 c16 HR2;by_cases c9:c=9∨c=10
     ·rw[if_pos c9]at HR3
      obtain⟨p25,f25⟩:wc.cell? ⟨E,25,none⟩=some (.int .i64 e.last)∧wc.frozen? ⟨E,25,none⟩=false:=H4.out.c 25 rfl;obtain⟨H5,N5,HB5,HOK5⟩:=hid4 (H4.out.set (e':={e with last:=0}) 25 (.int .i64 0) rfl rfl rfl rfl rfl rfl rfl rfl) (HN0.out.set 25 (.int .i64 0)) (HB.out.far (p:=⟨E,25,none⟩) (fun hp=>HPE.out (.inl (.inl hp))) (.int .i64 0)) (HOK.out.run_ 0 e.run e.bell HOK.out.run);have hq:(c==9)=true∨((c==9)=false∧(c==10)=true):=by
       rcases c9 with c9|c9
       ·exact .inl (by simp[c9])
       ·exact .inr ⟨by simp[c9],by simp[c9]⟩
      clear c9;go_upto_region 11 with fail;go_cut [91] (fun x wx=>x=.bool true∧wx=wc)
      case first=>
       rcases hq with b9|⟨b9,b10⟩
       ·go_wp2_with fail
        go_meet;exact⟨rfl,rfl⟩
       ·go_wp2_with fail
        go_meet;exact⟨rfl,rfl⟩
      case rest=>
      obtain⟨rfl,hwx⟩:=hcut;subst wc;clear hq;go_upto_region 13 with fail;clear p25 f25 H4 HN0 HB H1 K1 KK;generalize(wc.setCell ⟨E,25,none⟩ (.int .i64 0))=w5 at *;obtain⟨d0,d1,d2,_,_,_⟩:=HB5.out.three;by_cases hst:sf=st
      ·rw[if_pos hst]at HR3
       subst hst;obtain⟨HBL,HUP⟩:=hid2 (zO E X G R g _ v w5 H5.out) ((HOK5.out.up (k:=j+1) (by omega) HJ.out).ring_);go_wp2_with fail;refine HBL.out.mono ?_;rintro en w6 ⟨rfl,h6,m6⟩;go_wp2_with fail;go_ret;exact⟨by rw[HR3.out];rfl,X,G,R,v,by rw[HR3.out];exact h6,N5.out.then_mu (m6.weak (S':=Eb E X G R) fun _ _ q=>.inl q),by rw[HR3.out];exact HUP.out⟩
      ·rw[if_neg hst]at HR3
       have bst:(sf==st)=false:=by simpa using hst
       obtain⟨t1,mk1,us,cu1,bl,hch⟩:=yX T {e with last:=0} sf st [] false;have HCH:=hid (zZ E X G R g {e with last:=0} v Any T sf st none 0 0 [] false wT w5 H5.out (N5.out.tab HT.out) (Ru.nil _ _) R32ok.nil (by omega) j HOK5.out HJ.out);obtain⟨b2,hb2⟩:∃b,b=(EdS.change T {e with last:=0} sf st [] false).2:=⟨_,rfl⟩;have hpair:EdS.change T {e with last:=0} sf st [] false=({e with last:=0,tx:=t1,mark:=mk1,undo:=us,cursor:=cu1,bell:=bl},b2):=Prod.ext hch hb2.symm;rw[hpair]at HR3 HCH;clear hpair hch hb2 hst;go_wp2_with fail;refine HCH.out.mono ?_;rintro en w6 ⟨rfl,X',G',R',v1,h6,n6,ok6⟩;obtain⟨H6,N6,OK6⟩:=hid3 h6 (N5.out.trans n6) ok6;clear h6 n6 ok6 HCH d0 d1 d2;cases b2 with
       |true=>
        go_wp2_with fail;go_ret;exact⟨by rw[HR3.out];rfl,X',G',R',v1,by rw[HR3.out];exact H6.out,N6.out,by rw[HR3.out];exact OK6.out⟩
       |false=>
        obtain⟨HBL,HUP⟩:=hid2 (zO E X' G' R' g _ v1 w6 H6.out) (OK6.out.ring_);go_wp2_with fail;refine HBL.out.mono ?_;rintro en w7 ⟨rfl,h7,m7⟩;go_wp2_with fail;go_ret;exact⟨by rw[HR3.out];rfl,X',G',R',v1,by rw[HR3.out];exact h7,N6.out.then_mu (m7.weak (S':=Eb E X' G' R') fun _ _ q=>.inl q),by rw[HR3.out];exact HUP.out⟩
     ·rw[if_neg c9]at HR3
      have b9:(c==9)=false:=by simp;omega
      have b10:(c==10)=false:=by simp;omega
      have HKL:=hid (kill_any E X G R g e v T wT wc H4.out (HT.out.next KK.out) j HOK.out HJ.out ⟨sf,st,sa⟩ HIN2.out true true);dsimp only at HKL;obtain⟨d0,d1,d2,_,_,_⟩:=HB.out.three;clear c9;go_wp2_with fail;refine HKL.out.mono ?_;rintro en w5 ⟨rfl,X',G',R',v1,h5,n5,ok5⟩;go_wp2_with fail;go_ret;exact⟨by rw[HR3.out];rfl,X',G',R',v1,by rw[HR3.out];exact h5,HN0.out.trans n5,by rw[HR3.out];exact ok5⟩
theorem goes_any:Calls Tryz.prog 78 #[.pointer (some ⟨E,0,none⟩),.int .i64 c,.int .i64 n] w (RetE D (j+1) E X G R g (e.goes T c n).1 (.bool (e.goes T c n).2) w):=by
 cases hm:(moveO T e.tx c e.cursor n).2 with
 |true=>exact goes_move E X G R g e v T wT w h hT j ok hj c n hn hm
 |false=>exact goes_take E X G R g e v T wT w h hT j ok hj c n hn hm
end
end
theorem stop_any (on:Bool)(F G:Nat→Prop)(A:Option Addr)(n c:Nat)(ks:List KeyV)(w:World)(h:SsW F G w A n c ks)(hn:n≤1000)(ht:∀k∈ks,k.text.length≤65536):
 Calls Tryz.prog 11 #[.agg #[.bool on,.slice A n c]] w fun en w'=>∃A' c',en=.returned (.tuple #[.agg #[.bool false,.slice none 0 0],.slice A' n c'])∧SsW (From w.heap.size) (From w.heap.size) w' A' n c' ks∧Kp w w':=by
 have k1:=((Kp.refl w).alloc (.cells #[.bool on,.slice A n c] 35)).alloc (.cells #[.bool false,.slice none 0 0] 35);have hc1:=copied_any F G A n c ks _ (SsW.kp h k1) hn ht;go_enter Tryz.func11,Tryz.ntmps11;go_wp2_with (go_at_call 42;refine hc1.mono ?_;rintro e w2 ⟨A2,c2,rfl,hs2,k2⟩;have b2:=(Bx.new (w.alloc (.cells #[.bool on,.slice A n c] 35)) #[.bool false,.slice none 0 0] 35).kp k2;have hz2:=k2.size;simp at b2;obtain⟨d0,d1,d2,d3⟩:=b2.two);have bf:=(b2.set 0 (.bool false)).set 1 (.slice none 0 0);simp at bf;have K2:=(k1.trans k2);have K3:Kp w ((w2.setCell ⟨w.heap.size+1,0,none⟩ (.bool false)).setCell ⟨w.heap.size+1,1,none⟩ (.slice none 0 0)):=(K2.setCell (p:=⟨w.heap.size+1,0,none⟩) (by show w.heap.size≤w.heap.size+1;omega) _).setCell (p:=⟨w.heap.size+1,1,none⟩) (by show w.heap.size≤w.heap.size+1;omega) _;have hs3:SsW (From w.heap.size) (From w.heap.size) ((w2.setCell ⟨w.heap.size+1,0,none⟩ (.bool false)).setCell ⟨w.heap.size+1,1,none⟩ (.slice none 0 0)) A2 n c2 ks:=by
  have e0:∀q,(w.heap.size+1+1≤q)→((w2.setCell ⟨w.heap.size+1,0,none⟩ (.bool false)).setCell ⟨w.heap.size+1,1,none⟩ (.slice none 0 0)).heap[q]? =w2.heap[q]? :=fun q hq=>
   (Below.heap_setCell _ ⟨w.heap.size+1,1,none⟩ _ q (by show q≠w.heap.size+1;omega)).trans (Below.heap_setCell w2 ⟨w.heap.size+1,0,none⟩ _ q (by show q≠w.heap.size+1;omega))
  have h1:=SsW.frame (w':=((w2.setCell ⟨w.heap.size+1,0,none⟩ (.bool false)).setCell ⟨w.heap.size+1,1,none⟩ (.slice none 0 0))) hs2 (by simp[World.setCell]) (fun q hq _=>e0 q (by unfold From at hq;simp at hq;omega)) (fun q hq _=>e0 q (by unfold From at hq;simp at hq;omega));exact h1.weak (fun q _ hq=>by unfold From at hq⊢;simp at hq;omega) (fun q _ hq=>by unfold From at hq⊢;simp at hq;omega)
 generalize((w2.setCell ⟨w.heap.size+1,0,none⟩ (.bool false)).setCell ⟨w.heap.size+1,1,none⟩ (.slice none 0 0))=w3 at *;obtain⟨g0,g1,g2,g3⟩:=bf.two;refine bodyPost_ret (v:=.tuple #[.agg #[.bool false,.slice none 0 0],.slice A2 n c2]) (by simp[results,Tryz.results11,go_sem,g0,g1]) rfl ?_;exact⟨A2,c2,rfl,hs3,K3⟩
theorem Sl.olds {w:World}{F:Nat→Prop}{size n c:Nat}{A:Option Addr}{vs:List Value}(h:Sl w F size A n c vs):(A=none→n=0∧n=0)∧∀b,A=some b→∀j u,vs[j]? =some u→w.cell? (b.add j)=some u:=by
 refine⟨fun e=>?_,fun b e j u hu=>?_⟩
 ·by_cases hn:0<n
  ·obtain⟨ad,e1,_⟩:=h.at_ hn
   rw[e]at e1;cases e1
  ·omega
 ·by_cases hn:0<n
  ·obtain⟨ad,e1,_,_,hc⟩:=h.at_ hn
   rw[e]at e1;cases e1
   exact hc j u hu
  ·have hl:=h.len
   have hz:n=0:=by omega
   rw[hz,Nat.zero_mul,List.length_eq_zero_iff]at hl;rw[hl]at hu;simp at hu
def StrMid (w3:World)(P n:Nat)(vs:List Value)(wx:World):Prop:=∃g c,Bx wx P #[.bool true,.slice (some ⟨g,0,none⟩) (n+1) c] 35∧Bx wx (P+1+1) #[.bool false,.slice none 0 0] 35∧
 Own wx w3.heap.size 111 6 (some ⟨g,0,none⟩) (n+1) c vs∧Mu (fun q=>q=P) w3 wx
theorem strMid_mk {w3 w4:World}{P n g c:Nat}{v:Value}{vs:List Value}{row:Array Value}(br:Bx w3 P #[.bool true,v] 35)(bz:Bx w3 (P+1+1) #[.bool false,.slice none 0 0] 35)
 (ho:w4.ownsRow (w3.drew.alloc (.cells row 111)).heap.size 111 6 (.slice (some ⟨g,0,none⟩) (n+1) c) (n+1) vs)(hg:(w3.drew.alloc (.cells row 111)).grownBy w4 none):
 StrMid w3 P n vs (w4.setCell ⟨P,1,none⟩ (.slice (some ⟨g,0,none⟩) (n+1) c)):=by
 have k:Kp w3 w4:=(((Kp.refl w3).drew).alloc (.cells row 111)).grown hg (fun _ e=>by cases e);have hz:w3.heap.size≤(w3.drew.alloc (.cells row 111)).heap.size:=by simp
 have ho':Own w4 w3.heap.size 111 6 (some ⟨g,0,none⟩) (n+1) c vs:=Own.more ho hz;refine⟨g,c,(br.kp k).set 1 _,(bz.kp k).far (p:=⟨P,1,none⟩) (by show P+1+1≠P;omega) _,ho'.setCell (fun e=>?_) _,(Mu.of_kp k).setCell (S:=fun q=>q=P) (p:=⟨P,1,none⟩) rfl _⟩;have h1:=(ho'.lt _ e).1;have h2:=br.lt;simp at h1;omega
theorem strike_any (F G H:Nat→Prop)(A:Option Addr)(n c:Nat)(ks:List KeyV)(kk kru:Int)(kme:Bool)(B:Option Addr)(m d:Nat)(kt:List Int)(w:World)(h:SsW F G w A n c ks)(hn:n<1000)(hu:Ru w H B m d kt)(hm:m≤65536):
 Calls Tryz.prog 10 #[.agg #[.bool true,.slice A n c],.agg #[.int .i64 kk,.int .i32 kru,.bool kme,.slice B m d]] w fun en w'=>∃A' c',en=.returned (.tuple #[.agg #[.bool true,.slice A' (n+1) c'],.bool true])∧
  SsW (From w.heap.size) (fun q=>(G q∧q<w.heap.size)∨w.heap.size≤q) w' A' (n+1) c' (ks++[⟨kk,kru,kme,kt⟩])∧Kp w w':=by
 have hn1:¬(n:Int)=1000:=by omega
 obtain⟨css,hsl,hrl,hln⟩:=h;obtain⟨HRL,HLN⟩:=hid2 (hrl.mono (StC.weak (G':=fun q=>G q∧q<w.heap.size) fun q hl hq=>⟨hq,hl⟩)) hln;have hcap:=hsl.cap;have hle:=hsl.le;unfold maxLen at hcap;have HSL:=hid hsl;have k1:=(((Kp.refl w).alloc (.cells #[.bool true,.slice A n c] 35)).alloc (.cells #[.int .i64 kk,.int .i32 kru,.bool kme,.slice B m d] 43)).alloc (.cells #[.bool false,.slice none 0 0] 35);have hc1:=hid (zH H B m d kt _ (Sl.kp hu k1) (by omega));clear hrl hln hsl hu;go_enter Tryz.func10,Tryz.ntmps10;go_upto_region 5 with fail;go_upto_region 6 with(go_at_call 41;refine hc1.out.mono ?_;rintro en w2 ⟨B2,m2,d2,rfl,hr2,k2⟩;have bk:=(Bx.new (w.alloc (.cells #[.bool true,.slice A n c] 35)) #[.int .i64 kk,.int .i32 kru,.bool kme,.slice B m d] 43);simp at bk;have bk2:=(bk.alloc (.cells #[.bool false,.slice none 0 0] 35)).kp k2;have q3:=bk2.cell 3;have f3:=bk2.frozen 3;have hz2:=k2.size;simp at hz2);have b3:Bx (w2.setCell ⟨w.heap.size+1,3,none⟩ (.slice B2 m2 d2)) (w.heap.size+1) #[.int .i64 kk,.int .i32 kru,.bool kme,.slice B2 m2 d2] 43:=bk2.set 3 _;have br:Bx (w.alloc (.cells #[.bool true,.slice A n c] 35)) w.heap.size #[.bool true,.slice A n c] 35:=Bx.new w _ _;have br3:=((((br.alloc (.cells #[.int .i64 kk,.int .i32 kru,.bool kme,.slice B m d] 43)).alloc (.cells #[.bool false,.slice none 0 0] 35)).kp k2).far (p:=⟨w.heap.size+1,3,none⟩) (by show w.heap.size≠w.heap.size+1;omega) (.slice B2 m2 d2));have bz:=Bx.new ((w.alloc (.cells #[.bool true,.slice A n c] 35)).alloc (.cells #[.int .i64 kk,.int .i32 kru,.bool kme,.slice B m d] 43)) #[.bool false,.slice none 0 0] 35;simp at bz;have bz3:=(bz.kp k2).far (p:=⟨w.heap.size+1,3,none⟩) (by show w.heap.size+1+1≠w.heap.size+1;omega) (.slice B2 m2 d2);obtain⟨hr3,K3⟩:=hid2 (Sl.setCell (p:=⟨w.heap.size+1,3,none⟩) hr2 (fun hq=>by unfold From at hq;simp at hq;omega) (.slice B2 m2 d2)) ((k1.trans k2).setCell (p:=⟨w.heap.size+1,3,none⟩) (by show w.heap.size≤w.heap.size+1;omega) (.slice B2 m2 d2));clear bk bk2 br bz q3 f3 hr2 k2 hc1 k1;have hs3:w.heap.size+3≤(w2.setCell ⟨w.heap.size+1,3,none⟩ (.slice B2 m2 d2)).heap.size:=by simp[World.setCell];omega
 clear hz2;generalize(w2.setCell ⟨w.heap.size+1,3,none⟩ (.slice B2 m2 d2))=w3 at *;obtain⟨P,hP⟩:∃P,P=w.heap.size:=⟨_,rfl⟩;have hs:=hid hP;rw[←hP]at hs3 b3 br3 bz3⊢;clear hP;obtain⟨r0,r1,r2,r3⟩:=br3.two;obtain⟨y0,y1,y2,y3,y4,y5,y6,y7⟩:=b3.four;have hs3l:=HSL.out.kp K3.out;have hol:=((hs3l.drew.alloc (.cells #[.int .i64 kk,.int .i32 kru,.bool kme,.slice B2 m2 d2,.bool false,.int .i32 0] 111))).olds;have hnew:=Bx.new w3.drew #[.int .i64 kk,.int .i32 kru,.bool kme,.slice B2 m2 d2,.bool false,.int .i32 0] 111;obtain⟨hol1,hol2⟩:=hol;obtain⟨si,hsi,hsz⟩:=Option.map_eq_some_iff.1 infoStep;simp only[Prod.mk.injEq]at hsz;obtain⟨z1,z2,z3⟩:=hsz;go_cut [] (StrMid w3 P n (css.flatten++[.int .i64 kk,.int .i32 kru,.bool kme,.slice B2 m2 d2,.bool false,.int .i32 0]))
 case first=>
  have hSd:∀wx:World,Bx wx (P+1) #[.int .i64 kk,.int .i32 kru,.bool kme,.slice B2 m2 d2] 43→Bx wx P #[.bool true,.slice A n c] 35→(wx.cell? ⟨P+1,0,none⟩=some (.int .i64 kk)∧wx.cell? ⟨P+1,1,none⟩=some (.int .i32 kru)∧wx.cell? ⟨P+1,2,none⟩=some (.bool kme)∧wx.cell? ⟨P+1,3,none⟩=some (.slice B2 m2 d2))∧wx.cell? ⟨P,1,none⟩=some (.slice A n c):=fun wx x y=>⟨⟨x.cell 0,x.cell 1,x.cell 2,x.cell 3⟩,y.cell 1⟩
  refine yI (S:=fun w'=>(w'.cell? ⟨P+1,0,none⟩=some (.int .i64 kk)∧w'.cell? ⟨P+1,1,none⟩=some (.int .i32 kru)∧w'.cell? ⟨P+1,2,none⟩=some (.bool kme)∧w'.cell? ⟨P+1,3,none⟩=some (.slice B2 m2 d2))∧w'.cell? ⟨P,1,none⟩=some (.slice A n c)) 14 (by kernel_rfl) (by kernel_rfl) fun inv=>?_
  have hS0:=hSd w3.drew b3.drew br3.drew;refine tkT 0 inv hS0 fun inv=>?_
  refine tkT 1 inv hS0 fun inv=>?_
  refine tkT 2 inv hS0 fun inv=>?_
  refine tkT 3 inv hS0 fun inv=>?_
  refine tkT 4 inv hS0 fun inv=>?_
  refine tkT 5 inv hS0 fun inv=>?_
  refine tkT 6 inv hS0 fun inv=>?_
  refine tkT 7 inv hS0 fun inv=>?_
  refine tkT 8 inv hS0 fun inv=>?_
  refine tkT 9 inv hS0 fun inv=>?_
  refine tkT 10 inv hS0 fun inv=>?_
  refine onT 11 inv fun K hK=>?_
  go_simp;have hS1:=hSd (w3.drew.alloc (.cells #[.int .i64 kk,.int .i32 kru,.bool kme,.slice B2 m2 d2,.bool false,.int .i32 0] 111)) (b3.drew.alloc _) (br3.drew.alloc _);refine hK.out _ _ hS1 (fun inv=>?_);clear hK K;refine onT 12 inv fun K hK=>?_
  refine step_append_grows (by rfl) _ _ _ (by rfl) 111 si _ 6 48 Tryz.underlying33 hsi z1 z2 z3 rfl (by omega) A n n css.flatten (by rfl) hol1 HSL.out.len hol2 ⟨w3.heap.size,0,none⟩ 1 1 [.int .i64 kk,.int .i32 kru,.bool kme,.slice B2 m2 d2,.bool false,.int .i32 0] (by rfl) rfl (World.news_of_block hnew) (by simp[Value.oneCell']) (by omega) (by simp only[maxLen];omega) (by omega) ?_;intro v4 w4 hown4 hg4;obtain⟨g4,c4,hv4,hgb,hgl⟩:=World.ownsRow.form hown4 (by omega);subst hv4;have br4:=(br3.drew.alloc (.cells #[.int .i64 kk,.int .i32 kru,.bool kme,.slice B2 m2 d2,.bool false,.int .i32 0] 111)).grown hg4 (by simp);have bk4:=(b3.drew.alloc (.cells #[.int .i64 kk,.int .i32 kru,.bool kme,.slice B2 m2 d2,.bool false,.int .i32 0] 111)).grown hg4 (by simp);obtain⟨r4,r5,r6,r7⟩:=br4.two;have hS4:=hSd w4 bk4 br4;refine hK.out _ _ hS4 (fun inv=>?_);clear hK K;refine tkT 13 inv hS4 fun inv=>?_
  refine laT fun K hK=>?_
  go_simp;refine hK.out _ _ ?_;clear hK K;go_wp2_with fail;go_meet;exact strMid_mk br3 bz3 hown4 hg4
 case rest=>
  obtain⟨g4,c4,br4,bz4,ho4,mu4⟩:=hcut;have hs3':=hs3;clear b3 br3 bz3 r0 r1 r2 r3 y0 y1 y2 y3 y4 y5 y6 y7 hs3l hol1 hol2 hnew;obtain⟨s0,s1,s2,s3⟩:=br4.two;obtain⟨v0,v1,v2,v3⟩:=bz4.two;obtain⟨HO4,MU4,BZ4⟩:=hid3 ho4 mu4 bz4;clear ho4 mu4 bz4;go_wp2_with fail;have HZP:=hid hs3;have MW:Mu (fun q=>q=P∨q=P+1+1) w3 ((wc.setCell ⟨P+1+1,0,none⟩ (.bool true)).setCell ⟨P+1+1,1,none⟩ (.slice (some ⟨g4,0,none⟩) (n+1) c4)):=
   ((MU4.out.weak fun _ _ h=>.inl h).setCell (S:=fun q=>q=P∨q=P+1+1) (p:=⟨P+1+1,0,none⟩) (.inr rfl) _).setCell (S:=fun q=>q=P∨q=P+1+1) (p:=⟨P+1+1,1,none⟩) (.inr rfl) _
  have bw:=(BZ4.out.set 0 (.bool true)).set 1 (.slice (some ⟨g4,0,none⟩) (n+1) c4);simp at bw;have hg:=(HO4.out.lt g4 rfl).1;have ow:=(HO4.out.setCell (p:=⟨P+1+1,0,none⟩) (fun e=>by injection e with e;simp at e;omega) (.bool true)).setCell (p:=⟨P+1+1,1,none⟩) (fun e=>by injection e with e;simp at e;omega) (.slice (some ⟨g4,0,none⟩) (n+1) c4);generalize((wc.setCell ⟨P+1+1,0,none⟩ (.bool true)).setCell ⟨P+1+1,1,none⟩ (.slice (some ⟨g4,0,none⟩) (n+1) c4))=w6 at *;have hPw:=hs.out;have KW:Kp w w6:=MW.kp K3.out (fun q hq=>by omega);have hrw:Ru w6 (fun q=>(G q∧q<w.heap.size)∨w.heap.size≤q) B2 m2 d2 kt:=Sl.weak (Sl.frame hr3.out MW.size (fun q hq hl=>MW.block q hl (fun e=>by unfold From at hq;simp at hq;omega))) (fun q _ hq=>.inr (by unfold From at hq;simp at hq;omega));have hrl:RelL (StC (fun q=>(G q∧q<w.heap.size)∨w.heap.size≤q) w6) ks css:=(HRL.out.mono (StC.frame KW.size fun q hq hl=>KW.block q hl)).mono (StC.weak fun q _ hq=>.inl hq);obtain⟨g0,g1,g2,g3⟩:=bw.two;refine bodyPost_ret (v:=.tuple #[.agg #[.bool true,.slice (some ⟨g4,0,none⟩) (n+1) c4],.bool true]) (by simp[results,Tryz.results10,go_sem,g0,g1]) rfl ?_;exact⟨_,_,rfl,⟨css++[[.int .i64 kk,.int .i32 kru,.bool kme,.slice B2 m2 d2,.bool false,.int .i32 0]],by rw[List.flatten_append];simpa using Sl.weak ow.sl (fun q _ hq=>by have:=K3.out.size;show w.heap.size≤q;unfold From at hq;omega),hrl.app (RelL.one ⟨B2,m2,d2,rfl,hrw⟩),by simp[HLN.out]⟩,KW⟩
end Go.Proofs.YtociefdcccokjaaGreat

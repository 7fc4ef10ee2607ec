/-
  Lemmas for TopMacro. Conditions: each states its own.
-/
import Derived.Test.YtociefdcccokjaaGreatG27
import Derived.Test.YtociefdcccokjaaGreatG36
set_option maxHeartbeats 12800000
set_option maxRecDepth 100000
namespace Go.Proofs.YtociefdcccokjaaGreat
open Go.RowKit Go.Lib
section
variable {D:Nat→Prop}
theorem heldF {w:World}{E X G R g:Nat}{e:EdS}{v:EdL}(h:EdAt D w E X G R g e v){spl:Int}(hs:spl=e.sk.place)(a:Value):
 (w.setCell ⟨E,3,none⟩ a).cell? ⟨E,2,none⟩=some (.pointer (some ⟨X,0,none⟩))∧(w.setCell ⟨E,3,none⟩ a).cell? ⟨E,14,none⟩=some (.int .i64 spl):=by
 have b:=h.1.put 3 a;refine⟨?_,?_⟩
 ·rw[b.cell 2];simp[edV]
 ·rw[b.cell 14,hs];simp[edV]
theorem EdOk.cur' {j:Nat}{e:EdS}(h:EdOk j e)(cu:Int)(hc:cu≤65536):EdOk j {e with cursor:=cu}:=
 ⟨h.jb,by dsimp only;omega,h.m1,h.rlen,h.rtx,h.rat0,h.rat1,h.ulen,h.ues,h.pat0,h.pat1,h.plen,h.ptx,h.stash,h.ska,h.skh,h.skp,h.n0,h.run,h.lines⟩
section
variable (E X G R g:Nat)(e:EdS)(v:EdL)(T:TM)(wT w:World)(h:EdAt D w E X G R g e v)(hT:TabN wT w g T (Eb E X G R))(j:Nat)(ok:EdOk j e)(hj:j+1≤1000)(k:KeyV)(KA:Option Addr)(kn kc:Nat)(hr:r32 k.rune)
include h hT ok hj hr
theorem seeks_abort (hc:cmdK false k=26):SeC D E X G R g e T w j k KA kn kc:=by
 unfold SeC;obtain⟨ef,hef⟩:∃x,x=e.seek T k:=⟨_,rfl⟩;rw[←hef];obtain⟨HEF,HOF,HLK⟩:=hid3 (show ef=({e with seeks:=false,bell:=true},true) by rw[hef];unfold EdS.seek;rw[hc];rfl) (fun(wx:World)=>of_u false k KA kn kc wx) (fun(wx:World)=>vL (zI false k).px (zI false k).m (zI false k).k (zI false k).r wx);rw[cmdK_eq,hc]at HLK;obtain⟨spx,h1⟩:∃x,x=(zI false k).px:=⟨_,rfl⟩;obtain⟨skk,h2⟩:∃x,x=(zI false k).k:=⟨_,rfl⟩;obtain⟨skr,h3⟩:∃x,x=(zI false k).r:=⟨_,rfl⟩;obtain⟨skm,h4⟩:∃x,x=(zI false k).m:=⟨_,rfl⟩;rw[←h1,←h2,←h3,←h4]at HOF HLK;obtain⟨H,HT,HOK,HJ,HR32⟩:=hid5 h hT ok hj hr;clear h hT ok hj hr hc h1 h2 h3 h4 hef;go_enter Tryz.func35,Tryz.ntmps35;go_upto_region 1 with fail;obtain⟨P,w1,hP,hw,K1,HB1,HPE,HPN,H1,N1⟩:=zT H.out k KA kn kc;rw[hw,hP];clear hw hP;have p1:w1.cell? ⟨E,1,none⟩=some (.map none):=(H1.out.c 1 rfl).1;obtain⟨pa,pb,pc,pd,_,_,_,_⟩:=HB1.out.four;go_region_held3 (fun w'=>w'.cell? ⟨E,1,none⟩=some (.map none)∧w'.cell? ⟨P,0,none⟩=some (.int .i64 k.kind)∧w'.cell? ⟨P,1,none⟩=some (.int .i32 k.rune)∧w'.cell? ⟨P,2,none⟩=some (.bool k.meta_)∧w'.cell? ⟨P,3,none⟩=some (.slice KA kn kc))
  (first|(with_reducible exact⟨p1,pa,pb,pc,pd⟩)|(with_reducible exact⟨q1,qa,qb,qc,qd⟩)|(with_reducible exact⟨r1,ra,rb,rc,rd⟩)|go_keep)
  (first|(go_at_call 37;refine(HOF.out _).mono ?_;rintro en w2 ⟨rfl,k2⟩;have K2:=hid ((Kp.refl w1).drew.trans k2);have H2:=hid (H1.out.kp K2.out);have HB2:=hid (HB1.out.kp K2.out);have q1:w2.cell? ⟨E,1,none⟩=some (.map none):=(H2.out.c 1 rfl).1;obtain⟨qa,qb,qc,qd,_,_,_,_⟩:=HB2.out.four;clear k2)|(go_at_call 36;refine(HLK.out _).mono ?_;rintro en w3 ⟨rfl,k3⟩;have K3:=hid (K2.out.trans k3);have H3:=hid (H1.out.kp K3.out);have HB3:=hid (HB1.out.kp K3.out);have r1:w3.cell? ⟨E,1,none⟩=some (.map none):=(H3.out.c 1 rfl).1;obtain⟨ra,rb,rc,rd,_,_,_,_⟩:=HB3.out.four;clear k3))
 have KK:=hid (K1.out.trans K3.out);clear p1 pa pb pc pd q1 qa qb qc qd r1 ra rb rc rd HOF HLK H1 H2 HB1 HB2 K1 K2 K3;go_upto_region 16 with fail;obtain⟨p18,f18⟩:w3.cell? ⟨E,18,none⟩=some (.bool e.seeks)∧w3.frozen? ⟨E,18,none⟩=false:=H3.out.c 18 rfl;obtain⟨H4,N4⟩:=hid2 (H3.out.set (e':={e with seeks:=false}) 18 (.bool false) rfl rfl rfl rfl rfl rfl rfl rfl) ((EdN.refl (E:=E) (X:=X) (G:=G) (R:=R) KK.out).set 18 (.bool false));obtain⟨HB,HOK4⟩:=hid2 (zO E X G R g _ v _ H4.out) ((HOK.out.up (k:=j+1) (by omega) HJ.out).sk_ (HOK.out.skOk.up (Nat.le_succ j)) true false);go_wp2_with fail;refine HB.out.mono ?_;rintro en w5 ⟨rfl,h5,m5⟩;go_wp2_with fail;go_ret;exact⟨by rw[HEF.out];rfl,X,G,R,v,by rw[HEF.out];exact h5,N4.out.then_mu (m5.weak (S':=Eb E X G R) fun _ _ q=>.inl q),by rw[HEF.out];exact HOK4.out⟩
theorem seeks_over (hc:cmdK false k≠1∧cmdK false k≠10∧cmdK false k≠24∧cmdK false k≠25∧cmdK false k≠26):SeC D E X G R g e T w j k KA kn kc:=by
 unfold SeC;obtain⟨ef,hef⟩:∃x,x=e.seek T k:=⟨_,rfl⟩;rw[←hef];obtain⟨c,hcc⟩:∃x,x=cmdK false k:=⟨_,rfl⟩;rw[←hcc]at hc;have HEF:=hid (show ef=if e.sk.at_=e.pat then({e with seeks:=false,cursor:=e.tx.floor e.sk.place},false)else((EdS.visit T {e with seeks:=false} e.sk.at_ e.sk.place).1,false) by
  rw[hef];unfold EdS.seek;rw[←hcc];dsimp only;rw[if_neg hc.1,if_neg hc.2.1,if_neg hc.2.2.1,if_neg hc.2.2.2.1,if_neg hc.2.2.2.2])
 have g1:(c==1)=false:=by simpa using hc.1
 have g2:(c==10)=false:=by simpa using hc.2.1
 have g3:(c==24)=false:=by simpa using hc.2.2.1
 have g4:(c==25)=false:=by simpa using hc.2.2.2.1
 have g5:(c==26)=false:=by simpa using hc.2.2.2.2
 clear hc;obtain⟨HOF,HLK⟩:=hid2 (fun(wx:World)=>of_u false k KA kn kc wx) (fun(wx:World)=>vL (zI false k).px (zI false k).m (zI false k).k (zI false k).r wx);rw[cmdK_eq,←hcc]at HLK;obtain⟨spx,h1⟩:∃x,x=(zI false k).px:=⟨_,rfl⟩;obtain⟨skk,h2⟩:∃x,x=(zI false k).k:=⟨_,rfl⟩;obtain⟨skr,h3⟩:∃x,x=(zI false k).r:=⟨_,rfl⟩;obtain⟨skm,h4⟩:∃x,x=(zI false k).m:=⟨_,rfl⟩;rw[←h1,←h2,←h3,←h4]at HOF HLK;obtain⟨H,HT,HOK,HJ,HR32⟩:=hid5 h hT ok hj hr;clear h hT ok hj hr hcc h1 h2 h3 h4 hef;go_enter Tryz.func35,Tryz.ntmps35;go_upto_region 1 with fail;obtain⟨P,w1,hP,hw,K1,HB1,HPE,HPN,H1,N1⟩:=zT H.out k KA kn kc;rw[hw,hP];clear hw hP;have p1:w1.cell? ⟨E,1,none⟩=some (.map none):=(H1.out.c 1 rfl).1;obtain⟨pa,pb,pc,pd,_,_,_,_⟩:=HB1.out.four;go_region_held3 (fun w'=>w'.cell? ⟨E,1,none⟩=some (.map none)∧w'.cell? ⟨P,0,none⟩=some (.int .i64 k.kind)∧w'.cell? ⟨P,1,none⟩=some (.int .i32 k.rune)∧w'.cell? ⟨P,2,none⟩=some (.bool k.meta_)∧w'.cell? ⟨P,3,none⟩=some (.slice KA kn kc))
  (first|(with_reducible exact⟨p1,pa,pb,pc,pd⟩)|(with_reducible exact⟨q1,qa,qb,qc,qd⟩)|(with_reducible exact⟨r1,ra,rb,rc,rd⟩)|go_keep)
  (first|(go_at_call 37;refine(HOF.out _).mono ?_;rintro en w2 ⟨rfl,k2⟩;have K2:=hid ((Kp.refl w1).drew.trans k2);have H2:=hid (H1.out.kp K2.out);have HB2:=hid (HB1.out.kp K2.out);have q1:w2.cell? ⟨E,1,none⟩=some (.map none):=(H2.out.c 1 rfl).1;obtain⟨qa,qb,qc,qd,_,_,_,_⟩:=HB2.out.four;clear k2)|(go_at_call 36;refine(HLK.out _).mono ?_;rintro en w3 ⟨rfl,k3⟩;have K3:=hid (K2.out.trans k3);have H3:=hid (H1.out.kp K3.out);have HB3:=hid (HB1.out.kp K3.out);have r1:w3.cell? ⟨E,1,none⟩=some (.map none):=(H3.out.c 1 rfl).1;obtain⟨ra,rb,rc,rd,_,_,_,_⟩:=HB3.out.four;clear k3))
 have KK:=hid (K1.out.trans K3.out);clear p1 pa pb pc pd q1 qa qb qc qd r1 ra rb rc rd HOF HLK H1 H2 HB1 HB2 K1 K2 K3;go_upto_region 2 with fail;obtain⟨p18,f18⟩:w3.cell? ⟨E,18,none⟩=some (.bool e.seeks)∧w3.frozen? ⟨E,18,none⟩=false:=H3.out.c 18 rfl;obtain⟨H4,N4,HOK4⟩:=hid3 (H3.out.set (e':={e with seeks:=false}) 18 (.bool false) rfl rfl rfl rfl rfl rfl rfl rfl) ((EdN.refl (E:=E) (X:=X) (G:=G) (R:=R) KK.out).set 18 (.bool false)) (HOK.out.sk_ HOK.out.skOk e.bell false);go_upto_region 3 with fail;clear p18 f18 H3 HB3 g1 g2 g3 g4 g5;generalize(w3.setCell ⟨E,18,none⟩ (.bool false))=w4 at *;obtain⟨sat,hsat⟩:∃x,x=e.sk.at_:=⟨_,rfl⟩;obtain⟨spl,hspl⟩:∃x,x=e.sk.place:=⟨_,rfl⟩;obtain⟨pt,hpt⟩:∃x,x=e.pat:=⟨_,rfl⟩;have HPA:=hid (fun(wx:World)=>past_at v.pA v.sA v.pn v.pc v.sn v.sc pt wx);have p8:w4.cell? ⟨E,8,none⟩=some (.slice v.pA v.pn v.pc):=(H4.out.c 8 rfl).1;have p9:w4.cell? ⟨E,9,none⟩=some (.int .i64 pt):=by rw[hpt];exact(H4.out.c 9 rfl).1
 have p10:w4.cell? ⟨E,10,none⟩=some (.slice v.sA v.sn v.sc):=(H4.out.c 10 rfl).1;have p13:w4.cell? ⟨E,13,none⟩=some (.int .i64 sat):=by rw[hsat];exact(H4.out.c 13 rfl).1
 obtain⟨HSA,HSP,HPT⟩:=hid3 hsat hspl hpt;clear hsat hspl hpt;go_region_held3 (fun w'=>w'.cell? ⟨E,8,none⟩=some (.slice v.pA v.pn v.pc)∧w'.cell? ⟨E,9,none⟩=some (.int .i64 pt)∧w'.cell? ⟨E,10,none⟩=some (.slice v.sA v.sn v.sc)∧w'.cell? ⟨E,13,none⟩=some (.int .i64 sat))
  (first|(with_reducible exact⟨p8,p9,p10,p13⟩)|(with_reducible exact⟨q8,q9,q10,q13⟩)|go_keep)
  (first|(go_at_call 71;refine(HPA.out _).mono ?_;rintro en w5 ⟨rfl,k5⟩;have K5:=hid ((Kp.refl w4).drew.trans k5);have H5:=hid (H4.out.kp K5.out);have q8:w5.cell? ⟨E,8,none⟩=some (.slice v.pA v.pn v.pc):=(H5.out.c 8 rfl).1;have q9:w5.cell? ⟨E,9,none⟩=some (.int .i64 pt):=(by rw[HPT.out];exact(H5.out.c 9 rfl).1);have q10:w5.cell? ⟨E,10,none⟩=some (.slice v.sA v.sn v.sc):=(H5.out.c 10 rfl).1;have q13:w5.cell? ⟨E,13,none⟩=some (.int .i64 sat):=(by rw[HSA.out];exact(H5.out.c 13 rfl).1)))
 have N5:=hid (N4.out.then_kp K5.out);clear p8 p9 p10 p13 q8 q9 q10 q13 HPA H4 K5 N4;have q14:w5.cell? ⟨E,14,none⟩=some (.int .i64 spl):=by rw[HSP.out];exact(H5.out.c 14 rfl).1
 by_cases hs:sat=pt
 ·have HE2:=hid (show ef=({e with seeks:=false,cursor:=e.tx.floor spl},false) by rw[HEF.out,if_pos (by rw[←HSA.out,←HPT.out];exact hs),HSP.out])
  subst hs;have HFL:=hid (fun(wx:World) (kx:Kp w5 wx)=>zR X G R g e.tx wx ((H5.out.kp kx).2.tx.tx fun k hk hx=>hk (.inr hx)) spl);have HIN:=hid (show e.tx.floor spl≤65536 by
   have ht:=(H5.out.2.tx.tx fun k hk hx=>hk (.inr hx)).ok;have h1:=ht.ix.floor_in spl;have h2:=ht.len;unfold Tx.floor;dsimp only at *;omega)
  have q2:w5.cell? ⟨E,2,none⟩=some (.pointer (some ⟨X,0,none⟩)):=(H5.out.c 2 rfl).1;obtain⟨fl,hfl⟩:∃x,x=e.tx.floor spl:=⟨_,rfl⟩;rw[←hfl]at HFL HE2 HIN;clear hfl;go_upto_region 5 with fail;go_region_held3 (fun w'=>w'.cell? ⟨E,2,none⟩=some (.pointer (some ⟨X,0,none⟩))∧w'.cell? ⟨E,14,none⟩=some (.int .i64 spl))
   (first|(with_reducible exact⟨q2,q14⟩)|(with_reducible exact⟨r2,r14⟩)|(with_reducible exact heldF H6.out HSP.out _)|go_keep)
   (first|(go_at_call 73;refine(HFL.out _ (Kp.refl w5).drew).mono ?_;rintro en w6 ⟨rfl,k6⟩;have K6:=hid ((Kp.refl w5).drew.trans k6);have H6:=hid (H5.out.kp K6.out);have r2:w6.cell? ⟨E,2,none⟩=some (.pointer (some ⟨X,0,none⟩)):=(H6.out.c 2 rfl).1;have r14:w6.cell? ⟨E,14,none⟩=some (.int .i64 spl):=(by rw[HSP.out];exact(H6.out.c 14 rfl).1);obtain⟨r3,f3⟩:w6.cell? ⟨E,3,none⟩=some (.int .i64 e.cursor)∧w6.frozen? ⟨E,3,none⟩=false:=H6.out.c 3 rfl;have hE6:=H6.out.1.lt))
  go_wp2_with fail;go_ret;refine⟨by rw[HE2.out];rfl,X,G,R,v,?_,(N5.out.then_kp K6.out).set 3 _,?_⟩
  ·rw[HE2.out]
   exact H6.out.set 3 _ rfl rfl rfl rfl rfl rfl rfl rfl
  ·rw[HE2.out]
   exact(HOK4.out.up (k:=j+1) (by omega) HJ.out).cur' fl HIN.out
 ·have HE2:=hid (show ef=((EdS.visit T {e with seeks:=false} sat spl).1,false) by rw[HEF.out,if_neg (by rw[←HSA.out,←HPT.out];exact hs),HSA.out,HSP.out])
  have b1:(sat != pt)=true:=by simpa using hs
  have HVI:=hid (fun(wx:World) (kx:Kp w5 wx)=>visit_any E X G R g {e with seeks:=false} v T wT wx (H5.out.kp kx) ((N5.out.tab HT.out).next kx) j HOK4.out HJ.out sat spl);have q13:w5.cell? ⟨E,13,none⟩=some (.int .i64 sat):=by rw[HSA.out];exact(H5.out.c 13 rfl).1
  clear hs;go_upto_region 4 with fail;go_still_tail 13,(by kernel_rfl);change wpList _ _ _ _ _ w5.drew;go_wp2_with fail;refine(HVI.out _ (Kp.refl w5).drew).mono ?_;rintro en w6 ⟨rfl,X',G',R',v1,h6,n6,ok6⟩;go_wp2_with fail;go_ret;exact⟨by rw[HE2.out];rfl,X',G',R',v1,by rw[HE2.out];exact h6,(N5.out.then_kp (Kp.refl w5).drew).trans n6,by rw[HE2.out];exact ok6⟩
theorem seeks_any:Calls Tryz.prog 35 #[.pointer (some ⟨E,0,none⟩),.agg #[.int .i64 k.kind,.int .i32 k.rune,.bool k.meta_,.slice KA kn kc]] w (RetE D (j+1) E X G R g (e.seek T k).1 (.bool (e.seek T k).2) w):=by
 by_cases h1:cmdK false k=1
 ·exact seeks_type E X G R g e v T wT w h hT j ok hj k KA kn kc hr h1
 by_cases h2:cmdK false k=10
 ·exact seeks_rub E X G R g e v T wT w h hT j ok hj k KA kn kc hr h2
 by_cases h3:cmdK false k=24
 ·exact seeks_back E X G R g e v T wT w h hT j ok hj k KA kn kc hr h3
 by_cases h4:cmdK false k=25
 ·exact seeks_on E X G R g e v T wT w h hT j ok hj k KA kn kc hr h4
 by_cases h5:cmdK false k=26
 ·exact seeks_abort E X G R g e v T wT w h hT j ok hj k KA kn kc hr h5
 exact seeks_over E X G R g e v T wT w h hT j ok hj k KA kn kc hr ⟨h1,h2,h3,h4,h5⟩
end
end
end Go.Proofs.YtociefdcccokjaaGreat

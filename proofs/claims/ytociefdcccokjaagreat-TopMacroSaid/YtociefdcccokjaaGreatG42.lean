/-
  Lemmas for TopMacro. Conditions: each states its own.
-/
import Derived.Test.YtociefdcccokjaaGreatG39
import Derived.Test.YtociefdcccokjaaGreatG41
set_option maxHeartbeats 6400000
set_option maxRecDepth 100000
namespace Go.Proofs.YtociefdcccokjaaGreat
open Go.RowKit Go.Lib
section
variable {D:Nat→Prop}
theorem zU {T:TM}{e:EdS}{c n:Int}(h:(e.goes T c n).2=false):(e.goes T c n).1=e:=by
 unfold EdS.goes at h⊢
 split at h
 ·cases h
 ·rename_i hm
  rw[if_neg hm]
  split
  ·rfl
  ·rename_i s hs
   rw[hs]at h;dsimp only at h
   split
   ·rfl
   ·rename_i h1
    rw[if_neg h1]at h
    split at h
    ·split at h<;>cases h
    ·cases h
theorem turn_ok {j:Nat}{e:EdS}(h:EdOk j e):EdOk j {e with rat:=if e.ring=[]then e.rat else(e.rat+1) % e.ring.length}:=by
 have h0:=h.rat0;refine⟨h.jb,h.c1,h.m1,h.rlen,h.rtx,?_,?_,h.ulen,h.ues,h.pat0,h.pat1,h.plen,h.ptx,h.stash,h.ska,h.skh,h.skp,h.n0,h.run,h.lines⟩
 ·dsimp only
  split
  ·exact h0
  ·rename_i hr
   have:=List.length_pos_iff.2 hr;exact Int.emod_nonneg _ (by omega)
 ·dsimp only
  split
  ·rename_i hr
   rcases h.rat1 with h1|h1
   ·rw[hr]at h1;simp at h1;omega
   ·exact .inr h1
  ·rename_i hr
   have:=List.length_pos_iff.2 hr;exact .inl (Int.emod_lt_of_pos _ (by omega))
section
variable (E X G R g:Nat)(e:EdS)(v:EdL)(T:TM)(wT w:World)(h:EdAt D w E X G R g e v)(hT:TabN wT w g T (Eb E X G R))(j:Nat)(ok:EdOk j e)(hj:j+3≤1000)(n:Int)(hn: -9999≤n∧n≤9999)
 (k:KeyV)(KA:Option Addr)(kn kc:Nat)(hk:Ru w (fun q=>¬Ew D E X G R q) KA kn kc k.text)(hk32:R32ok k.text)(hk65:k.text.length≤65536)(hr:r32 k.rune)(hln:e.lines=[])
include h hT ok hj hn hk hk32 hk65 hr hln
theorem does_put:DoC D E X G R g e T w j n k KA kn kc 1:=by
 unfold DoC;obtain⟨ef,hef⟩:∃x,x=e.does T 1 n k:=⟨_,rfl⟩;rw[←hef];obtain⟨HEF,H,HT,HOK,HJ,HLN,HK32,HK65,HR32⟩:=hid9 (show ef=e.put T k.rune n from hef) h hT ok hj hln hk32 hk65 hr;obtain⟨HNB,HKT⟩:=hid2 hn hk;clear h hT ok hj hln hk hk32 hk65 hr hn hef;go_enter Tryz.func40,Tryz.ntmps40;go_upto_region 1 with fail;obtain⟨P,w1,hP,hw,K1,HB1,HPE,HPN,H1,N1⟩:=zT H.out k KA kn kc;rw[hw,hP];clear hw hP;have HK1:=hid (Sl.kp HKT.out K1.out);obtain⟨pa,pb,pc,pd,_,_,_,_⟩:=HB1.out.four;have HPU:=hid (put_any E X G R g e v T wT w1 H1.out (HT.out.next K1.out) j HOK.out (by have:=HJ.out;omega) k.rune n HR32.out (by have:=HNB.out;omega));rw[←HEF.out]at HPU;go_wp2_with fail;refine HPU.out.mono ?_;rintro en w3 ⟨rfl,X',G',R',v1,h3,n3,ok3⟩;go_wp2_with fail;go_end0;exact⟨rfl,X',G',R',v1,h3,N1.out.trans n3,ok3.up (by omega) HJ.out⟩
theorem does_goes (c:Int)(hc:c≠1)(hg:(e.goes T c n).2=true):DoC D E X G R g e T w j n k KA kn kc c:=by
 unfold DoC;obtain⟨ef,hef⟩:∃x,x=e.does T c n k:=⟨_,rfl⟩;rw[←hef];have HEF:=hid (show ef=(e.goes T c n).1 by rw[hef];unfold EdS.does;rw[if_neg hc,if_pos hg]);have g1:(c != 1)=true:=by simpa using hc
 clear hc;obtain⟨H,HT,HOK,HJ,HLN,HK32,HK65,HR32,HNB⟩:=hid9 h hT ok hj hln hk32 hk65 hr hn;obtain⟨HKT,HGO⟩:=hid2 hk (fun(wx:World) (kx:Kp w wx)=>goes_any E X G R g e v T wT wx (h.kp kx) (hT.next kx) j ok (by omega) c n (by omega));rw[hg]at HGO;clear h hT ok hj hln hk hk32 hk65 hr hn hef hg;go_enter Tryz.func40,Tryz.ntmps40;go_upto_region 1 with fail;obtain⟨P,w1,hP,hw,K1,HB1,HPE,HPN,H1,N1⟩:=zT H.out k KA kn kc;rw[hw,hP];clear hw hP;have HK1:=hid (Sl.kp HKT.out K1.out);rw[←HEF.out]at HGO;go_wp2_with fail;refine(HGO.out _ K1.out).mono ?_;rintro en w3 ⟨rfl,X',G',R',v1,h3,n3,ok3⟩;go_wp2_with fail;go_end0;exact⟨rfl,X',G',R',v1,h3,N1.out.trans n3,ok3.up (by omega) HJ.out⟩
theorem does_yank (hg:(e.goes T 19 n).2=false):DoC D E X G R g e T w j n k KA kn kc 19:=by
 unfold DoC;obtain⟨ef,hef⟩:∃x,x=e.does T 19 n k:=⟨_,rfl⟩;rw[←hef];obtain⟨HEF,H,HT,HOK,HJ,HLN,HK32,HK65,HR32⟩:=hid9 (show ef=e.yank T by rw[hef];unfold EdS.does;rw[if_neg (by decide),if_neg (by rw[hg];simp),zU hg];rfl) h hT ok hj hln hk32 hk65 hr;obtain⟨HNB,HKT,HGO⟩:=hid3 hn hk (fun(wx:World) (kx:Kp w wx)=>goes_any E X G R g e v T wT wx (h.kp kx) (hT.next kx) j ok (by omega) 19 n (by omega));rw[hg]at HGO;rw[zU hg]at HGO;clear h hT ok hj hln hk hk32 hk65 hr hn hef hg;go_enter Tryz.func40,Tryz.ntmps40;go_upto_region 1 with fail;obtain⟨P,w1,hP,hw,K1,HB1,HPE,HPN,H1,N1⟩:=zT H.out k KA kn kc;rw[hw,hP];clear hw hP;have HK1:=hid (Sl.kp HKT.out K1.out);go_upto_region 2 with(go_at_call 78;refine(HGO.out _ K1.out).mono ?_;rintro en w2 ⟨rfl,X2,G2,R2,v2,h2,n2,ok2⟩);obtain⟨H2,N2,OK2,HB2,HK2⟩:=hid5 h2 (N1.out.trans n2) ok2 (n2.bx HB1.out HPE.out) (n2.ru HK1.out);clear h2 n2 ok2 HGO H1 N1 HB1 HK1 HPE;have HYA:=hid (yank_any E X2 G2 R2 g e v2 T wT w2 H2.out (N2.out.tab HT.out) (j+1) OK2.out (by have:=HJ.out;omega));rw[←HEF.out]at HYA;go_wp2_with fail;refine HYA.out.mono ?_;rintro en w3 ⟨rfl,X',G',R',v1,h3,n3,ok3⟩;go_wp2_with fail;go_end0;exact⟨rfl,X',G',R',v1,h3,N2.out.trans n3,ok3.up (by omega) HJ.out⟩
theorem does_region15 (hg:(e.goes T 15 n).2=false):DoC D E X G R g e T w j n k KA kn kc 15:=by
 unfold DoC;obtain⟨ef,hef⟩:∃x,x=e.does T 15 n k:=⟨_,rfl⟩;rw[←hef];obtain⟨HEF,H,HT,HOK,HJ,HLN,HK32,HK65,HR32⟩:=hid9 (show ef=e.region T 15 by rw[hef];unfold EdS.does;rw[if_neg (by decide),if_neg (by rw[hg];simp),zU hg];rfl) h hT ok hj hln hk32 hk65 hr;obtain⟨HNB,HKT,HGO⟩:=hid3 hn hk (fun(wx:World) (kx:Kp w wx)=>goes_any E X G R g e v T wT wx (h.kp kx) (hT.next kx) j ok (by omega) 15 n (by omega));rw[hg]at HGO;rw[zU hg]at HGO;clear h hT ok hj hln hk hk32 hk65 hr hn hef hg;go_enter Tryz.func40,Tryz.ntmps40;go_upto_region 1 with fail;obtain⟨P,w1,hP,hw,K1,HB1,HPE,HPN,H1,N1⟩:=zT H.out k KA kn kc;rw[hw,hP];clear hw hP;have HK1:=hid (Sl.kp HKT.out K1.out);go_upto_region 2 with(go_at_call 78;refine(HGO.out _ K1.out).mono ?_;rintro en w2 ⟨rfl,X2,G2,R2,v2,h2,n2,ok2⟩);obtain⟨H2,N2,OK2,HB2,HK2⟩:=hid5 h2 (N1.out.trans n2) ok2 (n2.bx HB1.out HPE.out) (n2.ru HK1.out);clear h2 n2 ok2 HGO H1 N1 HB1 HK1 HPE;have HRG:=hid (region_any E X2 G2 R2 g e v2 T wT w2 H2.out (N2.out.tab HT.out) (j+1) OK2.out (by have:=HJ.out;omega) 15);rw[←HEF.out]at HRG;go_wp2_with fail;refine HRG.out.mono ?_;rintro en w3 ⟨rfl,X',G',R',v1,h3,n3,ok3⟩;go_wp2_with fail;go_end0;exact⟨rfl,X',G',R',v1,h3,N2.out.trans n3,ok3.up (by omega) HJ.out⟩
theorem does_region16 (hg:(e.goes T 16 n).2=false):DoC D E X G R g e T w j n k KA kn kc 16:=by
 unfold DoC;obtain⟨ef,hef⟩:∃x,x=e.does T 16 n k:=⟨_,rfl⟩;rw[←hef];obtain⟨HEF,H,HT,HOK,HJ,HLN,HK32,HK65,HR32⟩:=hid9 (show ef=e.region T 16 by rw[hef];unfold EdS.does;rw[if_neg (by decide),if_neg (by rw[hg];simp),zU hg];rfl) h hT ok hj hln hk32 hk65 hr;obtain⟨HNB,HKT,HGO⟩:=hid3 hn hk (fun(wx:World) (kx:Kp w wx)=>goes_any E X G R g e v T wT wx (h.kp kx) (hT.next kx) j ok (by omega) 16 n (by omega));rw[hg]at HGO;rw[zU hg]at HGO;clear h hT ok hj hln hk hk32 hk65 hr hn hef hg;go_enter Tryz.func40,Tryz.ntmps40;go_upto_region 1 with fail;obtain⟨P,w1,hP,hw,K1,HB1,HPE,HPN,H1,N1⟩:=zT H.out k KA kn kc;rw[hw,hP];clear hw hP;have HK1:=hid (Sl.kp HKT.out K1.out);go_upto_region 2 with(go_at_call 78;refine(HGO.out _ K1.out).mono ?_;rintro en w2 ⟨rfl,X2,G2,R2,v2,h2,n2,ok2⟩);obtain⟨H2,N2,OK2,HB2,HK2⟩:=hid5 h2 (N1.out.trans n2) ok2 (n2.bx HB1.out HPE.out) (n2.ru HK1.out);clear h2 n2 ok2 HGO H1 N1 HB1 HK1 HPE;have HRG:=hid (region_any E X2 G2 R2 g e v2 T wT w2 H2.out (N2.out.tab HT.out) (j+1) OK2.out (by have:=HJ.out;omega) 16);rw[←HEF.out]at HRG;go_wp2_with fail;refine HRG.out.mono ?_;rintro en w3 ⟨rfl,X',G',R',v1,h3,n3,ok3⟩;go_wp2_with fail;go_end0;exact⟨rfl,X',G',R',v1,h3,N2.out.trans n3,ok3.up (by omega) HJ.out⟩
theorem does_other (c:Int)(hc:c≠1)(hcs:c≠19∧c≠20∧c≠15∧c≠16)(hg:(e.goes T c n).2=false):DoC D E X G R g e T w j n k KA kn kc c:=by
 unfold DoC;obtain⟨ef,hef⟩:∃x,x=e.does T c n k:=⟨_,rfl⟩;rw[←hef];obtain⟨c19,c20,c15,c16⟩:=hcs;have HEF:=hid (show ef=e.does2 T c n k by rw[hef];unfold EdS.does;rw[if_neg hc,if_neg (by rw[hg];simp),zU hg];dsimp only;rw[if_neg c19,if_neg c20,if_neg (fun hh=>hh.elim c15 c16)]);have g1:(c != 1)=true:=by simpa using hc
 have g0:(c==1)=false:=by simpa using hc
 have g19:(c==19)=false:=by simpa using c19
 have g20:(c==20)=false:=by simpa using c20
 have g15:(c==15)=false:=by simpa using c15
 have g16:(c==16)=false:=by simpa using c16
 clear hc c19 c20 c15 c16;obtain⟨H,HT,HOK,HJ,HLN,HK32,HK65,HR32,HNB⟩:=hid9 h hT ok hj hln hk32 hk65 hr hn;obtain⟨HKT,HGO⟩:=hid2 hk (fun(wx:World) (kx:Kp w wx)=>goes_any E X G R g e v T wT wx (h.kp kx) (hT.next kx) j ok (by omega) c n (by omega));rw[hg]at HGO;rw[zU hg]at HGO;clear h hT ok hj hln hk hk32 hk65 hr hn hef hg;go_enter Tryz.func40,Tryz.ntmps40;go_upto_region 1 with fail;obtain⟨P,w1,hP,hw,K1,HB1,HPE,HPN,H1,N1⟩:=zT H.out k KA kn kc;rw[hw,hP];clear hw hP;have HK1:=hid (Sl.kp HKT.out K1.out);go_upto_region 2 with(go_at_call 78;refine(HGO.out _ K1.out).mono ?_;rintro en w2 ⟨rfl,X2,G2,R2,v2,h2,n2,ok2⟩);obtain⟨H2,N2,OK2,HB2,HK2⟩:=hid5 h2 (N1.out.trans n2) ok2 (n2.bx HB1.out HPE.out) (n2.ru HK1.out);clear h2 n2 ok2 HGO H1 N1 HB1 HK1 HPE;go_upto_region 14 with fail;obtain⟨p25,f25⟩:w2.cell? ⟨E,25,none⟩=some (.int .i64 e.last)∧w2.frozen? ⟨E,25,none⟩=false:=H2.out.c 25 rfl;have HE0:=H2.out.1.lt;obtain⟨H3,N3,HB3,HK3,OK3⟩:=hid5 (H2.out.set (e':={e with last:=0}) 25 (.int .i64 0) rfl rfl rfl rfl rfl rfl rfl rfl) (N2.out.set 25 (.int .i64 0)) (HB2.out.1.far (p:=⟨E,25,none⟩) (fun hp=>HB2.out.2 (.inl (.inl hp))) (.int .i64 0)) (Sl.setCell (p:=⟨E,25,none⟩) HK2.out (fun hh=>hh (.inl (.inl rfl))) (.int .i64 0)) (OK2.out.run_ 0 (e).run (e).bell OK2.out.run);go_upto_region 15 with fail;clear p25 f25 HE0 H2 HB2 HK2;generalize(w2.setCell ⟨E,25,none⟩ (.int .i64 0))=w5 at *;obtain⟨pa,pb,pc,pd,_,_,_,_⟩:=HB3.out.four;obtain⟨b5,hb5⟩:∃x,x=(EdS.others T {e with last:=0} c n k).2:=⟨_,rfl⟩;have HOT:=hid (others_any E X2 G2 R2 g {e with last:=0} v2 T wT w5 H3.out (N3.out.tab HT.out) (j+1) OK3.out (by have:=HJ.out;omega) n HNB.out k KA kn kc (Sl.any HK3.out) HK32.out HK65.out HLN.out c);rw[←hb5]at HOT;have HB5:=hid hb5;clear hb5;go_wp2_with fail;refine HOT.out.mono ?_;rintro en w6 ⟨rfl,X',G',R',v1,h6,n6,ok6⟩;obtain⟨H6,N6,OK6⟩:=hid3 h6 (N3.out.trans n6) ok6;clear h6 n6 ok6 HOT pa pb pc pd;cases b5 with
 |true=>
  have HE6:=hid (show ef=(EdS.others T {e with last:=0} c n k).1 by rw[HEF.out];unfold EdS.does2;dsimp only;rw[if_pos HB5.out.symm]);go_wp2_with fail;go_end0;exact⟨rfl,X',G',R',v1,by rw[HE6.out];exact H6.out,N6.out,by rw[HE6.out];exact OK6.out.up (by omega) HJ.out⟩
 |false=>
  obtain⟨HE6,HBL⟩:=hid2 (show ef=(EdS.others T {e with last:=0} c n k).1.ring_ by rw[HEF.out];unfold EdS.does2;dsimp only;rw[if_neg (by rw[←HB5.out];simp)];rfl) (zO E X' G' R' g _ v1 w6 H6.out);go_wp2_with fail;refine HBL.out.mono ?_;rintro en w7 ⟨rfl,h7,m7⟩;go_wp2_with fail;go_end0;exact⟨rfl,X',G',R',v1,by rw[HE6.out];exact h7,N6.out.then_mu (m7.weak (S':=Eb E X' G' R') fun _ _ q=>.inl q),by rw[HE6.out];exact(OK6.out.up (by omega) HJ.out).ring_⟩
theorem does_pop (hg:(e.goes T 20 n).2=false):DoC D E X G R g e T w j n k KA kn kc 20:=by
 unfold DoC;obtain⟨ef,hef⟩:∃x,x=e.does T 20 n k:=⟨_,rfl⟩;rw[←hef];obtain⟨HDF,H,HT,HOK,HJ,HLN,HK32,HK65,HR32⟩:=hid9 (show ef=if e.last=3 then(if(e.undone T).2=true then EdS.yank T {(e.undone T).1 with rat:=if e.ring=[]then e.rat else(e.rat+1) % e.ring.length}else EdS.does2 T (e.undone T).1 20 n k)else e.does2 T 20 n k by rw[hef];unfold EdS.does;rw[if_neg (by decide),if_neg (by rw[hg];simp),zU hg];rfl) h hT ok hj hln hk32 hk65 hr;obtain⟨HNB,HKT,HGO⟩:=hid3 hn hk (fun(wx:World) (kx:Kp w wx)=>goes_any E X G R g e v T wT wx (h.kp kx) (hT.next kx) j ok (by omega) 20 n (by omega));rw[hg]at HGO;rw[zU hg]at HGO;clear h hT ok hj hln hk hk32 hk65 hr hn hef hg;go_enter Tryz.func40,Tryz.ntmps40;go_upto_region 1 with fail;obtain⟨P,w1,hP,hw,K1,HB1,HPE,HPN,H1,N1⟩:=zT H.out k KA kn kc;rw[hw,hP];clear hw hP;have HK1:=hid (Sl.kp HKT.out K1.out);go_upto_region 2 with(go_at_call 78;refine(HGO.out _ K1.out).mono ?_;rintro en w2 ⟨rfl,X2,G2,R2,v2,h2,n2,ok2⟩);obtain⟨H2,N2,OK2,HB2,HK2⟩:=hid5 h2 (N1.out.trans n2) ok2 (n2.bx HB1.out HPE.out) (n2.ru HK1.out);clear h2 n2 ok2 HGO H1 N1 HB1 HK1 HPE;obtain⟨la,hla⟩:∃x,x=e.last:=⟨_,rfl⟩;have p0:w2.cell? ⟨E,25,none⟩=some (.int .i64 la):=by rw[hla];exact(H2.out.c 25 rfl).1
 have HLA:=hid hla;clear hla;by_cases hl:la=3
 ·have HEG:=hid (show ef=if(e.undone T).2=true then EdS.yank T {(e.undone T).1 with rat:=if e.ring=[]then e.rat else(e.rat+1) % e.ring.length}else EdS.does2 T (e.undone T).1 20 n k by rw[HDF.out,if_pos (by rw[←HLA.out];exact hl)])
  have q1:(la != 3)=false:=by simp[hl]
  obtain⟨b3,hb3⟩:∃x,x=(e.undone T).2:=⟨_,rfl⟩;obtain⟨t3,m3,u3,cu3,hf3⟩:=undone_form T e;have HUN:=hid (undone_any E X2 G2 R2 g e v2 T wT w2 H2.out (N2.out.tab HT.out) (j+1) OK2.out (by have:=HJ.out;omega));rw[←hb3,hf3]at HUN HEG;clear hl hb3 hf3 HDF;go_upto_region 8 with fail;go_cut [40] (fun x wx=>x=.bool (!b3)∧∃X3 G3 R3 v3,Hid (EdAt D wx E X3 G3 R3 g {e with tx:=t3,mark:=m3,undo:=u3,cursor:=cu3} v3)∧Hid (EdN E X2 G2 R2 X3 G3 R3 w2 wx)∧Hid (EdOk (j+2) {e with tx:=t3,mark:=m3,undo:=u3,cursor:=cu3}))
  case first=>
   go_wp2_with fail;refine HUN.out.mono ?_;rintro en w3 ⟨rfl,X3,G3,R3,v3,h3,n3,ok3⟩;go_wp2_with fail;go_meet;exact⟨rfl,X3,G3,R3,v3,h3,n3,ok3⟩
  case rest=>
  obtain⟨rfl,X3,G3,R3,v3,h3,n3,ok3⟩:=hcut;obtain⟨N4,HB4,HK4⟩:=hid3 (N2.out.trans n3.out) (n3.out.bx HB2.out.1 HB2.out.2) (n3.out.ru HK2.out);clear p0 HUN;cases b3 with
  |true=>
   simp only[Bool.not_true];have HEY:=hid (show ef=EdS.yank T {e with tx:=t3,mark:=m3,undo:=u3,cursor:=cu3,rat:=if e.ring=[]then e.rat else(e.rat+1) % e.ring.length} by rw[HEG.out,if_pos rfl]);obtain⟨r,hr⟩:∃r:Nat,e.rat=r:=⟨e.rat.toNat,by have:=HOK.out.rat0;omega⟩;have hrl:=h3.out.2.ring.len;have hrb:r≤1000000:=by have:=HOK.out.rat1;have:=HOK.out.rlen;rcases this':HOK.out.rat1 with h|h<;>omega
   have hre:(((if v3.rn=0 then r else(r+1) % v3.rn:Nat)):Int)=if e.ring=[]then e.rat else(e.rat+1) % e.ring.length:=by
    dsimp only at hrl;rw[hr,←hrl];by_cases h0:e.ring=[]
    ·rw[if_pos h0,if_pos (by rw[h0];rfl)]
    ·rw[if_neg h0,if_neg (by have:=List.length_pos_iff.2 h0;omega)]
     rfl
   have HTU:=hid (fun(wx:World)=>ringTurn_any v3.rA v3.rn v3.rc r wx hrb);obtain⟨nr,hnr⟩:∃x,x=(((if v3.rn=0 then r else(r+1) % v3.rn:Nat)):Int):=⟨_,rfl⟩;rw[←hnr]at HTU hre;have HRE:=hid hre;obtain⟨p5,f5⟩:wc.cell? ⟨E,5,none⟩=some (.slice v3.rA v3.rn v3.rc)∧wc.frozen? ⟨E,5,none⟩=false:=h3.out.c 5 rfl;obtain⟨p6,f6⟩:wc.cell? ⟨E,6,none⟩=some (.int .i64 (r:Int))∧wc.frozen? ⟨E,6,none⟩=false:=by rw[←hr];exact h3.out.c 6 rfl
   clear hr hrl hre hnr hrb;go_upto_region 9 with fail;go_wp2_with fail;refine(HTU.out _).mono ?_;rintro en w5 ⟨rfl,k5⟩;obtain⟨H5,N5⟩:=hid2 (h3.out.kp k5) (N4.out.then_kp k5);clear p5 f5 p6 f6 k5 HTU;obtain⟨p5,f5⟩:w5.cell? ⟨E,5,none⟩=some (.slice v3.rA v3.rn v3.rc)∧w5.frozen? ⟨E,5,none⟩=false:=H5.out.c 5 rfl;obtain⟨p6,f6⟩:=H5.out.c 6 rfl;have hE:=H5.out.1.lt;obtain⟨H6,N6⟩:=hid2 (H5.out.ring_ (at_:=nr) H5.out.2.ring) ((N5.out.set 5 (.slice v3.rA v3.rn v3.rc)).set 6 (.int .i64 nr));rw[HRE.out]at H6;go_upto_region 10 with fail;clear p5 f5 p6 f6 H5 N5 hE;rw[←HRE.out]at H6;generalize((w5.setCell ⟨E,5,none⟩ (.slice v3.rA v3.rn v3.rc)).setCell ⟨E,6,none⟩ (.int .i64 nr))=w6 at *;rw[HRE.out]at H6;have HYA:=hid (yank_any E X3 G3 R3 g _ _ T wT w6 H6.out (N6.out.tab HT.out) (j+2) (turn_ok ok3.out) (by have:=HJ.out;omega));rw[show EdS.yank T {e with tx:=t3,mark:=m3,undo:=u3,cursor:=cu3,rat:=if e.ring=[]then e.rat else(e.rat+1) % e.ring.length}=ef from HEY.out.symm]at HYA;go_wp2_with fail;refine HYA.out.mono ?_;rintro en w7 ⟨rfl,X',G',R',v1,h7,n7,ok7⟩;go_wp2_with fail;go_end0;exact⟨rfl,X',G',R',v1,h7,N6.out.trans n7,ok7⟩
  |false=>
   simp only[Bool.not_false];have HEF:=hid (show ef=EdS.does2 T {e with tx:=t3,mark:=m3,undo:=u3,cursor:=cu3} 20 n k by rw[HEG.out,if_neg (by simp)]);clear HEG;go_upto_region 14 with fail;obtain⟨p25,f25⟩:wc.cell? ⟨E,25,none⟩=some (.int .i64 e.last)∧wc.frozen? ⟨E,25,none⟩=false:=h3.out.c 25 rfl;have HE0:=h3.out.1.lt;obtain⟨H3,N3,HB3,HK3,OK3⟩:=hid5 (h3.out.set (e':={e with tx:=t3,mark:=m3,undo:=u3,cursor:=cu3,last:=0}) 25 (.int .i64 0) rfl rfl rfl rfl rfl rfl rfl rfl) (N4.out.set 25 (.int .i64 0)) (HB4.out.1.far (p:=⟨E,25,none⟩) (fun hp=>HB4.out.2 (.inl (.inl hp))) (.int .i64 0)) (Sl.setCell (p:=⟨E,25,none⟩) HK4.out (fun hh=>hh (.inl (.inl rfl))) (.int .i64 0)) (ok3.out.run_ 0 e.run e.bell ok3.out.run);go_upto_region 15 with fail;clear p25 f25 HE0 h3 HB4 HK4;generalize(wc.setCell ⟨E,25,none⟩ (.int .i64 0))=w5 at *;obtain⟨pa,pb,pc,pd,_,_,_,_⟩:=HB3.out.four;obtain⟨b5,hb5⟩:∃x,x=(EdS.others T {e with tx:=t3,mark:=m3,undo:=u3,cursor:=cu3,last:=0} 20 n k).2:=⟨_,rfl⟩;have HOT:=hid (others_any E X3 G3 R3 g {e with tx:=t3,mark:=m3,undo:=u3,cursor:=cu3,last:=0} v3 T wT w5 H3.out (N3.out.tab HT.out) (j+2) OK3.out (by have:=HJ.out;omega) n HNB.out k KA kn kc (Sl.any HK3.out) HK32.out HK65.out HLN.out 20);rw[←hb5]at HOT;have HB5:=hid hb5;clear hb5;go_wp2_with fail;refine HOT.out.mono ?_;rintro en w6 ⟨rfl,X',G',R',v1,h6,n6,ok6⟩;obtain⟨H6,N6,OK6⟩:=hid3 h6 (N3.out.trans n6) ok6;clear h6 n6 ok6 HOT pa pb pc pd;cases b5 with
   |true=>
    have HE6:=hid (show ef=(EdS.others T {e with tx:=t3,mark:=m3,undo:=u3,cursor:=cu3,last:=0} 20 n k).1 by rw[HEF.out];unfold EdS.does2;dsimp only;rw[if_pos HB5.out.symm]);go_wp2_with fail;go_end0;exact⟨rfl,X',G',R',v1,by rw[HE6.out];exact H6.out,N6.out,by rw[HE6.out];exact OK6.out.up (by omega) HJ.out⟩
   |false=>
    obtain⟨HE6,HBL⟩:=hid2 (show ef=(EdS.others T {e with tx:=t3,mark:=m3,undo:=u3,cursor:=cu3,last:=0} 20 n k).1.ring_ by rw[HEF.out];unfold EdS.does2;dsimp only;rw[if_neg (by rw[←HB5.out];simp)];rfl) (zO E X' G' R' g _ v1 w6 H6.out);go_wp2_with fail;refine HBL.out.mono ?_;rintro en w7 ⟨rfl,h7,m7⟩;go_wp2_with fail;go_end0;exact⟨rfl,X',G',R',v1,by rw[HE6.out];exact h7,N6.out.then_mu (m7.weak (S':=Eb E X' G' R') fun _ _ q=>.inl q),by rw[HE6.out];exact(OK6.out.up (by omega) HJ.out).ring_⟩
 ·have HEF:=hid (show ef=e.does2 T 20 n k by rw[HDF.out,if_neg (by rw[←HLA.out];exact hl)])
  have q1:(la != 3)=true:=by simp[hl]
  clear hl HDF;go_upto_region 14 with fail;clear p0;obtain⟨p25,f25⟩:w2.cell? ⟨E,25,none⟩=some (.int .i64 e.last)∧w2.frozen? ⟨E,25,none⟩=false:=H2.out.c 25 rfl;have HE0:=H2.out.1.lt;obtain⟨H3,N3,HB3,HK3,OK3⟩:=hid5 (H2.out.set (e':={e with last:=0}) 25 (.int .i64 0) rfl rfl rfl rfl rfl rfl rfl rfl) (N2.out.set 25 (.int .i64 0)) (HB2.out.1.far (p:=⟨E,25,none⟩) (fun hp=>HB2.out.2 (.inl (.inl hp))) (.int .i64 0)) (Sl.setCell (p:=⟨E,25,none⟩) HK2.out (fun hh=>hh (.inl (.inl rfl))) (.int .i64 0)) (OK2.out.run_ 0 (e).run (e).bell OK2.out.run);go_upto_region 15 with fail;clear p25 f25 HE0 H2 HB2 HK2;generalize(w2.setCell ⟨E,25,none⟩ (.int .i64 0))=w5 at *;obtain⟨pa,pb,pc,pd,_,_,_,_⟩:=HB3.out.four;obtain⟨b5,hb5⟩:∃x,x=(EdS.others T {e with last:=0} 20 n k).2:=⟨_,rfl⟩;have HOT:=hid (others_any E X2 G2 R2 g {e with last:=0} v2 T wT w5 H3.out (N3.out.tab HT.out) (j+1) OK3.out (by have:=HJ.out;omega) n HNB.out k KA kn kc (Sl.any HK3.out) HK32.out HK65.out HLN.out 20);rw[←hb5]at HOT;have HB5:=hid hb5;clear hb5;go_wp2_with fail;refine HOT.out.mono ?_;rintro en w6 ⟨rfl,X',G',R',v1,h6,n6,ok6⟩;obtain⟨H6,N6,OK6⟩:=hid3 h6 (N3.out.trans n6) ok6;clear h6 n6 ok6 HOT pa pb pc pd;cases b5 with
  |true=>
   have HE6:=hid (show ef=(EdS.others T {e with last:=0} 20 n k).1 by rw[HEF.out];unfold EdS.does2;dsimp only;rw[if_pos HB5.out.symm]);go_wp2_with fail;go_end0;exact⟨rfl,X',G',R',v1,by rw[HE6.out];exact H6.out,N6.out,by rw[HE6.out];exact OK6.out.up (by omega) HJ.out⟩
  |false=>
   obtain⟨HE6,HBL⟩:=hid2 (show ef=(EdS.others T {e with last:=0} 20 n k).1.ring_ by rw[HEF.out];unfold EdS.does2;dsimp only;rw[if_neg (by rw[←HB5.out];simp)];rfl) (zO E X' G' R' g _ v1 w6 H6.out);go_wp2_with fail;refine HBL.out.mono ?_;rintro en w7 ⟨rfl,h7,m7⟩;go_wp2_with fail;go_end0;exact⟨rfl,X',G',R',v1,by rw[HE6.out];exact h7,N6.out.then_mu (m7.weak (S':=Eb E X' G' R') fun _ _ q=>.inl q),by rw[HE6.out];exact(OK6.out.up (by omega) HJ.out).ring_⟩
theorem does_any (c:Int):Calls Tryz.prog 40 #[.pointer (some ⟨E,0,none⟩),.int .i64 c,.int .i64 n,.agg #[.int .i64 k.kind,.int .i32 k.rune,.bool k.meta_,.slice KA kn kc]] w (RetE D (j+3) E X G R g (e.does T c n k) (.tuple #[]) w):=by
 by_cases c1:c=1
 ·subst c1;exact does_put E X G R g e v T wT w h hT j ok hj n hn k KA kn kc hk hk32 hk65 hr hln
 cases hg:(e.goes T c n).2 with
 |true=>exact does_goes E X G R g e v T wT w h hT j ok hj n hn k KA kn kc hk hk32 hk65 hr hln c c1 hg
 |false=>
  by_cases c19:c=19
  ·subst c19;exact does_yank E X G R g e v T wT w h hT j ok hj n hn k KA kn kc hk hk32 hk65 hr hln hg
  by_cases c20:c=20
  ·subst c20;exact does_pop E X G R g e v T wT w h hT j ok hj n hn k KA kn kc hk hk32 hk65 hr hln hg
  by_cases c15:c=15
  ·subst c15;exact does_region15 E X G R g e v T wT w h hT j ok hj n hn k KA kn kc hk hk32 hk65 hr hln hg
  by_cases c16:c=16
  ·subst c16;exact does_region16 E X G R g e v T wT w h hT j ok hj n hn k KA kn kc hk hk32 hk65 hr hln hg
  exact does_other E X G R g e v T wT w h hT j ok hj n hn k KA kn kc hk hk32 hk65 hr hln c c1 ⟨c19,c20,c15,c16⟩ hg
end
end
section
variable {D:Nat→Prop}
theorem EdR.reg {D':Nat→Prop}{w w':World}{E X G R g:Nat}{e:EdS}{v:EdL}(h:EdR D w E X G R g e v)(k:Kp w w')(hF:∀q,q<w.heap.size→¬Ew D E X G R q→¬Ew D' E X G R q)(hd:∀q,D' q→q<w'.heap.size):EdR D' w' E X G R g e v:=by
 have a:∀q,q<w.heap.size→¬Ew D E X G R q→(¬Ew D E X G R q∧q<w.heap.size):=fun q hl hn=>⟨hn,hl⟩
 have b:∀q,q<w'.heap.size→(¬Ew D E X G R q∧q<w.heap.size)→¬Ew D' E X G R q:=fun q _ hq=>hF q hq.2 hq.1
 exact⟨((h.tx.weak a).kp k).weak b,h.off,((h.ring.weak a a).kp k).weak b b,((h.undo.weak a).kp k).weak b,((h.past.weak a a).kp k).weak b b,Sl.weak (Sl.kp (Sl.weak h.stash a) k) b,Sl.weak (Sl.kp (Sl.weak h.pat a) k) b,((h.lines.weak a a).kp k).weak b b,h.lnil,hd⟩
theorem EdAt.more {w w':World}{E X G R g Q:Nat}{e:EdS}{v:EdL}(h:EdAt D w E X G R g e v)(k:Kp w w')(h1:w.heap.size≤Q)(h2:Q<w'.heap.size):EdAt (fun q=>D q∨q=Q) w' E X G R g e v:=by
 refine⟨h.1.kp k,h.2.reg k (fun q hq hn=>?_) fun q hq=>?_⟩
 ·rintro((rfl|hd|rfl)|hx)
  ·exact hn (.inl (.inl rfl))
  ·exact hn (.inl (.inr hd))
  ·omega
  ·exact hn (.inr hx)
 ·rcases hq with hq|rfl
  ·exact Nat.lt_of_lt_of_le (h.2.dlt q hq) k.size
  ·exact h2
theorem EdAt.fewer {D':Nat→Prop}{w:World}{E X G R g:Nat}{e:EdS}{v:EdL}(h:EdAt D' w E X G R g e v)(hD:∀q,D q→D' q):EdAt D w E X G R g e v:=by
 refine⟨h.1,h.2.reg (Kp.refl _) (fun q _ hn=>?_) fun q hq=>h.2.dlt q (hD q hq)⟩;rintro((rfl|hd)|hx)
 ·exact hn (.inl (.inl rfl))
 ·exact hn (.inl (.inr (hD _ hd)))
 ·exact hn (.inr hx)
theorem EdAt.far {w:World}{E X G R g Q:Nat}{e:EdS}{v:EdL}(h:EdAt D w E X G R g e v)(hD:D Q)(hQ:¬Eb E X G R Q)(i:Nat)(u:Value):EdAt D (w.setCell ⟨Q,i,none⟩ u) E X G R g e v:=by
 have hF:¬(fun k=>¬Ew D E X G R k) (Addr.mk Q i none).block:=fun hn=>hn (.inl (.inr hD))
 exact⟨h.1.far (p:=⟨Q,i,none⟩) (fun hh=>hQ (.inl hh.symm)) u,⟨h.2.tx.far hF (fun hx=>hQ (.inr hx)) u,h.2.off,h.2.ring.setCell hF hF u,h.2.undo.setCell hF u,h.2.past.setCell hF hF u,Sl.setCell h.2.stash hF u,Sl.setCell h.2.pat hF u,h.2.lines.setCell hF hF u,h.2.lnil,
  by simpa[World.setCell]using h.2.dlt⟩⟩
theorem EdN.offb {w w':World}{E X G R X' G' R':Nat}(h:EdN E X G R X' G' R' w w')(k:Nat)(hk:k<w.heap.size)(hn:¬Eb E X G R k):¬Eb E X' G' R' k:=by
 intro hE;rcases h.eb k hE with h|h
 ·exact hn h
 ·omega
theorem EdN.bxb {w w':World}{E X G R X' G' R' b:Nat}{cs:Array Value}{t:TypeId}(h:EdN E X G R X' G' R' w w')(hs:Bx w b cs t∧¬Eb E X G R b):Bx w' b cs t∧¬Eb E X' G' R' b:=⟨h.mu.bx hs.1 hs.2,h.offb b hs.1.lt hs.2⟩
theorem EdAt.effect {w:World}{E X G R g:Nat}{e:EdS}{v:EdL}(h:EdAt D w E X G R g e v):
 EdAt D (((w.setCell ⟨E,27,none⟩ (.bool false)).setCell ⟨E,28,none⟩ (.bool false)).setCell ⟨E,29,none⟩ (.slice none 0 0)) E X G R g {e with bell:=false,redraw:=false,lines:=[]} {v with lA:=none,ln:=0,lc:=0}:=by
 have k:=((h.2.set 27 (.bool false)).set 28 (.bool false)).set 29 (.slice none 0 0);exact⟨((h.1.put 27 _).put 28 _).put 29 _,⟨k.tx,k.off,k.ring,k.undo,k.past,k.stash,k.pat,Txs.nil _ _ _,fun _=>⟨rfl,rfl,rfl⟩,k.dlt⟩⟩
theorem EdOk.effect {j:Nat}{e:EdS}(h:EdOk j e):EdOk j {e with bell:=false,redraw:=false,lines:=[]}:=
 ⟨h.jb,h.c1,h.m1,h.rlen,h.rtx,h.rat0,h.rat1,h.ulen,h.ues,h.pat0,h.pat1,h.plen,h.ptx,h.stash,h.ska,h.skh,h.skp,h.n0,h.run,by simp⟩
theorem seek_lines (T:TM)(e:EdS)(k:KeyV):(e.seek T k).1.lines=e.lines:=by
 have hv:∀(e:EdS) (i c:Int),(e.visit T i c).1.lines=e.lines:=by
  intro e i c;unfold EdS.visit
  split
  ·rfl
  ·rename_i s _
   obtain⟨t,mk,us,cu,bl,hf⟩:=yX T e 0 e.tx.l.length s false;dsimp only
   split
   ·rw[hf]
   ·rw[hf]
 unfold EdS.seek;dsimp only
 repeat' split
 all_goals first
  |rfl
  |(rw[hv])
def RetKey (D:Nat→Prop)(j:Nat)(E X G R g:Nat)(p:EdS)(w:World)(en:Ending)(w':World):Prop:=
 ∃X' G' R' v',en=.returned (.agg #[.bool p.bell,.bool p.redraw,.slice v'.lA v'.ln v'.lc])∧EdAt D w' E X' G' R' g p v'∧EdN E X G R X' G' R' w w'∧EdOk j p
structure KyEnd (D:Nat→Prop)(E X G R g Q:Nat)(w wz:World)(X' G' R':Nat)(v':EdL)(p:EdS)(a b c:Value):Prop where
 ed:EdAt (fun q=>D q∨q=Q) wz E X' G' R' g p v'
 nx:EdN E X G R X' G' R' w wz
 bx:Bx wz Q #[a,b,c] 39
 off:¬Eb E X' G' R' Q
 new:w.heap.size≤Q
theorem KyEnd.fin {E X G R g Q:Nat}{w wz:World}{X' G' R':Nat}{v':EdL}{p:EdS}{a b c:Value}(h:KyEnd D E X G R g Q w wz X' G' R' v' p a b c)(x y z:Value):
 EdAt D (((wz.setCell ⟨Q,0,none⟩ x).setCell ⟨Q,1,none⟩ y).setCell ⟨Q,2,none⟩ z) E X' G' R' g p v'∧EdN E X G R X' G' R' w (((wz.setCell ⟨Q,0,none⟩ x).setCell ⟨Q,1,none⟩ y).setCell ⟨Q,2,none⟩ z)∧
 Bx (((wz.setCell ⟨Q,0,none⟩ x).setCell ⟨Q,1,none⟩ y).setCell ⟨Q,2,none⟩ z) Q #[x,y,z] 39:=by
 refine⟨(((h.ed.far (.inr rfl) h.off 0 x).far (.inr rfl) h.off 1 y).far (.inr rfl) h.off 2 z).fewer fun q hq=>.inl hq,?_,h.bx.set3 _ _ _⟩;have m1:=Mu.setCell (S:=Eb E X G R) (p:=⟨Q,0,none⟩) (w:=w) (w':=w) (Mu.refl w);refine⟨h.nx.x,h.nx.g,h.nx.r,?_⟩;have key:∀(wy:World) (i:Nat) (u:Value),Mu (Eb E X G R) w wy→Mu (Eb E X G R) w (wy.setCell ⟨Q,i,none⟩ u):=fun wy i u hm=>
  ⟨hm.os,hm.tape,hm.output,by simpa[World.setCell]using hm.size,fun q hq hS=>(Below.heap_setCell wy ⟨Q,i,none⟩ u q (by have:=h.new;simp;omega)).trans (hm.block q hq hS)⟩
 exact key _ 2 z (key _ 1 y (key _ 0 x h.nx.mu))
structure KyMid (D:Nat→Prop)(E X G R g P Q:Nat)(k:KeyV)(KA:Option Addr)(kn kc j:Nat)(w wx:World)(X' G' R':Nat)(v':EdL)(p:EdS):Prop where
 ed:EdAt (fun q=>D q∨q=Q) wx E X' G' R' g p v'
 nx:EdN E X G R X' G' R' w wx
 bq:Bx wx Q #[.bool false,.bool false,.slice none 0 0] 39∧¬Eb E X' G' R' Q
 bp:Bx wx P #[.int .i64 k.kind,.int .i32 k.rune,.bool k.meta_,.slice KA kn kc] 43∧¬Eb E X' G' R' P
 ru:Ru wx (fun q=>¬Ew (fun q=>D q∨q=Q) E X' G' R' q) KA kn kc k.text
 ok:EdOk j p
 ln:p.lines=[]
theorem KyMid.step {E X G R g P Q:Nat}{k:KeyV}{KA:Option Addr}{kn kc j j':Nat}{w wx wy:World}{X' G' R' X2 G2 R2:Nat}{v' v2:EdL}{p p2:EdS}(h:KyMid D E X G R g P Q k KA kn kc j w wx X' G' R' v' p)
 (n:EdN E X' G' R' X2 G2 R2 wx wy)(he:EdAt (fun q=>D q∨q=Q) wy E X2 G2 R2 g p2 v2)(ok:EdOk j' p2)(hl:p2.lines=[]):KyMid D E X G R g P Q k KA kn kc j' w wy X2 G2 R2 v2 p2:=
 ⟨he,h.nx.trans n,n.bxb h.bq,n.bxb h.bp,n.ru h.ru,ok,hl⟩
theorem KyMid.fin {E X G R g P Q:Nat}{k:KeyV}{KA:Option Addr}{kn kc j:Nat}{w wx wy:World}{X' G' R' X2 G2 R2:Nat}{v' v2:EdL}{p p2:EdS}(h:KyMid D E X G R g P Q k KA kn kc j w wx X' G' R' v' p)
 (n:EdN E X' G' R' X2 G2 R2 wx wy)(he:EdAt (fun q=>D q∨q=Q) wy E X2 G2 R2 g p2 v2)(hQ:w.heap.size≤Q):KyEnd D E X G R g Q w wy X2 G2 R2 v2 p2 (.bool false) (.bool false) (.slice none 0 0):=
 ⟨he,h.nx.trans n,(n.bxb h.bq).1,(n.bxb h.bq).2,hQ⟩
end
end Go.Proofs.YtociefdcccokjaaGreat

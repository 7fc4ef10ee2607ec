/-
  Lemmas for TopMacro. Conditions: each states its own.
-/
import Derived.Deep.MidRow
import Derived.Test.YtociefdcccokjaaGreatG42
set_option maxHeartbeats 12800000
set_option maxRecDepth 100000
namespace Go.Proofs.YtociefdcccokjaaGreat
open Go.RowKit Go.Lib
section
variable {D:Nat→Prop}
section
variable (E X G R g:Nat)(e:EdS)(v:EdL)(T:TM)(wT w:World)(h:EdAt D w E X G R g e v)(hT:TabN wT w g T (Eb E X G R))(j:Nat)(ok:EdOk j e)(hj:j+5≤1000)
 (k:KeyV)(KA:Option Addr)(kn kc:Nat)(hk:Ru w (fun q=>¬Ew D E X G R q) KA kn kc k.text)(hk32:R32ok k.text)(hk65:k.text.length≤65536)(hr:r32 k.rune)
include h hT ok hj hk hk32 hk65 hr
theorem key_any:Calls Tryz.prog 9 #[.pointer (some ⟨E,0,none⟩),.agg #[.int .i64 k.kind,.int .i32 k.rune,.bool k.meta_,.slice KA kn kc]] w (RetKey D (j+5) E X G R g (e.key T k) w):=by
 obtain⟨ef,hef⟩:∃x,x=e.key T k:=⟨_,rfl⟩;rw[←hef];obtain⟨e0,he0⟩:∃x,x=({e with bell:=false,redraw:=false,lines:=[]}:EdS):=⟨_,rfl⟩;obtain⟨HEF,HE0,H,HT,HOK,HJ,HK32,HK65,HR32⟩:=hid9 (show ef=EdS.key1 T e0 k by rw[hef,he0];rfl) he0 h hT ok hj hk32 hk65 hr;have HKT:=hid hk;clear h hT ok hj hk hk32 hk65 hr hef he0;go_enter Tryz.func9,Tryz.ntmps9;go_upto_region 1 with fail;have k1:=((Kp.refl w).alloc (.cells #[.int .i64 k.kind,.int .i32 k.rune,.bool k.meta_,.slice KA kn kc] 43)).alloc (.cells #[.bool false,.bool false,.slice none 0 0] 39);have bk:=(Bx.new w #[.int .i64 k.kind,.int .i32 k.rune,.bool k.meta_,.slice KA kn kc] 43).alloc (.cells #[.bool false,.bool false,.slice none 0 0] 39);have bq:=Bx.new (w.alloc (.cells #[.int .i64 k.kind,.int .i32 k.rune,.bool k.meta_,.slice KA kn kc] 43)) #[.bool false,.bool false,.slice none 0 0] 39;obtain⟨P,hP⟩:∃P,P=w.heap.size:=⟨_,rfl⟩;obtain⟨Q,hQ⟩:∃Q,Q=w.heap.size+1:=⟨_,rfl⟩;have hs1:(w.alloc (.cells #[.int .i64 k.kind,.int .i32 k.rune,.bool k.meta_,.slice KA kn kc] 43)).heap.size=w.heap.size+1:=by simp
 rw[hs1,←hQ]at bq;rw[←hQ,←hP];rw[←hP]at bk;have HQW:=hid (show w.heap.size≤Q by omega);have hPE:¬Eb E X G R P:=fun hh=>H.out.new_off P (by omega) hh.ew
 have hQE:¬Eb E X G R Q:=fun hh=>H.out.new_off Q (by omega) hh.ew
 obtain⟨HPE,HQE⟩:=hid2 hPE hQE;have hE0:=H.out.1.lt;obtain⟨HNE,K1,HB1,HQ1⟩:=hid4 (show E≠Q by omega) k1 bk bq;clear hs1 hPE hQE hE0 k1 bk bq hQ hP;generalize((w.alloc (.cells #[.int .i64 k.kind,.int .i32 k.rune,.bool k.meta_,.slice KA kn kc] 43)).alloc (.cells #[.bool false,.bool false,.slice none 0 0] 39))=w1 at *;have H1:=hid (H.out.more K1.out HQW.out HQ1.out.lt);obtain⟨p27,f27⟩:=H1.out.c 27 rfl;obtain⟨p28,f28⟩:=H1.out.c 28 rfl;obtain⟨p29,f29⟩:=H1.out.c 29 rfl;have hE:=H1.out.1.lt;have HKR:=hid (Sl.weak (Sl.kp (Sl.weak HKT.out (G:=fun q=>¬Ew D E X G R q∧q<w.heap.size) (fun q hl hq=>⟨hq,hl⟩)) K1.out) (G:=fun q=>¬Ew (fun q=>D q∨q=Q) E X G R q) (fun q _ hq=>by
  rintro((rfl|hd|rfl)|hx)
  ·exact hq.1 (.inl (.inl rfl))
  ·exact hq.1 (.inl (.inr hd))
  ·have:=HQW.out;omega
  ·exact hq.1 (.inr hx)))
 have n2:=((((EdN.refl (E:=E) (X:=X) (G:=G) (R:=R) (Kp.refl w1)).set 27 (.bool false)).set 28 (.bool false)).set 29 (.slice none 0 0));have M1:KyMid D E X G R g P Q k KA kn kc j w w1 X G R v e→False∨True:=fun _=>.inr trivial
 have h2:=H1.out.effect;have N1:EdN E X G R X G R w w1:=.refl K1.out;have HM2:=hid (show KyMid D E X G R g P Q k KA kn kc j w (((w1.setCell ⟨E,27,none⟩ (.bool false)).setCell ⟨E,28,none⟩ (.bool false)).setCell ⟨E,29,none⟩ (.slice none 0 0)) X G R {v with lA:=none,ln:=0,lc:=0} e0 from
  ⟨by rw[HE0.out];exact h2,N1.trans n2,n2.bxb ⟨HQ1.out,HQE.out⟩,n2.bxb ⟨HB1.out,HPE.out⟩,n2.ru HKR.out,by rw[HE0.out];exact HOK.out.effect,by rw[HE0.out]⟩)
 clear M1 n2 h2 N1;go_upto_region 4 with fail;clear p27 f27 p28 f28 p29 f29 hE H1 K1 HB1 HQ1 HKR HPE HQE HKT H HOK HE0;generalize(((w1.setCell ⟨E,27,none⟩ (.bool false)).setCell ⟨E,28,none⟩ (.bool false)).setCell ⟨E,29,none⟩ (.slice none 0 0))=w2 at *;obtain⟨v0,hv0⟩:∃x,x=({v with lA:=none,ln:=0,lc:=0}:EdL):=⟨_,rfl⟩;rw[←hv0]at HM2;clear hv0;have HT2:=hid (HM2.out.nx.tab HT.out);have p20:w2.cell? ⟨E,20,none⟩=some (.bool e0.quote):=(HM2.out.ed.c 20 rfl).1;have p18:w2.cell? ⟨E,18,none⟩=some (.bool e0.seeks):=(HM2.out.ed.c 18 rfl).1;obtain⟨pa,pb,pc,pd,_,_,_,_⟩:=HM2.out.bp.1.four;cases hq:e0.quote with
 |true=>
  rw[hq]at p20;obtain⟨HE2,HQU⟩:=hid2 (show ef=e0.quoted T k by rw[HEF.out];unfold EdS.key1;rw[if_pos hq]) (quoted_any E X G R g e0 v0 T wT w2 HM2.out.ed HT2.out j HM2.out.ok (by have:=HJ.out;omega) k KA kn kc HR32.out);rw[←HE2.out]at HQU;clear hq p18;go_wp2_with fail;refine HQU.out.mono ?_;rintro en w3 ⟨rfl,X3,G3,R3,v3,h3,n3,ok3⟩;obtain⟨HZ,HOZ⟩:=hid2 (HM2.out.fin n3 h3 HQW.out) (show EdOk (j+5) ef from ok3.up (by omega) HJ.out);have t27:w3.cell? ⟨E,27,none⟩=some (.bool ef.bell):=(HZ.out.ed.c 27 rfl).1;have t28:w3.cell? ⟨E,28,none⟩=some (.bool ef.redraw):=(HZ.out.ed.c 28 rfl).1;have t29:w3.cell? ⟨E,29,none⟩=some (.slice v3.lA v3.ln v3.lc):=(HZ.out.ed.c 29 rfl).1;obtain⟨z0,z1,z2,z3,z4,z5⟩:=HZ.out.bx.three;have zl:=HZ.out.bx.lt;clear p20 pa pb pc pd;go_wp2_with fail;have hf:=hid (HZ.out.fin (.bool ef.bell) (.bool ef.redraw) (.slice v3.lA v3.ln v3.lc));clear t27 t28 t29 z0 z1 z2 z3 z4 z5 zl HZ;generalize(((w3.setCell ⟨Q,0,none⟩ (.bool ef.bell)).setCell ⟨Q,1,none⟩ (.bool ef.redraw)).setCell ⟨Q,2,none⟩ (.slice v3.lA v3.ln v3.lc))=w9 at *;obtain⟨y0,y1,y2,_,_,_⟩:=hf.out.2.2.three;refine bodyPost_ret (v:=.agg #[.bool ef.bell,.bool ef.redraw,.slice v3.lA v3.ln v3.lc]) (by simp[results,Tryz.results9,go_sem,y0,y1,y2]) rfl ?_;exact⟨X3,G3,R3,v3,rfl,hf.out.1,hf.out.2.1,HOZ.out⟩
 |false=>
  rw[hq]at p20;have HE2:=hid (show ef=if e0.seeks=true then(if(e0.seek T k).2=true then(e0.seek T k).1 else(e0.seek T k).1.key2 T k)else e0.key2 T k by rw[HEF.out];unfold EdS.key1;rw[if_neg (by rw[hq];simp)]);clear hq HEF;go_upto_region 7 with fail;go_cut [35] (fun x wx=>∃b X3 G3 R3 v3 e3,x=.bool b∧Hid (KyMid D E X G R g P Q k KA kn kc (j+1) w wx X3 G3 R3 v3 e3)∧Hid (ef=if b=true then e3 else e3.key2 T k))
  case first=>
   cases hs:e0.seeks with
   |false=>
    rw[hs]at p18;have HE3:=hid (show ef=e0.key2 T k by rw[HE2.out,if_neg (by rw[hs];simp)]);clear hs;go_wp2_with fail;go_meet;exact⟨false,X,G,R,v0,e0,rfl,HM2.out.step (.refl (Kp.refl _)) HM2.out.ed (HM2.out.ok.up (by omega) (by have:=HJ.out;omega)) HM2.out.ln,HE3.out⟩
   |true=>
    rw[hs]at p18;obtain⟨b3,hb3⟩:∃x,x=(e0.seek T k).2:=⟨_,rfl⟩;obtain⟨HE3,HSK⟩:=hid2 (show ef=if b3=true then(e0.seek T k).1 else(e0.seek T k).1.key2 T k by rw[HE2.out,if_pos hs,hb3]) (seeks_any E X G R g e0 v0 T wT w2 HM2.out.ed HT2.out j HM2.out.ok (by have:=HJ.out;omega) k KA kn kc HR32.out);rw[←hb3]at HSK;clear hs hb3;go_wp2_with fail;refine HSK.out.mono ?_;rintro en w3 ⟨rfl,X3,G3,R3,v3,h3,n3,ok3⟩;clear pa pb pc pd p18 p20;go_wp2_with fail;go_meet;exact⟨b3,X3,G3,R3,v3,(e0.seek T k).1,rfl,HM2.out.step n3 h3 ok3 (by rw[seek_lines];exact HM2.out.ln),HE3.out⟩
  case rest=>
  obtain⟨b,X3,G3,R3,v3,e3,rfl,hm3,he3⟩:=hcut;clear pa pb pc pd p18 p20 HE2;cases b with
  |true=>
   have HE4:=hid (show ef=e3 from he3.out);have hme:=hm3.out.ed;rw[←HE4.out]at hme;have hmo:=hm3.out.ok;rw[←HE4.out]at hmo;obtain⟨HZ,HOZ⟩:=hid2 (hm3.out.fin (.refl (Kp.refl _)) hme HQW.out) (show EdOk (j+5) ef from hmo.up (by omega) HJ.out);have t27:wc.cell? ⟨E,27,none⟩=some (.bool ef.bell):=(HZ.out.ed.c 27 rfl).1;have t28:wc.cell? ⟨E,28,none⟩=some (.bool ef.redraw):=(HZ.out.ed.c 28 rfl).1;have t29:wc.cell? ⟨E,29,none⟩=some (.slice v3.lA v3.ln v3.lc):=(HZ.out.ed.c 29 rfl).1;obtain⟨z0,z1,z2,z3,z4,z5⟩:=HZ.out.bx.three;have zl:=HZ.out.bx.lt;clear hme hmo;go_wp2_with fail;have hf:=hid (HZ.out.fin (.bool ef.bell) (.bool ef.redraw) (.slice v3.lA v3.ln v3.lc));clear t27 t28 t29 z0 z1 z2 z3 z4 z5 zl HZ;generalize(((wc.setCell ⟨Q,0,none⟩ (.bool ef.bell)).setCell ⟨Q,1,none⟩ (.bool ef.redraw)).setCell ⟨Q,2,none⟩ (.slice v3.lA v3.ln v3.lc))=w9 at *;obtain⟨y0,y1,y2,_,_,_⟩:=hf.out.2.2.three;refine bodyPost_ret (v:=.agg #[.bool ef.bell,.bool ef.redraw,.slice v3.lA v3.ln v3.lc]) (by simp[results,Tryz.results9,go_sem,y0,y1,y2]) rfl ?_;exact⟨X3,G3,R3,v3,rfl,hf.out.1,hf.out.2.1,HOZ.out⟩
  |false=>
   obtain⟨HE4,HT3⟩:=hid2 (show ef=e3.key2 T k from he3.out) (hm3.out.nx.tab HT.out);clear he3 HM2 HT2;obtain⟨c,hc⟩:∃x,x=cmdK e3.px k:=⟨_,rfl⟩;obtain⟨HE5,HOF,HLK⟩:=hid3 (show ef=EdS.key3 T {e3 with px:=false} c k by rw[HE4.out,hc];rfl) (fun(wx:World)=>of_u e3.px k KA kn kc wx) (fun(wx:World)=>vL (zI e3.px k).px (zI e3.px k).m (zI e3.px k).k (zI e3.px k).r wx);rw[cmdK_eq,←hc]at HLK;obtain⟨spx,h1⟩:∃x,x=(zI e3.px k).px:=⟨_,rfl⟩;obtain⟨skk,h2⟩:∃x,x=(zI e3.px k).k:=⟨_,rfl⟩;obtain⟨skr,h3⟩:∃x,x=(zI e3.px k).r:=⟨_,rfl⟩;obtain⟨skm,h4⟩:∃x,x=(zI e3.px k).m:=⟨_,rfl⟩;rw[←h1,←h2,←h3,←h4]at HOF HLK;obtain⟨px,hpx⟩:∃x,x=e3.px:=⟨_,rfl⟩;rw[←hpx]at HOF;have HPX:=hid hpx;clear hc h1 h2 h3 h4 hpx HE4;have p1:wc.cell? ⟨E,1,none⟩=some (.map none):=(hm3.out.ed.c 1 rfl).1;have p19:wc.cell? ⟨E,19,none⟩=some (.bool px):=by rw[HPX.out];exact(hm3.out.ed.c 19 rfl).1
   obtain⟨pa,pb,pc,pd,_,_,_,_⟩:=hm3.out.bp.1.four;go_upto_region 9 with fail;go_region_held3 (fun w'=>w'.cell? ⟨E,1,none⟩=some (.map none)∧w'.cell? ⟨E,19,none⟩=some (.bool px)∧w'.cell? ⟨P,0,none⟩=some (.int .i64 k.kind)∧w'.cell? ⟨P,1,none⟩=some (.int .i32 k.rune)∧w'.cell? ⟨P,2,none⟩=some (.bool k.meta_)∧w'.cell? ⟨P,3,none⟩=some (.slice KA kn kc))
    (first|(with_reducible exact⟨p1,p19,pa,pb,pc,pd⟩)|(with_reducible exact⟨q1,q19,qa,qb,qc,qd⟩)|(with_reducible exact⟨r1,r19,ra,rb,rc,rd⟩)|go_keep)
    (first|(go_at_call 37;refine(HOF.out _).mono ?_;rintro en w5 ⟨rfl,k5⟩;have K5:=hid ((Kp.refl wc).drew.trans k5);have H5:=hid (hm3.out.ed.kp K5.out);have HB5:=hid (hm3.out.bp.1.kp K5.out);have q1:w5.cell? ⟨E,1,none⟩=some (.map none):=(H5.out.c 1 rfl).1;have q19:w5.cell? ⟨E,19,none⟩=some (.bool px):=(by rw[HPX.out];exact(H5.out.c 19 rfl).1);obtain⟨qa,qb,qc,qd,_,_,_,_⟩:=HB5.out.four)|(go_at_call 36;refine(HLK.out _).mono ?_;rintro en w6 ⟨rfl,k6⟩;have K6:=hid (K5.out.trans k6);have H6:=hid (hm3.out.ed.kp K6.out);have HB6:=hid (hm3.out.bp.1.kp K6.out);have r1:w6.cell? ⟨E,1,none⟩=some (.map none):=(H6.out.c 1 rfl).1;have r19:w6.cell? ⟨E,19,none⟩=some (.bool px):=(by rw[HPX.out];exact(H6.out.c 19 rfl).1);obtain⟨ra,rb,rc,rd,_,_,_,_⟩:=HB6.out.four))
   obtain⟨s19,f19⟩:=H6.out.c 19 rfl;have hE:=H6.out.1.lt;have M7:=hid (hm3.out.step ((EdN.refl (E:=E) (X:=X3) (G:=G3) (R:=R3) K6.out).set 19 (.bool false)) (H6.out.set (e':={e3 with px:=false}) 19 (.bool false) rfl rfl rfl rfl rfl rfl rfl rfl) (hm3.out.ok.same (e':={e3 with px:=false}) rfl rfl rfl rfl rfl rfl rfl rfl rfl rfl rfl rfl) hm3.out.ln);go_upto_region 11 with fail;clear p1 p19 pa pb pc pd q1 q19 qa qb qc qd r1 r19 ra rb rc rd s19 f19 hE HOF HLK H5 HB5 H6 HB6 K5 K6 HPX HT3 hm3;generalize(w6.setCell ⟨E,19,none⟩ (.bool false))=w7 at *;obtain⟨e4,he4⟩:∃x,x=({e3 with px:=false}:EdS):=⟨_,rfl⟩;rw[←he4]at M7 HE5;clear he4;have HT7:=hid (M7.out.nx.tab HT.out);by_cases c33:c=33
   ·subst c33
    obtain⟨s19,f19⟩:=M7.out.ed.c 19 rfl;have hE:=M7.out.ed.1.lt;have h8:=M7.out.ed.set (e':={e4 with px:=true}) 19 (.bool true) rfl rfl rfl rfl rfl rfl rfl rfl;have HEZ:=hid (show ef={e4 with px:=true}from HE5.out);have o8:=M7.out.ok.same (e':={e4 with px:=true}) rfl rfl rfl rfl rfl rfl rfl rfl rfl rfl rfl rfl;rw[←HEZ.out]at h8 o8;obtain⟨H8,O8,N8⟩:=hid3 h8 o8 ((EdN.refl (E:=E) (X:=X3) (G:=G3) (R:=R3) (Kp.refl w7)).set 19 (.bool true));clear h8 o8;go_upto_region 14 with fail;clear s19 f19 hE;have KZ:=hid (M7.out.fin N8.out H8.out HQW.out);clear N8 H8;generalize(w7.setCell ⟨E,19,none⟩ (.bool true))=w8 at *;obtain⟨HZ,HOZ⟩:=hid2 (KZ.out) (show EdOk (j+5) ef from O8.out.up (by omega) HJ.out);have t27:w8.cell? ⟨E,27,none⟩=some (.bool ef.bell):=(HZ.out.ed.c 27 rfl).1;have t28:w8.cell? ⟨E,28,none⟩=some (.bool ef.redraw):=(HZ.out.ed.c 28 rfl).1;have t29:w8.cell? ⟨E,29,none⟩=some (.slice v3.lA v3.ln v3.lc):=(HZ.out.ed.c 29 rfl).1;obtain⟨z0,z1,z2,z3,z4,z5⟩:=HZ.out.bx.three;have zl:=HZ.out.bx.lt;go_wp2_with fail;have hf:=hid (HZ.out.fin (.bool ef.bell) (.bool ef.redraw) (.slice v3.lA v3.ln v3.lc));clear t27 t28 t29 z0 z1 z2 z3 z4 z5 zl HZ;generalize(((w8.setCell ⟨Q,0,none⟩ (.bool ef.bell)).setCell ⟨Q,1,none⟩ (.bool ef.redraw)).setCell ⟨Q,2,none⟩ (.slice v3.lA v3.ln v3.lc))=w9 at *;obtain⟨y0,y1,y2,_,_,_⟩:=hf.out.2.2.three;refine bodyPost_ret (v:=.agg #[.bool ef.bell,.bool ef.redraw,.slice v3.lA v3.ln v3.lc]) (by simp[results,Tryz.results9,go_sem,y0,y1,y2]) rfl ?_;exact⟨X3,G3,R3,v3,rfl,hf.out.1,hf.out.2.1,HOZ.out⟩
   ·have g33:(c==33)=false:=by simpa using c33
    by_cases c29:c=29
    ·subst c29
     have HDG:=hid (digit_any E X3 G3 R3 g e4 v3 w7 M7.out.ed (j+1) M7.out.ok k.rune HR32.out);rw[show e4.digit k.rune=ef from HE5.out.symm]at HDG;obtain⟨pa,pb,pc,pd,_,_,_,_⟩:=M7.out.bp.1.four;clear c33;go_upto_region 17 with(go_at_call 38;refine HDG.out.mono ?_;rintro en w8 ⟨rfl,X8,G8,R8,v8,h8,n8,ok8⟩);clear pa pb pc pd;obtain⟨HZ,HOZ⟩:=hid2 (M7.out.fin n8 h8 HQW.out) (show EdOk (j+5) ef from ok8.up (by omega) HJ.out);have t27:w8.cell? ⟨E,27,none⟩=some (.bool ef.bell):=(HZ.out.ed.c 27 rfl).1;have t28:w8.cell? ⟨E,28,none⟩=some (.bool ef.redraw):=(HZ.out.ed.c 28 rfl).1;have t29:w8.cell? ⟨E,29,none⟩=some (.slice v8.lA v8.ln v8.lc):=(HZ.out.ed.c 29 rfl).1;obtain⟨z0,z1,z2,z3,z4,z5⟩:=HZ.out.bx.three;have zl:=HZ.out.bx.lt;go_wp2_with fail;have hf:=hid (HZ.out.fin (.bool ef.bell) (.bool ef.redraw) (.slice v8.lA v8.ln v8.lc));clear t27 t28 t29 z0 z1 z2 z3 z4 z5 zl HZ;generalize(((w8.setCell ⟨Q,0,none⟩ (.bool ef.bell)).setCell ⟨Q,1,none⟩ (.bool ef.redraw)).setCell ⟨Q,2,none⟩ (.slice v8.lA v8.ln v8.lc))=w9 at *;obtain⟨y0,y1,y2,_,_,_⟩:=hf.out.2.2.three;refine bodyPost_ret (v:=.agg #[.bool ef.bell,.bool ef.redraw,.slice v8.lA v8.ln v8.lc]) (by simp[results,Tryz.results9,go_sem,y0,y1,y2]) rfl ?_;exact⟨X8,G8,R8,v8,rfl,hf.out.1,hf.out.2.1,HOZ.out⟩
    ·have g29:(c==29)=false:=by simpa using c29
     by_cases c30:c=30
     ·subst c30
      obtain⟨mi,hmi⟩:∃x,x=e4.cnt.minus:=⟨_,rfl⟩;obtain⟨di,hdi⟩:∃x,x=e4.cnt.digits:=⟨_,rfl⟩;obtain⟨cn,hcn⟩:∃x,x=e4.cnt.n:=⟨_,rfl⟩;obtain⟨s21,f21⟩:=M7.out.ed.c 21 rfl;obtain⟨s22,f22⟩:w7.cell? ⟨E,22,none⟩=some (.bool mi)∧w7.frozen? ⟨E,22,none⟩=false:=by rw[hmi];exact M7.out.ed.c 22 rfl
      obtain⟨s23,f23⟩:w7.cell? ⟨E,23,none⟩=some (.bool di)∧w7.frozen? ⟨E,23,none⟩=false:=by rw[hdi];exact M7.out.ed.c 23 rfl
      obtain⟨s24,f24⟩:w7.cell? ⟨E,24,none⟩=some (.int .i64 cn)∧w7.frozen? ⟨E,24,none⟩=false:=by rw[hcn];exact M7.out.ed.c 24 rfl
      have hE:=M7.out.ed.1.lt;have HEZ:=hid (show ef={e4 with cnt:=⟨true,!mi,di,cn⟩} by rw[HE5.out,hmi,hdi,hcn];rfl);have h8:=(M7.out.ed.count ⟨true,!mi,di,cn⟩).kp (Kp.refl _).drew;have o8:=M7.out.ok.count ⟨true,!mi,di,cn⟩ (by dsimp only;rw[hcn];exact M7.out.ok.n0);rw[←HEZ.out]at h8 o8;obtain⟨H8,O8,N8⟩:=hid3 h8 o8 (((EdN.refl (E:=E) (X:=X3) (G:=G3) (R:=R3) (Kp.refl w7)).set4 (.bool true) (.bool !mi) (.bool di) (.int .i64 cn)).then_kp (Kp.refl _).drew);clear h8 o8 hmi hdi hcn c33 c29;go_upto_region 19 with fail;go_still_tail 24,(by kernel_rfl);change wpList _ _ _ _ _ w7.drew;go_upto_region 20 with fail;clear s21 f21 s22 f22 s23 f23 s24 f24 hE;have KZ:=hid (M7.out.fin N8.out H8.out HQW.out);clear N8 H8;generalize((((w7.setCell ⟨E,21,none⟩ (.bool true)).setCell ⟨E,22,none⟩ (.bool !mi)).setCell ⟨E,23,none⟩ (.bool di)).setCell ⟨E,24,none⟩ (.int .i64 cn)).drew=w8 at *;obtain⟨HZ,HOZ⟩:=hid2 (KZ.out) (show EdOk (j+5) ef from O8.out.up (by omega) HJ.out);have t27:w8.cell? ⟨E,27,none⟩=some (.bool ef.bell):=(HZ.out.ed.c 27 rfl).1;have t28:w8.cell? ⟨E,28,none⟩=some (.bool ef.redraw):=(HZ.out.ed.c 28 rfl).1;have t29:w8.cell? ⟨E,29,none⟩=some (.slice v3.lA v3.ln v3.lc):=(HZ.out.ed.c 29 rfl).1;obtain⟨z0,z1,z2,z3,z4,z5⟩:=HZ.out.bx.three;have zl:=HZ.out.bx.lt;go_wp2_with fail;have hf:=hid (HZ.out.fin (.bool ef.bell) (.bool ef.redraw) (.slice v3.lA v3.ln v3.lc));clear t27 t28 t29 z0 z1 z2 z3 z4 z5 zl HZ;generalize(((w8.setCell ⟨Q,0,none⟩ (.bool ef.bell)).setCell ⟨Q,1,none⟩ (.bool ef.redraw)).setCell ⟨Q,2,none⟩ (.slice v3.lA v3.ln v3.lc))=w9 at *;obtain⟨y0,y1,y2,_,_,_⟩:=hf.out.2.2.three;refine bodyPost_ret (v:=.agg #[.bool ef.bell,.bool ef.redraw,.slice v3.lA v3.ln v3.lc]) (by simp[results,Tryz.results9,go_sem,y0,y1,y2]) rfl ?_;exact⟨X3,G3,R3,v3,rfl,hf.out.1,hf.out.2.1,HOZ.out⟩
     ·have g30:(c==30)=false:=by simpa using c30
      by_cases c28:c=28
      ·subst c28
       obtain⟨s20,f20⟩:=M7.out.ed.c 20 rfl;have hE:=M7.out.ed.1.lt;have h8:=M7.out.ed.set (e':={e4 with quote:=true}) 20 (.bool true) rfl rfl rfl rfl rfl rfl rfl rfl;have HEZ:=hid (show ef={e4 with quote:=true}from HE5.out);have o8:=M7.out.ok.same (e':={e4 with quote:=true}) rfl rfl rfl rfl rfl rfl rfl rfl rfl rfl rfl rfl;rw[←HEZ.out]at h8 o8;obtain⟨H8,O8,N8⟩:=hid3 h8 o8 ((EdN.refl (E:=E) (X:=X3) (G:=G3) (R:=R3) (Kp.refl w7)).set 20 (.bool true));clear h8 o8 c33 c29 c30;go_upto_region 23 with fail;clear s20 f20 hE;have KZ:=hid (M7.out.fin N8.out H8.out HQW.out);clear N8 H8;generalize(w7.setCell ⟨E,20,none⟩ (.bool true))=w8 at *;obtain⟨HZ,HOZ⟩:=hid2 (KZ.out) (show EdOk (j+5) ef from O8.out.up (by omega) HJ.out);have t27:w8.cell? ⟨E,27,none⟩=some (.bool ef.bell):=(HZ.out.ed.c 27 rfl).1;have t28:w8.cell? ⟨E,28,none⟩=some (.bool ef.redraw):=(HZ.out.ed.c 28 rfl).1;have t29:w8.cell? ⟨E,29,none⟩=some (.slice v3.lA v3.ln v3.lc):=(HZ.out.ed.c 29 rfl).1;obtain⟨z0,z1,z2,z3,z4,z5⟩:=HZ.out.bx.three;have zl:=HZ.out.bx.lt;go_wp2_with fail;have hf:=hid (HZ.out.fin (.bool ef.bell) (.bool ef.redraw) (.slice v3.lA v3.ln v3.lc));clear t27 t28 t29 z0 z1 z2 z3 z4 z5 zl HZ;generalize(((w8.setCell ⟨Q,0,none⟩ (.bool ef.bell)).setCell ⟨Q,1,none⟩ (.bool ef.redraw)).setCell ⟨Q,2,none⟩ (.slice v3.lA v3.ln v3.lc))=w9 at *;obtain⟨y0,y1,y2,_,_,_⟩:=hf.out.2.2.three;refine bodyPost_ret (v:=.agg #[.bool ef.bell,.bool ef.redraw,.slice v3.lA v3.ln v3.lc]) (by simp[results,Tryz.results9,go_sem,y0,y1,y2]) rfl ?_;exact⟨X3,G3,R3,v3,rfl,hf.out.1,hf.out.2.1,HOZ.out⟩
      ·have g28:(c==28)=false:=by simpa using c28
       obtain⟨ti,hti⟩:∃x,x=e4.cnt.times:=⟨_,rfl⟩;have htb: -9999≤ti∧ti≤9999:=by have:=M7.out.ok.n0;rw[hti];unfold Cn.times;split<;>split<;>omega
       have HTI:=hid (fun(wx:World)=>times_any e4.cnt wx (by have:=M7.out.ok.n0;omega));rw[←hti]at HTI;obtain⟨HEZ,HTB⟩:=hid2 (show ef=EdS.does T {e4 with cnt:=Cn.zero} c ti k by rw[HE5.out,hti];unfold EdS.key3;rw[if_neg c33,if_neg c29,if_neg c30,if_neg c28]) htb;have s21:w7.cell? ⟨E,21,none⟩=some (.bool e4.cnt.some_):=(M7.out.ed.c 21 rfl).1;have s22:w7.cell? ⟨E,22,none⟩=some (.bool e4.cnt.minus):=(M7.out.ed.c 22 rfl).1;have s23:w7.cell? ⟨E,23,none⟩=some (.bool e4.cnt.digits):=(M7.out.ed.c 23 rfl).1;have s24:w7.cell? ⟨E,24,none⟩=some (.int .i64 e4.cnt.n):=(M7.out.ed.c 24 rfl).1;clear hti htb c33 c29 c30 c28;go_upto_region 25 with(go_at_call 39;refine(HTI.out _).mono ?_;rintro en w8 ⟨rfl,k8⟩);obtain⟨H8,K8⟩:=hid2 (M7.out.ed.kp k8) k8;clear s21 s22 s23 s24 HTI k8;obtain⟨s21,f21⟩:=H8.out.c 21 rfl;obtain⟨s22,f22⟩:=H8.out.c 22 rfl;obtain⟨s23,f23⟩:=H8.out.c 23 rfl;obtain⟨s24,f24⟩:=H8.out.c 24 rfl;have hE:=H8.out.1.lt;have h9:=H8.out.count Cn.zero;unfold Cn.zero at h9;dsimp only at h9;have M9:=hid (M7.out.step ((EdN.refl (E:=E) (X:=X3) (G:=G3) (R:=R3) K8.out).set4 (.bool false) (.bool false) (.bool false) (.int .i64 0)) h9 (M7.out.ok.count ⟨false,false,false,0⟩ (by decide)) M7.out.ln);clear h9;go_upto_region 26 with fail;clear s21 f21 s22 f22 s23 f23 s24 f24 hE H8 K8 M7 HT7;generalize((((w8.setCell ⟨E,21,none⟩ (.bool false)).setCell ⟨E,22,none⟩ (.bool false)).setCell ⟨E,23,none⟩ (.bool false)).setCell ⟨E,24,none⟩ (.int .i64 0))=w9 at *;have HDO:=hid (does_any E X3 G3 R3 g {e4 with cnt:=⟨false,false,false,0⟩} v3 T wT w9 M9.out.ed (M9.out.nx.tab HT.out) (j+1) M9.out.ok (by have:=HJ.out;omega) ti HTB.out k KA kn kc M9.out.ru HK32.out HK65.out HR32.out M9.out.ln c);rw[show EdS.does T {e4 with cnt:=⟨false,false,false,0⟩} c ti k=ef from HEZ.out.symm]at HDO;obtain⟨pa,pb,pc,pd,_,_,_,_⟩:=M9.out.bp.1.four;go_upto_region 27 with(go_at_call 40;refine HDO.out.mono ?_;rintro en w10 ⟨rfl,X8,G8,R8,v8,h8,n8,ok8⟩);clear pa pb pc pd;obtain⟨HZ,HOZ⟩:=hid2 (M9.out.fin n8 h8 HQW.out) (show EdOk (j+5) ef from ok8.up (by omega) HJ.out);have t27:w10.cell? ⟨E,27,none⟩=some (.bool ef.bell):=(HZ.out.ed.c 27 rfl).1;have t28:w10.cell? ⟨E,28,none⟩=some (.bool ef.redraw):=(HZ.out.ed.c 28 rfl).1;have t29:w10.cell? ⟨E,29,none⟩=some (.slice v8.lA v8.ln v8.lc):=(HZ.out.ed.c 29 rfl).1;obtain⟨z0,z1,z2,z3,z4,z5⟩:=HZ.out.bx.three;have zl:=HZ.out.bx.lt;go_wp2_with fail;have hf:=hid (HZ.out.fin (.bool ef.bell) (.bool ef.redraw) (.slice v8.lA v8.ln v8.lc));clear t27 t28 t29 z0 z1 z2 z3 z4 z5 zl HZ;generalize(((w10.setCell ⟨Q,0,none⟩ (.bool ef.bell)).setCell ⟨Q,1,none⟩ (.bool ef.redraw)).setCell ⟨Q,2,none⟩ (.slice v8.lA v8.ln v8.lc))=w11 at *;obtain⟨y0,y1,y2,_,_,_⟩:=hf.out.2.2.three;refine bodyPost_ret (v:=.agg #[.bool ef.bell,.bool ef.redraw,.slice v8.lA v8.ln v8.lc]) (by simp[results,Tryz.results9,go_sem,y0,y1,y2]) rfl ?_;exact⟨X8,G8,R8,v8,rfl,hf.out.1,hf.out.2.1,HOZ.out⟩
end
end
section
variable {D:Nat→Prop}
theorem line_any (E X G R g:Nat)(e:EdS)(v:EdL)(w:World)(h:EdAt D w E X G R g e v):Calls Tryz.prog 15 #[.pointer (some ⟨E,0,none⟩)] w (RetRu e.tx.l w):=by
 have HRU:=hid (xG X G R g e.tx w (h.2.tx.tx fun k hk hx=>hk (.inr hx)));have p2:w.cell? ⟨E,2,none⟩=some (.pointer (some ⟨X,0,none⟩)):=(h.c 2 rfl).1;clear h;go_enter Tryz.func15,Tryz.ntmps15;go_wp2_with fail;refine HRU.out.mono ?_;rintro en w1 ⟨A,n,c,rfl,hr,k1⟩;go_wp2_with fail;go_ret;exact⟨A,n,c,rfl,hr,k1⟩
def nowV (e:EdS)(v:EdL)(A:Option Addr)(n c:Nat):Array Value:=
 #[.int .i64 e.cursor,.int .i64 e.mark,.slice v.rA v.rn v.rc,.int .i64 e.rat,.slice v.uA v.un v.uc,
  .slice v.pA v.pn v.pc,.int .i64 e.pat,.slice v.sA v.sn v.sc,.bool e.sk.back,.slice A n c,.int .i64 e.sk.at_,.int .i64 e.sk.place,.bool e.sk.failed,.int .i64 e.sk.homeAt,.int .i64 e.sk.homePlace,
  .bool e.seeks,.bool e.px,.bool e.quote,.bool e.cnt.some_,.bool e.cnt.minus,.bool e.cnt.digits,.int .i64 e.cnt.n,.int .i64 e.last,.int .i64 e.run]
theorem infoState:(Tryz.prog.info? 70).map (·.size)=some 24:=by kernel_rfl
theorem Bx.range {w:World}{b:Nat}{cs:Array Value}{t:TypeId}(h:Bx w b cs t)(o:Nat)(l:List Value)(hl:∀j u,l[j]? =some u→cs[o+j]? =some u):w.rangeAt b o l:=fun j u hu=>(h.cell (o+j)).trans (hl j u hu)
theorem Bx.there_ {w:World}{b:Nat}{cs:Array Value}{t:TypeId}(h:Bx w b cs t)(n:Nat)(hn:n≤cs.size):w.there b 0 n:=fun j hj=>by
 refine⟨?_,h.frozen _⟩;rw[h.cell];simp;omega
theorem Bx.row {w:World}{b:Nat}{cs:Array Value}{t:TypeId}(h:Bx w b cs t)(l:List Value)(hl:l.length=cs.size):Bx (w.setCells b 0 l) b l.toArray t∧(∀w0,Kp w0 w→w0.heap.size≤b→Kp w0 (w.setCells b 0 l))∧(w.setCells b 0 l).heap.size=w.heap.size∧∀q,q≠b→(w.setCells b 0 l).heap[q]? =w.heap[q]? :=by
 have e:w.setCells b 0 l=w.setRow b l.toArray:=by
  rw[zY _ _ _ _ h (by omega),List.take_zero,List.nil_append,List.drop_of_length_le (by rw[Array.length_toList];omega),List.append_nil]
 rw[e];exact⟨h.setRow _,fun w0 k hb=>k.setRow hb _,size_setRow _ _ _,fun q hq=>setRow_other _ _ _ _ hq⟩
theorem results_cell {P:Program}{fn:Func}{tmps:Array Value}{a:Tmp}{t:TypeId}{b o:Nat}{v:Value}{w:World}(hr:fn.results=#[.cell a t])(ha:tmps.getD a undef=.pointer (some ⟨b,o,none⟩))(hl:(loadVar t ⟨b,o,none⟩).run P w=.ok v w):
 (results fn tmps).run P w=.ok v w:=by
 have ha':tmps[a]?.getD undef=.pointer (some ⟨b,o,none⟩):=by rw[←ha];simp
 unfold results;rw[hr];simp[asAddr,ha',hl]
def stL (e:EdS)(v:EdL):List Value:=[.int .i64 e.cursor,.int .i64 e.mark,.slice v.rA v.rn v.rc,.int .i64 e.rat,.slice v.uA v.un v.uc,.slice v.pA v.pn v.pc,.int .i64 e.pat,.slice v.sA v.sn v.sc,.bool e.sk.back,.slice v.qA v.qn v.qc,.int .i64 e.sk.at_,.int .i64 e.sk.place,.bool e.sk.failed,.int .i64 e.sk.homeAt,.int .i64 e.sk.homePlace,.bool e.seeks,.bool e.px,.bool e.quote,.bool e.cnt.some_,.bool e.cnt.minus,.bool e.cnt.digits,.int .i64 e.cnt.n,.int .i64 e.last,.int .i64 e.run]
theorem stL_len (e:EdS)(v:EdL):(stL e v).length=24:=rfl
theorem stL_one (e:EdS)(v:EdL):∀u∈stL e v,u.oneCell'=true:=by
 intro u hu;simp only[stL,List.mem_cons,List.not_mem_nil,or_false]at hu;rcases hu with rfl|rfl|rfl|rfl|rfl|rfl|rfl|rfl|rfl|rfl|rfl|rfl|rfl|rfl|rfl|rfl|rfl|rfl|rfl|rfl|rfl|rfl|rfl|rfl<;>rfl
theorem EdAt.range {w:World}{E X G R g:Nat}{e:EdS}{v:EdL}(h:EdAt D w E X G R g e v):w.rangeAt E 3 (stL e v):=h.1.range 3 _ fun j u hu=>by
 have hj:j<24:=by
  have:=(List.getElem?_eq_some_iff.1 hu).1;rwa[stL_len]at this
 match j,hj,hu with
 |0,_,hu=>exact hu
 |1,_,hu=>exact hu
 |2,_,hu=>exact hu
 |3,_,hu=>exact hu
 |4,_,hu=>exact hu
 |5,_,hu=>exact hu
 |6,_,hu=>exact hu
 |7,_,hu=>exact hu
 |8,_,hu=>exact hu
 |9,_,hu=>exact hu
 |10,_,hu=>exact hu
 |11,_,hu=>exact hu
 |12,_,hu=>exact hu
 |13,_,hu=>exact hu
 |14,_,hu=>exact hu
 |15,_,hu=>exact hu
 |16,_,hu=>exact hu
 |17,_,hu=>exact hu
 |18,_,hu=>exact hu
 |19,_,hu=>exact hu
 |20,_,hu=>exact hu
 |21,_,hu=>exact hu
 |22,_,hu=>exact hu
 |23,_,hu=>exact hu
theorem now_any (E X G R g:Nat)(e:EdS)(v:EdL)(w:World)(h:EdAt D w E X G R g e v)(hp:e.sk.pat.length≤65536):Calls Tryz.prog 16 #[.pointer (some ⟨E,0,none⟩)] w fun en w'=>∃A n c,en=.returned (.agg (nowV e v A n c))∧Ru w' (From w.heap.size) A n c e.sk.pat∧Kp w w':=by
 have HCL:=hid (fun(wx:World) (kx:Kp w wx)=>zH _ v.qA v.qn v.qc e.sk.pat wx (Sl.kp h.2.pat kx) (by have:=Ru.len h.2.pat;omega));have hrg:=h.range;obtain⟨cs,hcs⟩:∃cs,cs=stL e v:=⟨_,rfl⟩;have hlen:cs.length=24:=by rw[hcs];rfl
 have HONE:=hid (show∀u∈cs,u.oneCell'=true by rw[hcs];exact stL_one e v);have h9:cs[9]? =some (.slice v.qA v.qn v.qc):=by rw[hcs];rfl
 rw[←hcs]at hrg;obtain⟨HCS,HL,H9,HRG⟩:=hid4 hcs hlen h9 hrg;have hE:=h.1.lt;have HE:=hid hE;clear h hp hcs h9 hrg hlen;go_enter Tryz.func16,Tryz.ntmps16;go_upto_region 3 with fail;have b2:=Bx.new w #[.int .i64 0,.int .i64 0,.slice none 0 0,.int .i64 0,.slice none 0 0,.slice none 0 0,.int .i64 0,.slice none 0 0,.bool false,.slice none 0 0,.int .i64 0,.int .i64 0,.bool false,.int .i64 0,.int .i64 0,.bool false,.bool false,.bool false,.bool false,.bool false,.bool false,.int .i64 0,.int .i64 0,.int .i64 0] 70;have k1:=(Kp.refl w).alloc (.cells #[.int .i64 0,.int .i64 0,.slice none 0 0,.int .i64 0,.slice none 0 0,.slice none 0 0,.int .i64 0,.slice none 0 0,.bool false,.slice none 0 0,.int .i64 0,.int .i64 0,.bool false,.int .i64 0,.int .i64 0,.bool false,.bool false,.bool false,.bool false,.bool false,.bool false,.int .i64 0,.int .i64 0,.int .i64 0] 70);obtain⟨P,hP⟩:∃P,P=w.heap.size:=⟨_,rfl⟩;rw[←hP]at b2⊢;obtain⟨HP,K1,B2,HR1⟩:=hid4 hP k1 b2 (World.rangeAt_alloc HRG.out (.cells #[.int .i64 0,.int .i64 0,.slice none 0 0,.int .i64 0,.slice none 0 0,.slice none 0 0,.int .i64 0,.slice none 0 0,.bool false,.slice none 0 0,.int .i64 0,.int .i64 0,.bool false,.int .i64 0,.int .i64 0,.bool false,.bool false,.bool false,.bool false,.bool false,.bool false,.int .i64 0,.int .i64 0,.int .i64 0] 70));clear hP k1 b2 hE;generalize(w.alloc (.cells #[.int .i64 0,.int .i64 0,.slice none 0 0,.int .i64 0,.slice none 0 0,.slice none 0 0,.int .i64 0,.slice none 0 0,.bool false,.slice none 0 0,.int .i64 0,.int .i64 0,.bool false,.int .i64 0,.int .i64 0,.bool false,.bool false,.bool false,.bool false,.bool false,.bool false,.int .i64 0,.int .i64 0,.int .i64 0] 70))=w1 at *;go_step;go_step;go_step;go_step;go_step;go_step;go_step;go_step;go_step;go_step;refine wpList_load_mid rfl 70 _ rfl E 3 rfl cs _ HR1.out Tryz.underlying70 rfl (by rw[HL.out];exact infoState) ?_;go_step;go_step;go_step;have b3:=Bx.new w1 #[.int .i64 0,.int .i64 0,.slice none 0 0,.int .i64 0,.slice none 0 0,.slice none 0 0,.int .i64 0,.slice none 0 0,.bool false,.slice none 0 0,.int .i64 0,.int .i64 0,.bool false,.int .i64 0,.int .i64 0,.bool false,.bool false,.bool false,.bool false,.bool false,.bool false,.int .i64 0,.int .i64 0,.int .i64 0] 70;have k2:=(Kp.refl w1).alloc (.cells #[.int .i64 0,.int .i64 0,.slice none 0 0,.int .i64 0,.slice none 0 0,.slice none 0 0,.int .i64 0,.slice none 0 0,.bool false,.slice none 0 0,.int .i64 0,.int .i64 0,.bool false,.int .i64 0,.int .i64 0,.bool false,.bool false,.bool false,.bool false,.bool false,.bool false,.int .i64 0,.int .i64 0,.int .i64 0] 70);obtain⟨Q,hQ⟩:∃Q,Q=w1.heap.size:=⟨_,rfl⟩;rw[←hQ]at b3⊢;obtain⟨HQ,B3,K2,HW1⟩:=hid4 hQ b3 k2 K1.out.size;have B2':=hid (B2.out.kp k2);clear hQ b3 k2;generalize(w1.alloc (.cells #[.int .i64 0,.int .i64 0,.slice none 0 0,.int .i64 0,.slice none 0 0,.slice none 0 0,.int .i64 0,.slice none 0 0,.bool false,.slice none 0 0,.int .i64 0,.int .i64 0,.bool false,.int .i64 0,.int .i64 0,.bool false,.bool false,.bool false,.bool false,.bool false,.bool false,.int .i64 0,.int .i64 0,.int .i64 0] 70))=w2 at *;refine wpList_store_mid rfl 70 _ _ rfl Q 0 cs.toArray rfl rfl (by rw[List.size_toArray,HL.out];exact B3.out.there_ 24 (by simp)) (by rw[List.size_toArray,HL.out];exact infoState) (all_oneCell_toArray HONE.out) ?_;obtain⟨r1,r2,r3,r4⟩:=B3.out.row cs (by rw[HL.out];rfl);obtain⟨HPQ,K3⟩:=hid2 (show P≠Q by have:=HQ.out;have:=B2.out.lt;omega) (r2 w (K1.out.trans K2.out) (by have:=HQ.out;have:=K1.out.size;omega));obtain⟨B4,B5⟩:=hid2 (show Bx (w2.setCells Q 0 cs) P #[.int .i64 0,.int .i64 0,.slice none 0 0,.int .i64 0,.slice none 0 0,.slice none 0 0,.int .i64 0,.slice none 0 0,.bool false,.slice none 0 0,.int .i64 0,.int .i64 0,.bool false,.int .i64 0,.int .i64 0,.bool false,.bool false,.bool false,.bool false,.bool false,.bool false,.int .i64 0,.int .i64 0,.int .i64 0] 70 from(r4 P HPQ.out).trans B2'.out) r1;rw[List.toList_toArray];clear r1 r2 r3 r4 B3 B2 B2' K1 K2 HR1;generalize(w2.setCells Q 0 cs)=w3 at *;have q9:w3.cell? ⟨Q,9,none⟩=some (.slice v.qA v.qn v.qc):=by rw[B5.out.cell 9,List.getElem?_toArray];exact H9.out
 have HP2:=hid HP.out;go_wp2_with fail;refine(HCL.out _ K3.out).mono ?_;rintro en w4 ⟨A,n,c,rfl,hr,k4⟩;obtain⟨B6,B7⟩:=hid2 (B5.out.kp k4) (B4.out.kp k4);obtain⟨s9,f9⟩:w4.cell? ⟨Q,9,none⟩=some (.slice v.qA v.qn v.qc)∧w4.frozen? ⟨Q,9,none⟩=false:=⟨by rw[B6.out.cell 9,List.getElem?_toArray];exact H9.out,B6.out.frozen 9⟩;have hQ4:=B6.out.lt;go_upto_region 5 with fail;obtain⟨ds,hds⟩:∃ds,ds=cs.set 9 (.slice A n c):=⟨_,rfl⟩;have B8:=hid (show Bx (w4.setCell ⟨Q,9,none⟩ (.slice A n c)) Q ds.toArray 70 by
  have:=B6.out.set 9 (.slice A n c);rw[hds];simpa using this)
 obtain⟨B9,K8,HRU,HDS⟩:=hid4 (B7.out.far (p:=⟨Q,9,none⟩) HPQ.out (.slice A n c)) ((K3.out.trans k4).setCell (p:=⟨Q,9,none⟩) (by have:=HQ.out;have:=HW1.out;simp;omega) (.slice A n c)) (Sl.setCell (p:=⟨Q,9,none⟩) (Sl.weak hr (G:=fun q=>w3.heap.size≤q) (fun q _ hq=>hq)) (fun hq=>by have:=B5.out.lt;simp at hq;omega) (.slice A n c)) (show ds=stL {e with sk:=e.sk} {v with qA:=A,qn:=n,qc:=c} by rw[hds,HCS.out];rfl);have hdl:ds.length=24:=by rw[hds,List.length_set];exact HL.out
 obtain⟨HDL,HPL,H3S⟩:=hid3 hdl B4.out.lt (show w.heap.size≤w3.heap.size from K3.out.size);clear s9 f9 hQ4 hr k4 B4 B5 B6 B7 q9 hdl hds;generalize(w4.setCell ⟨Q,9,none⟩ (.slice A n c))=w5 at *;go_step;refine wpList_load_mid rfl 70 _ rfl Q 0 rfl ds _ (B8.out.range 0 ds fun j u hu=>by rw[Nat.zero_add,List.getElem?_toArray];exact hu) Tryz.underlying70 rfl (by rw[HDL.out];exact infoState) ?_;refine wpList_store_mid rfl 70 _ _ rfl P 0 ds.toArray rfl rfl (by rw[List.size_toArray,HDL.out];exact B9.out.there_ 24 (by simp)) (by rw[List.size_toArray,HDL.out];exact infoState) (all_oneCell_toArray (by rw[HDS.out];exact stL_one _ _)) ?_;obtain⟨r1,r2,r3,r4⟩:=B9.out.row ds (by rw[HDL.out];rfl);obtain⟨K9,B10,HR9⟩:=hid3 (r2 w K8.out (by have:=HP2.out;omega)) r1 (Sl.frame HRU.out (by rw[r3];exact le_) (fun q hq _=>r4 q (by have:=HPL.out;omega)));rw[List.toList_toArray];clear r1 r2 r3 r4;generalize(w5.setCells P 0 ds)=w6 at *;go_wp2_with fail;have hnv:ds.toArray=nowV e v A n c:=by rw[HDS.out];rfl
 clear hnv;refine bodyPost_ret (v:=.agg (nowV e v A n c)) ?_ rfl ⟨A,n,c,rfl,Sl.weak HR9.out (fun q _ hq=>Nat.le_trans H3S.out hq),K9.out⟩;clear HR9 K9 HRU K8 HCL HRG;refine results_cell (b:=P) (o:=0) rfl rfl ?_;have hrg:=B10.out.range 0 ds (fun j u hu=>by rw[Nat.zero_add,List.getElem?_toArray];exact hu);have hlv:=run_loadVar_mid (P:=Tryz.prog) w6 P 0 70 ds _ hrg Tryz.underlying70 rfl (by rw[HDL.out];exact infoState);rw[hlv,show ds.toArray=nowV e v A n c by rw[HDS.out];rfl]
end
section
variable {D:Nat→Prop}
def RetEdNew (D:Nat→Prop)(g:Nat)(T:TM)(w:World)(en:Ending)(w':World):Prop:=
 ∃E X G R v,en=.returned (.pointer (some ⟨E,0,none⟩))∧EdAt D w' E X G R g (EdS.new T) v∧(∀q,Eb E X G R q→w.heap.size≤q)∧Kp w w'
theorem new_ok (T:TM):EdOk 0 (EdS.new T):=by
 refine⟨by omega,by simp[EdS.new],by simp[EdS.new],by simp[EdS.new],by simp[EdS.new],by simp[EdS.new],.inr ⟨rfl,rfl⟩,by simp[EdS.new],by simp[EdS.new],by simp[EdS.new],by simp[EdS.new],by simp[EdS.new],fun x hx=>by simp[EdS.new]at hx,by simp[EdS.new,R32ok.nil],by simp[EdS.new,Sk.zero],by simp[EdS.new,Sk.zero],by simp[EdS.new,Sk.zero,R32ok.nil],by simp[EdS.new,Cn.zero],by simp[EdS.new],by simp[EdS.new]⟩
theorem new_at {w w':World}{X G R g:Nat}{T:TM}(ht:TxAt w X G R g (Tx.new T []))(hk:Kp w' w)(hD:∀q,D q→q<w'.heap.size):
 EdAt D (w.alloc (.cells (edV g X (EdS.new T) ⟨none,0,0,none,0,0,none,0,0,none,0,0,none,0,0,none,0,0⟩) 100)) w.heap.size X G R g (EdS.new T) ⟨none,0,0,none,0,0,none,0,0,none,0,0,none,0,0,none,0,0⟩:=by
 have hX:¬Xb X G R w.heap.size:=by
  intro hx;have:=(ht.nilF Any (by rw[tx_new_nil])).lt _ hx;omega
 refine⟨Bx.new _ _ _,(ht.nilF _ (by rw[tx_new_nil])).kp ((Kp.refl _).alloc _),hX,Txs.nil _ _ _,GrpsF.nil,Txs.nil _ _ _,Ru.nil _ _,Ru.nil _ _,Txs.nil _ _ _,fun _=>⟨rfl,rfl,rfl⟩,fun q hq=>?_⟩;have h1:=hD q hq;have h2:=hk.size;simp;omega
theorem new_any (g:Nat)(T:TM)(w:World)(hT:TabAt w g T)(hD:∀q,D q→q<w.heap.size):Calls Tryz.prog 7 #[.pointer (some ⟨g,0,none⟩),.agg #[.map none]] w (RetEdNew D g T w):=by
 obtain⟨HNW,HD⟩:=hid2 (fun(wx:World) (kx:Kp w wx)=>textNew_any Any g T none 0 0 [] wx (hT.kp kx) (Ru.nil _ _) R32ok.nil (by omega) (by have:=nfcC_len T [];simp at this;simp[this])) hD;clear hT hD;go_enter Tryz.func7,Tryz.ntmps7;go_upto_region 1 with fail;have k1:=(Kp.refl w).alloc (.cells #[.map none] 30);have b1:=Bx.new w #[.map none] 30;obtain⟨P,hP⟩:∃P,P=w.heap.size:=⟨_,rfl⟩;rw[←hP]at b1⊢;obtain⟨K1,B1⟩:=hid2 k1 b1;clear hP k1 b1;generalize(w.alloc (.cells #[.map none] 30))=w1 at *;have p0:w1.cell? ⟨P,0,none⟩=some (.map none):=B1.out.cell 0;go_region_held3 (fun w'=>w'.cell? ⟨P,0,none⟩=some (.map none))
  (first|(with_reducible exact p0)|(with_reducible exact q0)|(with_reducible exact Bx.cell (Bx.alloc B2.out _) 0)|go_keep)
  (first|(go_at_call 33;refine(HNW.out _ (K1.out.trans (Kp.refl w1).drew)).mono ?_;rintro en w2 ⟨X,G,R,rfl,ht2,hn2,k2⟩;have K2:=hid ((Kp.refl w1).drew.trans k2);have B2:=hid (B1.out.kp K2.out);have q0:w2.cell? ⟨P,0,none⟩=some (.map none):=B2.out.cell 0))
 obtain⟨hat,HN,KK⟩:=hid3 (new_at (D:=D) ht2 (K1.out.trans K2.out) HD.out) hn2 (K1.out.trans K2.out);clear ht2 hn2 k2;go_wp2_with fail;go_ret;refine⟨w2.heap.size,X,G,R,_,rfl,hat.out,fun q hq=>?_,KK.out.alloc _⟩;have h1:=KK.out.size;rcases hq with rfl|hq
 ·exact h1
 ·have h2:=HN.out q hq
  have h3:=K1.out.size;exact Nat.le_trans h3 h2
end
section
variable {D S:Nat→Prop}
theorem GapAt.mu {w w':World}{G R:Nat}{l:List Int}(h:GapAt w G R l)(m:Mu S w w')(hG:¬S G)(hR:¬S R):GapAt w' G R l:=by
 obtain⟨a,b,c,d,h1,h2,h3⟩:=h;exact⟨a,b,c,d,m.bx h1 hG,m.bx h2 hR,h3⟩
theorem EdAt.mu {w w':World}{E X G R g:Nat}{e:EdS}{v:EdL}(h:EdAt D w E X G R g e v)(m:Mu S w w')(hS:∀q,S q→q<w.heap.size→D q∧¬Eb E X G R q):EdAt D w' E X G R g e v:=by
 have nb:∀q,q<w.heap.size→Eb E X G R q→¬S q:=fun q hl hb hs=>(hS q hs hl).2 hb
 have fr:∀k,¬Ew D E X G R k→k<w.heap.size→w'.heap[k]? =w.heap[k]? :=fun k hk hl=>m.block k hl fun hs=>hk (.inl (.inr (hS k hs hl).1))
 have lt:∀q,Eb E X G R q→q<w.heap.size:=fun q hq=>h.lt q hq.ew
 obtain⟨hb,hr⟩:=h;refine⟨m.bx hb (nb E (lt E (.inl rfl)) (.inl rfl)),⟨?_,hr.off,hr.ring.frame m.size fr fr,hr.undo.frame m.size fr,hr.past.frame m.size fr fr,Sl.frame hr.stash m.size fr,Sl.frame hr.pat m.size fr,hr.lines.frame m.size fr fr,hr.lnil,fun q hq=>Nat.lt_of_lt_of_le (hr.dlt q hq) m.size⟩⟩;obtain⟨A,n,c,h1,h2,h3,h4⟩:=hr.tx;have b1:∀q,Xb X G R q→¬S q:=fun q hq=>nb q (lt q (.inr hq)) (.inr hq)
 exact⟨A,n,c,m.bx h1 (b1 X (.inl rfl)),h2.mu m (b1 G (.inr (.inl rfl))) (b1 R (.inr (.inr rfl))),Sl.frame h3 m.size fr,h4⟩
theorem EdAt.mores {Q:Nat→Prop}{w w':World}{E X G R g:Nat}{e:EdS}{v:EdL}(h:EdAt D w E X G R g e v)(k:Kp w w')(hQ:∀q,Q q→w.heap.size≤q∧q<w'.heap.size):EdAt (fun q=>D q∨Q q) w' E X G R g e v:=by
 refine⟨h.1.kp k,h.2.reg k (fun q hq hn=>?_) fun q hq=>?_⟩
 ·rintro((rfl|hd|hd)|hx)
  ·exact hn (.inl (.inl rfl))
  ·exact hn (.inl (.inr hd))
  ·have:=(hQ q hd).1;omega
  ·exact hn (.inr hx)
 ·rcases hq with hq|hq
  ·exact Nat.lt_of_lt_of_le (h.2.dlt q hq) k.size
  ·exact(hQ q hq).2
end
section
variable {D N S:Nat→Prop}
theorem Kp.keeps {w w':World}(h:Kp w w'){p:Addr}{u:Value}(hp:w.cell? p=some u):w'.cell? p=some u:=(h.cell (World.block_lt_of_cell? w p hp)).trans hp
def edK (T:TM)(ks:List KeyV):EdS:=ks.foldl (fun e k=>e.key T k) (EdS.new T)
theorem edK_snoc (T:TM)(ks:List KeyV)(k:KeyV):edK T (ks++[k])=(edK T ks).key T k:=by simp[edK]
def KeyOk (k:KeyV):Prop:=r32 k.rune∧R32ok k.text∧k.text.length≤65536
structure RunK (D N S:Nat→Prop)(wT w2 wr:World)(E g:Nat)(T:TM)(ks:List KeyV)(i X G R:Nat)(v:EdL):Prop where
 ed:EdAt D wr E X G R g (edK T (ks.take i)) v
 ok:EdOk (5*i) (edK T (ks.take i))
 mu:Mu S w2 wr
 kp:Kp wT wr
 old:∀q,Eb E X G R q→wT.heap.size≤q
 new:∀q,Eb E X G R q→N q∨w2.heap.size≤q
 sub:∀q,N q→S q
 sS:∀q,S q→wT.heap.size≤q
 tab:TabAt wT g T
section
variable {w2 wr wT:World}{E g:Nat}{T:TM}{ks:List KeyV}{i X G R:Nat}{v:EdL}
theorem RunK.start (h:EdAt D w2 E X G R g (EdS.new T) v)(k:Kp wT w2)(hS:∀q,S q→wT.heap.size≤q)(hE:∀q,Eb E X G R q→S q)(ht:TabAt wT g T):RunK D (Eb E X G R) S wT w2 w2 E g T ks 0 X G R v:=
 ⟨h,new_ok T,.refl w2,k,fun q hq=>hS q (hE q hq),fun _ hq=>.inl hq,hE,hS,ht⟩
theorem RunK.then_mu {w':World}(h:RunK D N S wT w2 wr E g T ks i X G R v)(m:Mu S wr w')(he:EdAt D w' E X G R g (edK T (ks.take i)) v):RunK D N S wT w2 w' E g T ks i X G R v:=
 ⟨he,h.ok,h.mu.trans m fun _ _ hb=>hb,m.kp h.kp h.sS,h.old,h.new,h.sub,h.sS,h.tab⟩
theorem RunK.then_kp {w':World}(h:RunK D N S wT w2 wr E g T ks i X G R v)(k:Kp wr w'):RunK D N S wT w2 w' E g T ks i X G R v:=h.then_mu (.of_kp k) (h.ed.kp k)
theorem runKey {k:KeyV}{KA:Option Addr}{kn kc:Nat}(h:RunK D N S wT w2 wr E g T ks i X G R v)(hx:ks[i]? =some k)
 (hk:Ru wr (fun q=>¬Ew D E X G R q) KA kn kc k.text)(ho:KeyOk k)(hi:i<40):
 Calls Tryz.prog 9 #[.pointer (some ⟨E,0,none⟩),.agg #[.int .i64 k.kind,.int .i32 k.rune,.bool k.meta_,.slice KA kn kc]] wr fun en w'=>∃vs X' G' R' v',en=.returned (.agg vs)∧RunK D N S wT w2 w' E g T ks (i+1) X' G' R' v'∧EdN E X G R X' G' R' wr w':=by
 have e:edK T (ks.take (i+1))=(edK T (ks.take i)).key T k:=by
  rw[List.take_add_one,hx];exact edK_snoc T _ k
 have hT:TabN wT wr g T (Eb E X G R):=⟨h.tab,h.kp,h.old⟩;refine(key_any E X G R g _ v T wT wr h.ed hT (5*i) h.ok (by omega) k KA kn kc hk ho.2.1 ho.2.2 ho.1).mono ?_;rintro en w' ⟨X',G',R',v',rfl,h1,h2,h3⟩;have hk':Kp wT w':=h2.mu.kp h.kp h.old;refine⟨_,X',G',R',v',rfl,⟨by rw[e];exact h1,by rw[e];exact h3,h.mu.trans h2.mu fun b hb hE=>(h.new b hE).elim (h.sub b) fun hl=>absurd hb (by omega),hk',fun q hq=>?_,fun q hq=>?_,h.sub,h.sS,h.tab⟩,h2⟩
 ·rcases h2.eb q hq with hl|hl
  ·exact h.old q hl
  ·exact Nat.le_trans h.kp.size hl
 ·rcases h2.eb q hq with hl|hl
  ·exact h.new q hl
  ·exact .inr (Nat.le_trans h.mu.size hl)
theorem EdAt.un {w:World}{e:EdS}(h:EdAt D w E X G R g e v):v.un=e.undo.length:=by
 obtain⟨css,h1,h2,h3⟩:=h.2.undo;exact h3.symm
def Rb (w2:World)(E X G R:Nat)(q:Nat):Prop:=w2.heap.size≤q∧¬Eb E X G R q
structure RecK (D N:Nat→Prop)(wT w2 wr:World)(E g RB:Nat)(T:TM)(ks:List KeyV)(i X G R:Nat)(v:EdL)(A:Option Addr)(c:Nat):Prop where
 run:RunK D N (fun q=>N q∨q=RB) wT w2 wr E g T ks i X G R v
 box:Bx wr RB #[.bool true,.slice A i c] 35
 st:SsW (Rb w2 E X G R) (Rb w2 E X G R) wr A i c (ks.take i)
 nb:¬N RB∧RB<w2.heap.size∧D RB
variable {A:Option Addr}{c RB:Nat}
theorem RecK.far (h:RecK D N wT w2 wr E g RB T ks i X G R v A c):¬Eb E X G R RB:=fun hh=>(h.run.new _ hh).elim h.nb.1 fun hl=>by have:=h.nb.2.1;omega
theorem RecK.st' {w:World}{X' G' R':Nat}(h:RecK D N wT w2 wr E g RB T ks i X G R v A c)(hn:EdN E X G R X' G' R' wr w):
 SsW (fun q=>Rb w2 E X' G' R' q∧q<w.heap.size) (fun q=>Rb w2 E X' G' R' q∧q<w.heap.size) w A i c (ks.take i):=by
 have h1:SsW (fun q=>Rb w2 E X G R q∧q<wr.heap.size) (fun q=>Rb w2 E X G R q∧q<wr.heap.size) wr A i c (ks.take i):=SsW.weak h.st (fun q hl hq=>⟨hq,hl⟩) fun q hl hq=>⟨hq,hl⟩
 have hf:∀q,(Rb w2 E X G R q∧q<wr.heap.size)→q<wr.heap.size→w.heap[q]? =wr.heap[q]? :=fun q hq hl=>hn.mu.block q hl hq.1.2
 have hs:=hn.mu.size;have hw:∀q,(Rb w2 E X G R q∧q<wr.heap.size)→Rb w2 E X' G' R' q∧q<w.heap.size:=fun q hq=>⟨⟨hq.1.1,hn.offb q hq.2 hq.1.2⟩,by omega⟩
 exact SsW.weak (SsW.frame h1 hs hf hf) (fun q _ hq=>hw q hq) fun q _ hq=>hw q hq
def RecM (w2:World)(E X G R:Nat)(ks:List KeyV)(n P:Nat)(A:Option Addr)(c:Nat)(w w':World):Prop:=
 Bx w' P #[.bool true,.slice A n c] 35∧SsW (Rb w2 E X G R) (Rb w2 E X G R) w' A n c ks∧Kp w w'∧w.heap.size≤P
variable {w w3:World}{n P:Nat}
theorem recM_weak (hl:w2.heap.size≤wr.heap.size)(hb:∀q,Eb E X G R q→q<wr.heap.size)(hw:wr.heap.size≤w.heap.size)(h:SsW (From w.heap.size) (fun q=>((Rb w2 E X G R q∧q<wr.heap.size)∧q<w.heap.size)∨w.heap.size≤q) w3 A n c ks):
 SsW (fun q=>Rb w2 E X G R q∧(q<wr.heap.size∨w.heap.size≤q)) (fun q=>Rb w2 E X G R q∧(q<wr.heap.size∨w.heap.size≤q)) w3 A n c ks:=by
 have hn:∀q,w.heap.size≤q→Rb w2 E X G R q∧(q<wr.heap.size∨w.heap.size≤q):=fun q hq=>⟨⟨by omega,fun hh=>by have:=hb q hh;omega⟩,.inr hq⟩
 exact SsW.weak h (fun q _ hq=>hn q hq) fun q _ hq=>hq.elim (fun hh=>⟨hh.1.1,.inl hh.1.2⟩) (hn q)
theorem recM_new (hl:w2.heap.size≤wr.heap.size)(hb:∀q,Eb E X G R q→q<wr.heap.size)(hw:wr.heap.size≤w.heap.size)(h:SsW (From w.heap.size) (fun q=>((Rb w2 E X G R q∧q<wr.heap.size)∧q<w.heap.size)∨w.heap.size≤q) w3 A n c ks)(k:Kp wr w3):
 RecM w2 E X G R ks n w3.heap.size A c wr (w3.alloc (.cells #[.bool true,.slice A n c] 35)):=
 ⟨Bx.new _ _ _,SsW.kp (SsW.weak (recM_weak hl hb hw h) (fun _ _ hq=>hq.1) fun _ _ hq=>hq.1) ((Kp.refl w3).alloc _),k.alloc _,k.size⟩
theorem recM_set {x y:Value}(hl:w2.heap.size≤wr.heap.size)(hb:∀q,Eb E X G R q→q<wr.heap.size)(hw:wr.heap.size+1≤w.heap.size)(h:SsW (From w.heap.size) (fun q=>((Rb w2 E X G R q∧q<wr.heap.size)∧q<w.heap.size)∨w.heap.size≤q) w3 A n c ks)(k:Kp wr w3)
 (b:Bx w3 wr.heap.size #[x,y] 35):RecM w2 E X G R ks n wr.heap.size A c wr ((w3.setCell ⟨wr.heap.size,0,none⟩ (.bool true)).setCell ⟨wr.heap.size,1,none⟩ (.slice A n c)):=by
 have hs:=recM_weak hl hb (by omega) h;have kk:=(k.setCell (p:=⟨wr.heap.size,0,none⟩) le_ (.bool true)).setCell (p:=⟨wr.heap.size,1,none⟩) le_ (.slice A n c);have m:Mu (fun q=>q=wr.heap.size) w3 ((w3.setCell ⟨wr.heap.size,0,none⟩ (.bool true)).setCell ⟨wr.heap.size,1,none⟩ (.slice A n c)):=((Mu.refl w3).setCell (S:=fun q=>q=wr.heap.size) (p:=⟨wr.heap.size,0,none⟩) rfl _).setCell (p:=⟨wr.heap.size,1,none⟩) rfl _;have hne:∀q,(Rb w2 E X G R q∧(q<wr.heap.size∨w.heap.size≤q))→q≠wr.heap.size:=fun q hq=>by have:=hq.2;omega
 refine⟨?_,SsW.weak (SsW.frame hs m.size (fun q hq hl=>m.block q hl (hne q hq)) fun q hq hl=>m.block q hl (hne q hq)) (fun _ _ hq=>hq.1) fun _ _ hq=>hq.1,kk,le_⟩;have:=(b.set 0 (.bool true)).set 1 (.slice A n c);simpa using this
theorem RecK.step {A':Option Addr}{c' X' G' R':Nat}{v':EdL}{wx:World}(h:RecK D N wT w2 wr E g RB T ks i X G R v A c)(hr:RunK D N (fun q=>N q∨q=RB) wT w2 w E g T ks (i+1) X' G' R' v')(hn:EdN E X G R X' G' R' wr w)(hm:RecM w2 E X' G' R' (ks.take (i+1)) (i+1) P A' c' w wx):
 RecK D N wT w2 ((wx.setCell ⟨RB,0,none⟩ (.bool true)).setCell ⟨RB,1,none⟩ (.slice A' (i+1:Nat) c')) E g RB T ks (i+1) X' G' R' v' A' c':=by
 obtain⟨h1,h2,h3,h4⟩:=hm;have m:Mu (fun q=>q=RB) wx ((wx.setCell ⟨RB,0,none⟩ (.bool true)).setCell ⟨RB,1,none⟩ (.slice A' (i+1:Nat) c')):=((Mu.refl wx).setCell (S:=fun q=>q=RB) (p:=⟨RB,0,none⟩) rfl _).setCell (p:=⟨RB,1,none⟩) rfl _;have hf:¬Eb E X' G' R' RB:=hn.offb RB h.box.lt h.far;have hq:=hr.then_kp h3;refine⟨hq.then_mu (m.weak fun _ _ hq=>.inr hq) (hq.ed.mu m fun q hq _=>hq▸⟨h.nb.2.2,hf⟩),?_,?_,h.nb⟩
 ·have hb:=(((hn.bxb ⟨h.box,h.far⟩).1.kp h3).set 0 (.bool true)).set 1 (.slice A' (i+1:Nat) c')
  simpa using hb
 ·have hne:∀q,Rb w2 E X' G' R' q→¬q=RB:=fun q hq hh=>by have:=h.nb.2.1;have:=hq.1;omega
  exact SsW.frame h2 m.size (fun q hq hl=>m.block q hl (hne q hq)) fun q hq hl=>m.block q hl (hne q hq)
end
theorem SsW.book {w w0:World}{BK m n c:Nat}{A:Option Addr}{ks:List KeyV}(h:SsW (From w0.heap.size) (From w0.heap.size) w A n c ks)(hB:BK<w0.heap.size):SsW (From w0.heap.size) (From w0.heap.size) (w.setCell ⟨BK,0,none⟩ (.map (some m))) A n c ks:=by
 have mm:Mu (fun q=>q=BK) w (w.setCell ⟨BK,0,none⟩ (.map (some m))):=(Mu.refl w).setCell (S:=fun q=>q=BK) (p:=⟨BK,0,none⟩) rfl _;have hf:∀q,From w0.heap.size q→q<w.heap.size→(w.setCell ⟨BK,0,none⟩ (.map (some m))).heap[q]? =w.heap[q]? :=fun q hq hl=>mm.block q hl fun hh=>by unfold From at hq;omega
 exact SsW.frame h mm.size hf hf
def DA (w5 w8:World)(q:Nat):Prop:=False∨(w5.heap.size≤q∧q<w8.heap.size)
def DB (w5:World)(RB q:Nat):Prop:=q<w5.heap.size∨q=RB
structure Two (wT w5 w6 w8:World)(E1 X1 G1 R1 E2 X2 G2 R2 RB:Nat):Prop where
 lo1:∀q,Eb E1 X1 G1 R1 q→wT.heap.size≤q∧q<w5.heap.size
 lo2:∀q,Eb E2 X2 G2 R2 q→w5.heap.size≤q∧q<w6.heap.size
 rb:w6.heap.size≤RB∧RB<w8.heap.size
 k5:Kp wT w5
 k6:Kp w5 w6
 k8:Kp w6 w8
section
variable {wT w4 w5 w6 w7 w8 wl wr:World}{E1 X1 G1 R1 E2 X2 G2 R2 RB g:Nat}{T:TM}{ms:List KeyV}{v1 v2 va vb:EdL}
theorem Two.mk' (k4:Kp wT w4)(k5:Kp w4 w5)(k6:Kp w5 w6)(k7:Kp w6 w7)(ha:EdAt (fun _=>False) w5 E1 X1 G1 R1 g (EdS.new T) v1)(h4:∀q,Eb E1 X1 G1 R1 q→w4.heap.size≤q)
 (hb:EdAt (fun q=>q<w5.heap.size) w6 E2 X2 G2 R2 g (EdS.new T) v2)(h5:∀q,Eb E2 X2 G2 R2 q→w5.heap.size≤q)(o:Obj):Two wT w5 w6 (w7.alloc o) E1 X1 G1 R1 E2 X2 G2 R2 w7.heap.size:=
 ⟨fun q hq=>⟨Nat.le_trans k4.size (h4 q hq),ha.lt q hq.ew⟩,fun q hq=>⟨h5 q hq,hb.lt q hq.ew⟩,⟨k7.size,by simp⟩,k4.trans k5,k6,k7.alloc o⟩
theorem Two.kT (t:Two wT w5 w6 w8 E1 X1 G1 R1 E2 X2 G2 R2 RB):Kp wT w8:=t.k5.trans (t.k6.trans t.k8)
theorem Two.run (t:Two wT w5 w6 w8 E1 X1 G1 R1 E2 X2 G2 R2 RB)(ha:EdAt (fun _=>False) w5 E1 X1 G1 R1 g (EdS.new T) v1)(hT:TabAt wT g T)(hb:Bx w8 RB #[.bool true,.slice none (0:Nat) 0] 35):
 RecK (DA w5 w8) (Eb E1 X1 G1 R1) wT w8 w8 E1 g RB T ms 0 X1 G1 R1 v1 none 0:=by
 have h:=ha.mores (Q:=fun q=>w5.heap.size≤q∧q<w8.heap.size) (t.k6.trans t.k8) fun q hq=>hq
 have h1:=t.rb;have h2:=t.k6.size;have h3:=t.k5.size;refine⟨RunK.start h t.kT (fun q hq=>?_) (fun q hq=>.inl hq) hT,hb,⟨[],Sl.nil _ _ _,by simp[RelL],rfl⟩,fun hq=>?_,h1.2,.inr ⟨by omega,h1.2⟩⟩
 ·rcases hq with hq|rfl
  ·exact(t.lo1 q hq).1
  ·omega
 ·have:=(t.lo1 _ hq).2
  omega
theorem Two.two (t:Two wT w5 w6 w8 E1 X1 G1 R1 E2 X2 G2 R2 RB){e:EdS}(hb:EdAt (fun q=>q<w5.heap.size) w6 E2 X2 G2 R2 g e v2):EdAt (DB w5 RB) w8 E2 X2 G2 R2 g e v2:=
 hb.mores (Q:=fun q=>q=RB) t.k8 fun _ hq=>hq▸t.rb
theorem Two.over1 (t:Two wT w5 w6 w8 E1 X1 G1 R1 E2 X2 G2 R2 RB){e:EdS}(hb:EdAt (DB w5 RB) w8 E2 X2 G2 R2 g e v2)(m:Mu (fun q=>Eb E1 X1 G1 R1 q∨q=RB) w8 wr):EdAt (DB w5 RB) wr E2 X2 G2 R2 g e v2:=by
 refine hb.mu m fun q hq _=>?_
 rcases hq with hq|rfl
 ·have h1:=t.lo1 q hq
  exact⟨.inl h1.2,fun hh=>by have:=t.lo2 q hh;omega⟩
 ·exact⟨.inr rfl,fun hh=>by have:=t.lo2 q hh;have:=t.rb;omega⟩
theorem Two.run2 (t:Two wT w5 w6 w8 E1 X1 G1 R1 E2 X2 G2 R2 RB)(hb:EdAt (DB w5 RB) wl E2 X2 G2 R2 g (EdS.new T) v2)(k:Kp wT wl)(hT:TabAt wT g T):RunK (DB w5 RB) (Eb E2 X2 G2 R2) (Eb E2 X2 G2 R2) wT wl wl E2 g T ms 0 X2 G2 R2 v2:=
 RunK.start hb k (fun q hq=>by have:=t.lo2 q hq;have:=t.k5.size;omega) (fun q hq=>hq) hT
theorem Two.over2 (t:Two wT w5 w6 w8 E1 X1 G1 R1 E2 X2 G2 R2 RB){i X G R:Nat}{S:Nat→Prop}(ha:RunK (DA w5 w8) (Eb E1 X1 G1 R1) S wT w8 wl E1 g T ms i X G R va)(m:Mu (Eb E2 X2 G2 R2) wl wr):EdAt (DA w5 w8) wr E1 X G R g (edK T (ms.take i)) va:=by
 refine ha.ed.mu m fun q hq _=>?_
 have h2:=t.lo2 q hq;have h3:=t.k8.size;refine⟨.inr ⟨h2.1,by omega⟩,fun hh=>?_⟩;rcases ha.new q hh with h1|h1
 ·have:=t.lo1 q h1
  omega
 ·omega
theorem Two.keys (t:Two wT w5 w6 w8 E1 X1 G1 R1 E2 X2 G2 R2 RB){i X G R n c:Nat}{A:Option Addr}(hk:KsW (fun q=>w8.heap.size≤q∧q<wl.heap.size) (fun q=>w8.heap.size≤q∧q<wl.heap.size) wl A n c ms)
 (hr:RunK (DB w5 RB) (Eb E2 X2 G2 R2) (Eb E2 X2 G2 R2) wT wl wr E2 g T ms i X G R vb):KsW (fun q=>¬Ew (DB w5 RB) E2 X G R q) (fun q=>¬Ew (DB w5 RB) E2 X G R q) wr A n c ms:=by
 have h3:=t.k8.size;have h4:=t.k6.size;have h5:=t.rb;have hn:∀q,w8.heap.size≤q∧q<wl.heap.size→¬Eb E2 X2 G2 R2 q:=fun q hq hh=>by have:=t.lo2 q hh;omega
 have hm:∀q,w8.heap.size≤q∧q<wl.heap.size→¬Ew (DB w5 RB) E2 X G R q:=fun q hq hh=>by
  have hE:¬Eb E2 X G R q:=fun he=>(hr.new q he).elim (hn q hq) fun hl=>by omega
  rcases hh with(hh|hh|hh)|hh
  ·exact hE (.inl hh)
  ·omega
  ·omega
  ·exact hE (.inr hh)
 exact KsW.weak (KsW.frame hk hr.mu.size (fun q hq hl=>hr.mu.block q hl (hn q hq)) fun q hq hl=>hr.mu.block q hl (hn q hq)) (fun q _ hq=>hm q hq) fun q _ hq=>hm q hq
theorem Two.old (t:Two wT w5 w6 w8 E1 X1 G1 R1 E2 X2 G2 R2 RB){w1:World}{F N S:Nat→Prop}{i X G R n c:Nat}{A:Option Addr}(hk:KsW F (fun q=>Any q∧q<w1.heap.size) w1 A n c ms)(k1:Kp w1 wT)
 (hr:RunK (DA w5 w8) N S wT w8 wr E1 g T ms i X G R va):KsW Any (fun q=>¬Ew (DA w5 w8) E1 X G R q) wr A n c ms:=by
 have h3:=t.k5.size;have h4:=k1.size;refine KsW.weak (KsW.kp hk (k1.trans hr.kp)) (fun _ _ _=>trivial) fun q _ hq hh=>?_
 have hl:q<w1.heap.size:=hq.2;have hE:¬Eb E1 X G R q:=fun he=>by have:=hr.old q he;omega
 rcases hh with(hh|hh|hh)|hh
 ·exact hE (.inl hh)
 ·exact hh
 ·omega
 ·exact hE (.inr hh)
end
end
end Go.Proofs.YtociefdcccokjaaGreat

/-
  Lemmas for TopMacro. Conditions: each states its own.
-/
import Derived.Test.YtociefdcccokjaaGreatG28
set_option maxHeartbeats 12800000
set_option maxRecDepth 100000
namespace Go.Proofs.YtociefdcccokjaaGreat
open Go.RowKit Go.Lib
theorem Kp.set3 {w w2:World}{W:Nat}(k:Kp w w2)(h:W=w.heap.size)(a b c:Value):Kp w (((w2.setCell ⟨W,0,none⟩ a).setCell ⟨W,1,none⟩ b).setCell ⟨W,2,none⟩ c):=
 ((k.setCell (p:=⟨W,0,none⟩) (by rw[h];exact le_) _).setCell (p:=⟨W,1,none⟩) (by rw[h];exact le_) _).setCell (p:=⟨W,2,none⟩) (by rw[h];exact le_) _
def RetSp (o:Option Sp)(w:World)(e:Ending)(w':World):Prop:=
 match o with
 |some s=>e=.returned (.tuple #[.agg #[.int .i64 s.frm,.int .i64 s.tt,.bool s.ahead],.bool true])∧Kp w w'
 |none=>e=.returned (.tuple #[.agg #[.int .i64 0,.int .i64 0,.bool false],.bool false])∧Kp w w'
theorem xS (T:TM)(x:Tx)(c at_ mark n:Int){o:Int}(h:otherO T x c (x.floor at_) mark n=some o):takeO T x c at_ mark n=some ⟨min (x.floor at_) o,max (x.floor at_) o,decide (o<x.floor at_)⟩:=by unfold takeO;rw[h]
theorem takeO_none (T:TM)(x:Tx)(c at_ mark n:Int)(h:otherO T x c (x.floor at_) mark n=none):takeO T x c at_ mark n=none:=by unfold takeO;rw[h]
theorem mtake_any (X G R g:Nat)(x:Tx)(T:TM)(c at_ mark n:Int)(w:World)(h:TxAt w X G R g x)(hT:TabAt w g T)(hn1: -9223372036854775808≤n)(hn2:n≤9223372036854775807):
 Calls Tryz.prog 111 #[.pointer (some ⟨X,0,none⟩),.int .i64 c,.int .i64 at_,.int .i64 mark,.int .i64 n] w (RetSp (takeO T x c at_ mark n) w):=by
 have hlen:=h.ok.len;obtain⟨fl,hfl⟩:∃v,v=x.floor at_:=⟨_,rfl⟩;obtain⟨bk,hbk⟩:∃v,backN n=v:=⟨_,rfl⟩;obtain⟨on1,hon1⟩:∃v,v=x.on fl n:=⟨_,rfl⟩;obtain⟨on2,hon2⟩:∃v,v=x.on fl bk:=⟨_,rfl⟩;obtain⟨wd1,hwd1⟩:∃v,v=xR T x fl n:=⟨_,rfl⟩;obtain⟨wd2,hwd2⟩:∃v,v=xR T x fl bk:=⟨_,rfl⟩;obtain⟨N,hN⟩:∃N,N=x.l.length:=⟨_,rfl⟩;have hbb: -9223372036854775808≤bk∧bk≤9223372036854775807:=by unfold backN at hbk;omega
 obtain⟨HFL,HO1,HO2,HW1,HW2,HSZ⟩:=hid6 (fun(wx:World) (kx:Kp w wx)=>zR X G R g x wx (h.kp kx) at_) (fun(wx:World) (kx:Kp w wx)=>yU X G R g x wx (h.kp kx) fl n) (fun(wx:World) (kx:Kp w wx)=>yU X G R g x wx (h.kp kx) fl bk) (fun(wx:World) (kx:Kp w wx)=>words_any X G R g x T fl n wx (h.kp kx) (hT.kp kx) hn1 hn2) (fun(wx:World) (kx:Kp w wx)=>words_any X G R g x T fl bk wx (h.kp kx) (hT.kp kx) hbb.1 hbb.2) (fun(wx:World) (kx:Kp w wx)=>yY X G R g x wx (h.kp kx));rw[←hfl]at HFL;rw[←hon1]at HO1;rw[←hon2]at HO2;rw[←hwd1]at HW1;rw[←hwd2]at HW2;rw[←hN]at HSZ hlen;have HBK:=hid hbk;obtain⟨mk,hmk⟩:∃v,v=x.floor mark:=⟨_,rfl⟩;have HMK:=hid (fun(wx:World) (kx:Kp w wx)=>zR X G R g x wx (h.kp kx) mark);rw[←hmk]at HMK;obtain⟨res,hres⟩:∃v,v=takeO T x c at_ mark n:=⟨_,rfl⟩;rw[←hres];have HM:Hid ((otherO T x c (x.floor at_) mark n)=if c=9 then some on1 else if c=10 then some on2 else if c=11 then some wd1 else if c=12 then some wd2 else if c=13 then some (N:Int)else if c=14 then some 0 else if c=15∨c=16 then some mk else none):=by
  show _=_;rw[hon1,hon2,hwd1,hwd2,hN,hfl,hmk,←hbk];rfl
 obtain⟨HRES,HFE⟩:=hid2 hres hfl;clear h hT hfl hbk hon1 hon2 hwd1 hwd2 hN hbb hmk hres;obtain⟨W,hW⟩:∃W,W=w.heap.size:=⟨_,rfl⟩;have HWS:=hid hW;have k0:=(Kp.refl w).alloc (.cells #[.int .i64 0,.int .i64 0,.bool false] 228);have bw:=Bx.new w #[.int .i64 0,.int .i64 0,.bool false] 228;rw[←hW]at bw;obtain⟨HBW,HK0⟩:=hid2 bw k0;obtain⟨w0,hw0⟩:∃w0,w0=w.alloc (.cells #[.int .i64 0,.int .i64 0,.bool false] 228):=⟨_,rfl⟩;rw[←hw0]at HBW HK0;have HW0:=hid hw0;clear k0 bw hW hw0;by_cases h9:c=9
 ·subst h9
  have hm:=HM.out;rw[if_pos rfl]at hm;have ht:=HRES.out.trans (xS T x _ at_ mark n hm);rw[←HFE.out]at ht;have HT:=hid ht;clear HM HRES hm ht;by_cases ho:on1<fl
  ·have q:=dT ho
   go_enter Tryz.func111,Tryz.ntmps111;go_upto_region 1 with fail;change Code.wp _ _ _ _ (w.alloc (.cells #[.int .i64 0,.int .i64 0,.bool false] 228));rw[←HW0.out,←HWS.out];obtain⟨p0a,p0b,p0c,_,_,_⟩:=HBW.out.three;go_wp2_with fail;refine(HFL.out _ (HK0.out)).mono ?_;rintro e w1 ⟨rfl,k1'⟩;have k1:=Kp.trans (HK0.out) k1';have HB1:=hid (Bx.kp HBW.out k1');clear k1';obtain⟨p1a,p1b,p1c,_,_,_⟩:=HB1.out.three;go_wp2_with fail;refine(HO1.out _ (k1)).mono ?_;rintro e w2 ⟨rfl,k2'⟩;have k2:=Kp.trans (k1) k2';have HB2:=hid (Bx.kp HB1.out k2');clear k2';obtain⟨p2a,p2b,p2c,_,_,_⟩:=HB2.out.three;go_wp2_with fail
   all_goals
    first
    |(refine bodyPost_ret (v:=.tuple #[.agg #[.int .i64 on1,.int .i64 fl,.bool true],.bool true]) ?_ rfl ?_;(focus (simp[results,Tryz.results111,go_sem,p2a,p2b,p2c];done));rw[HT.out];refine⟨by rw[show min fl on1=on1 by omega,show max fl on1=fl by omega,show decide (on1<fl)=true by simp;omega],?_⟩;exact k2.set3 HWS.out _ _ _)
  ·have q:=dF ho
   go_enter Tryz.func111,Tryz.ntmps111;go_upto_region 1 with fail;change Code.wp _ _ _ _ (w.alloc (.cells #[.int .i64 0,.int .i64 0,.bool false] 228));rw[←HW0.out,←HWS.out];obtain⟨p0a,p0b,p0c,_,_,_⟩:=HBW.out.three;go_wp2_with fail;refine(HFL.out _ (HK0.out)).mono ?_;rintro e w1 ⟨rfl,k1'⟩;have k1:=Kp.trans (HK0.out) k1';have HB1:=hid (Bx.kp HBW.out k1');clear k1';obtain⟨p1a,p1b,p1c,_,_,_⟩:=HB1.out.three;go_wp2_with fail;refine(HO1.out _ (k1)).mono ?_;rintro e w2 ⟨rfl,k2'⟩;have k2:=Kp.trans (k1) k2';have HB2:=hid (Bx.kp HB1.out k2');clear k2';obtain⟨p2a,p2b,p2c,_,_,_⟩:=HB2.out.three;go_wp2_with fail
   all_goals
    first
    |(refine bodyPost_ret (v:=.tuple #[.agg #[.int .i64 fl,.int .i64 on1,.bool false],.bool true]) ?_ rfl ?_;(focus (simp[results,Tryz.results111,go_sem,p2a,p2b,p2c];done));rw[HT.out];refine⟨by rw[show min fl on1=fl by omega,show max fl on1=on1 by omega,show decide (on1<fl)=false by simp;omega],?_⟩;exact k2.set3 HWS.out _ _ _)
    |(refine bodyPost_ret (v:=.tuple #[.agg #[.int .i64 fl,.int .i64 fl,.bool false],.bool true]) ?_ rfl ?_;(focus (simp[results,Tryz.results111,go_sem,p2a,p2b,p2c];done));rw[HT.out];refine⟨by rw[show min fl on1=fl by omega,show max fl on1=fl by omega,show decide (on1<fl)=false by simp;omega],?_⟩;exact k2.set3 HWS.out _ _ _)
 have q9:(c==9)=false:=by simpa using h9
 by_cases h10:c=10
 ·subst h10
  have hm:=HM.out;rw[if_neg h9,if_pos rfl]at hm;have ht:=HRES.out.trans (xS T x _ at_ mark n hm);rw[←HFE.out]at ht;have HT:=hid ht;clear HM HRES hm ht;by_cases ho:on2<fl
  ·have q:=dT ho
   go_enter Tryz.func111,Tryz.ntmps111;go_upto_region 1 with fail;change Code.wp _ _ _ _ (w.alloc (.cells #[.int .i64 0,.int .i64 0,.bool false] 228));rw[←HW0.out,←HWS.out];obtain⟨p0a,p0b,p0c,_,_,_⟩:=HBW.out.three;go_wp2_with fail;refine(HFL.out _ (HK0.out)).mono ?_;rintro e w1 ⟨rfl,k1'⟩;have k1:=Kp.trans (HK0.out) k1';have HB1:=hid (Bx.kp HBW.out k1');clear k1';obtain⟨p1a,p1b,p1c,_,_,_⟩:=HB1.out.three;go_wp2_with fail;refine(vA n _ hn1 hn2).mono ?_;rintro e w' ⟨rfl,rfl⟩;rw[HBK.out];go_wp2_with fail;refine(HO2.out _ (k1)).mono ?_;rintro e w2 ⟨rfl,k2'⟩;have k2:=Kp.trans (k1) k2';have HB2:=hid (Bx.kp HB1.out k2');clear k2';obtain⟨p2a,p2b,p2c,_,_,_⟩:=HB2.out.three;go_wp2_with fail
   all_goals
    first
    |(refine bodyPost_ret (v:=.tuple #[.agg #[.int .i64 on2,.int .i64 fl,.bool true],.bool true]) ?_ rfl ?_;(focus (simp[results,Tryz.results111,go_sem,p2a,p2b,p2c];done));rw[HT.out];refine⟨by rw[show min fl on2=on2 by omega,show max fl on2=fl by omega,show decide (on2<fl)=true by simp;omega],?_⟩;exact k2.set3 HWS.out _ _ _)
  ·have q:=dF ho
   go_enter Tryz.func111,Tryz.ntmps111;go_upto_region 1 with fail;change Code.wp _ _ _ _ (w.alloc (.cells #[.int .i64 0,.int .i64 0,.bool false] 228));rw[←HW0.out,←HWS.out];obtain⟨p0a,p0b,p0c,_,_,_⟩:=HBW.out.three;go_wp2_with fail;refine(HFL.out _ (HK0.out)).mono ?_;rintro e w1 ⟨rfl,k1'⟩;have k1:=Kp.trans (HK0.out) k1';have HB1:=hid (Bx.kp HBW.out k1');clear k1';obtain⟨p1a,p1b,p1c,_,_,_⟩:=HB1.out.three;go_wp2_with fail;refine(vA n _ hn1 hn2).mono ?_;rintro e w' ⟨rfl,rfl⟩;rw[HBK.out];go_wp2_with fail;refine(HO2.out _ (k1)).mono ?_;rintro e w2 ⟨rfl,k2'⟩;have k2:=Kp.trans (k1) k2';have HB2:=hid (Bx.kp HB1.out k2');clear k2';obtain⟨p2a,p2b,p2c,_,_,_⟩:=HB2.out.three;go_wp2_with fail
   all_goals
    first
    |(refine bodyPost_ret (v:=.tuple #[.agg #[.int .i64 fl,.int .i64 on2,.bool false],.bool true]) ?_ rfl ?_;(focus (simp[results,Tryz.results111,go_sem,p2a,p2b,p2c];done));rw[HT.out];refine⟨by rw[show min fl on2=fl by omega,show max fl on2=on2 by omega,show decide (on2<fl)=false by simp;omega],?_⟩;exact k2.set3 HWS.out _ _ _)
    |(refine bodyPost_ret (v:=.tuple #[.agg #[.int .i64 fl,.int .i64 fl,.bool false],.bool true]) ?_ rfl ?_;(focus (simp[results,Tryz.results111,go_sem,p2a,p2b,p2c];done));rw[HT.out];refine⟨by rw[show min fl on2=fl by omega,show max fl on2=fl by omega,show decide (on2<fl)=false by simp;omega],?_⟩;exact k2.set3 HWS.out _ _ _)
 have q10:(c==10)=false:=by simpa using h10
 by_cases h11:c=11
 ·subst h11
  have hm:=HM.out;rw[if_neg h9,if_neg h10,if_pos rfl]at hm;have ht:=HRES.out.trans (xS T x _ at_ mark n hm);rw[←HFE.out]at ht;have HT:=hid ht;clear HM HRES hm ht;by_cases ho:wd1<fl
  ·have q:=dT ho
   go_enter Tryz.func111,Tryz.ntmps111;go_upto_region 1 with fail;change Code.wp _ _ _ _ (w.alloc (.cells #[.int .i64 0,.int .i64 0,.bool false] 228));rw[←HW0.out,←HWS.out];obtain⟨p0a,p0b,p0c,_,_,_⟩:=HBW.out.three;go_wp2_with fail;refine(HFL.out _ (HK0.out)).mono ?_;rintro e w1 ⟨rfl,k1'⟩;have k1:=Kp.trans (HK0.out) k1';have HB1:=hid (Bx.kp HBW.out k1');clear k1';obtain⟨p1a,p1b,p1c,_,_,_⟩:=HB1.out.three;go_wp2_with fail;refine(HW1.out _ (k1)).mono ?_;rintro e w2 ⟨rfl,k2'⟩;have k2:=Kp.trans (k1) k2';have HB2:=hid (Bx.kp HB1.out k2');clear k2';obtain⟨p2a,p2b,p2c,_,_,_⟩:=HB2.out.three;go_wp2_with fail
   all_goals
    first
    |(refine bodyPost_ret (v:=.tuple #[.agg #[.int .i64 wd1,.int .i64 fl,.bool true],.bool true]) ?_ rfl ?_;(focus (simp[results,Tryz.results111,go_sem,p2a,p2b,p2c];done));rw[HT.out];refine⟨by rw[show min fl wd1=wd1 by omega,show max fl wd1=fl by omega,show decide (wd1<fl)=true by simp;omega],?_⟩;exact k2.set3 HWS.out _ _ _)
  ·have q:=dF ho
   go_enter Tryz.func111,Tryz.ntmps111;go_upto_region 1 with fail;change Code.wp _ _ _ _ (w.alloc (.cells #[.int .i64 0,.int .i64 0,.bool false] 228));rw[←HW0.out,←HWS.out];obtain⟨p0a,p0b,p0c,_,_,_⟩:=HBW.out.three;go_wp2_with fail;refine(HFL.out _ (HK0.out)).mono ?_;rintro e w1 ⟨rfl,k1'⟩;have k1:=Kp.trans (HK0.out) k1';have HB1:=hid (Bx.kp HBW.out k1');clear k1';obtain⟨p1a,p1b,p1c,_,_,_⟩:=HB1.out.three;go_wp2_with fail;refine(HW1.out _ (k1)).mono ?_;rintro e w2 ⟨rfl,k2'⟩;have k2:=Kp.trans (k1) k2';have HB2:=hid (Bx.kp HB1.out k2');clear k2';obtain⟨p2a,p2b,p2c,_,_,_⟩:=HB2.out.three;go_wp2_with fail
   all_goals
    first
    |(refine bodyPost_ret (v:=.tuple #[.agg #[.int .i64 fl,.int .i64 wd1,.bool false],.bool true]) ?_ rfl ?_;(focus (simp[results,Tryz.results111,go_sem,p2a,p2b,p2c];done));rw[HT.out];refine⟨by rw[show min fl wd1=fl by omega,show max fl wd1=wd1 by omega,show decide (wd1<fl)=false by simp;omega],?_⟩;exact k2.set3 HWS.out _ _ _)
    |(refine bodyPost_ret (v:=.tuple #[.agg #[.int .i64 fl,.int .i64 fl,.bool false],.bool true]) ?_ rfl ?_;(focus (simp[results,Tryz.results111,go_sem,p2a,p2b,p2c];done));rw[HT.out];refine⟨by rw[show min fl wd1=fl by omega,show max fl wd1=fl by omega,show decide (wd1<fl)=false by simp;omega],?_⟩;exact k2.set3 HWS.out _ _ _)
 have q11:(c==11)=false:=by simpa using h11
 by_cases h12:c=12
 ·subst h12
  have hm:=HM.out;rw[if_neg h9,if_neg h10,if_neg h11,if_pos rfl]at hm;have ht:=HRES.out.trans (xS T x _ at_ mark n hm);rw[←HFE.out]at ht;have HT:=hid ht;clear HM HRES hm ht;by_cases ho:wd2<fl
  ·have q:=dT ho
   go_enter Tryz.func111,Tryz.ntmps111;go_upto_region 1 with fail;change Code.wp _ _ _ _ (w.alloc (.cells #[.int .i64 0,.int .i64 0,.bool false] 228));rw[←HW0.out,←HWS.out];obtain⟨p0a,p0b,p0c,_,_,_⟩:=HBW.out.three;go_wp2_with fail;refine(HFL.out _ (HK0.out)).mono ?_;rintro e w1 ⟨rfl,k1'⟩;have k1:=Kp.trans (HK0.out) k1';have HB1:=hid (Bx.kp HBW.out k1');clear k1';obtain⟨p1a,p1b,p1c,_,_,_⟩:=HB1.out.three;go_wp2_with fail;refine(vA n _ hn1 hn2).mono ?_;rintro e w' ⟨rfl,rfl⟩;rw[HBK.out];go_wp2_with fail;refine(HW2.out _ (k1)).mono ?_;rintro e w2 ⟨rfl,k2'⟩;have k2:=Kp.trans (k1) k2';have HB2:=hid (Bx.kp HB1.out k2');clear k2';obtain⟨p2a,p2b,p2c,_,_,_⟩:=HB2.out.three;go_wp2_with fail
   all_goals
    first
    |(refine bodyPost_ret (v:=.tuple #[.agg #[.int .i64 wd2,.int .i64 fl,.bool true],.bool true]) ?_ rfl ?_;(focus (simp[results,Tryz.results111,go_sem,p2a,p2b,p2c];done));rw[HT.out];refine⟨by rw[show min fl wd2=wd2 by omega,show max fl wd2=fl by omega,show decide (wd2<fl)=true by simp;omega],?_⟩;exact k2.set3 HWS.out _ _ _)
  ·have q:=dF ho
   go_enter Tryz.func111,Tryz.ntmps111;go_upto_region 1 with fail;change Code.wp _ _ _ _ (w.alloc (.cells #[.int .i64 0,.int .i64 0,.bool false] 228));rw[←HW0.out,←HWS.out];obtain⟨p0a,p0b,p0c,_,_,_⟩:=HBW.out.three;go_wp2_with fail;refine(HFL.out _ (HK0.out)).mono ?_;rintro e w1 ⟨rfl,k1'⟩;have k1:=Kp.trans (HK0.out) k1';have HB1:=hid (Bx.kp HBW.out k1');clear k1';obtain⟨p1a,p1b,p1c,_,_,_⟩:=HB1.out.three;go_wp2_with fail;refine(vA n _ hn1 hn2).mono ?_;rintro e w' ⟨rfl,rfl⟩;rw[HBK.out];go_wp2_with fail;refine(HW2.out _ (k1)).mono ?_;rintro e w2 ⟨rfl,k2'⟩;have k2:=Kp.trans (k1) k2';have HB2:=hid (Bx.kp HB1.out k2');clear k2';obtain⟨p2a,p2b,p2c,_,_,_⟩:=HB2.out.three;go_wp2_with fail
   all_goals
    first
    |(refine bodyPost_ret (v:=.tuple #[.agg #[.int .i64 fl,.int .i64 wd2,.bool false],.bool true]) ?_ rfl ?_;(focus (simp[results,Tryz.results111,go_sem,p2a,p2b,p2c];done));rw[HT.out];refine⟨by rw[show min fl wd2=fl by omega,show max fl wd2=wd2 by omega,show decide (wd2<fl)=false by simp;omega],?_⟩;exact k2.set3 HWS.out _ _ _)
    |(refine bodyPost_ret (v:=.tuple #[.agg #[.int .i64 fl,.int .i64 fl,.bool false],.bool true]) ?_ rfl ?_;(focus (simp[results,Tryz.results111,go_sem,p2a,p2b,p2c];done));rw[HT.out];refine⟨by rw[show min fl wd2=fl by omega,show max fl wd2=fl by omega,show decide (wd2<fl)=false by simp;omega],?_⟩;exact k2.set3 HWS.out _ _ _)
 have q12:(c==12)=false:=by simpa using h12
 by_cases h13:c=13
 ·subst h13
  have hm:=HM.out;rw[if_neg h9,if_neg h10,if_neg h11,if_neg h12,if_pos rfl]at hm;have ht:=HRES.out.trans (xS T x _ at_ mark n hm);rw[←HFE.out]at ht;have HT:=hid ht;clear HM HRES hm ht;by_cases ho:(N:Int)<fl
  ·have q:=dT ho
   go_enter Tryz.func111,Tryz.ntmps111;go_upto_region 1 with fail;change Code.wp _ _ _ _ (w.alloc (.cells #[.int .i64 0,.int .i64 0,.bool false] 228));rw[←HW0.out,←HWS.out];obtain⟨p0a,p0b,p0c,_,_,_⟩:=HBW.out.three;go_wp2_with fail;refine(HFL.out _ (HK0.out)).mono ?_;rintro e w1 ⟨rfl,k1'⟩;have k1:=Kp.trans (HK0.out) k1';have HB1:=hid (Bx.kp HBW.out k1');clear k1';obtain⟨p1a,p1b,p1c,_,_,_⟩:=HB1.out.three;go_wp2_with fail;refine(HSZ.out _ (k1)).mono ?_;rintro e w2 ⟨rfl,k2'⟩;have k2:=Kp.trans (k1) k2';have HB2:=hid (Bx.kp HB1.out k2');clear k2';obtain⟨p2a,p2b,p2c,_,_,_⟩:=HB2.out.three;go_wp2_with fail
   all_goals
    first
    |(refine bodyPost_ret (v:=.tuple #[.agg #[.int .i64 (N:Int),.int .i64 fl,.bool true],.bool true]) ?_ rfl ?_;(focus (simp[results,Tryz.results111,go_sem,p2a,p2b,p2c];done));rw[HT.out];refine⟨by rw[show min fl (N:Int)=(N:Int) by omega,show max fl (N:Int)=fl by omega,show decide ((N:Int)<fl)=true by simp;omega],?_⟩;exact k2.set3 HWS.out _ _ _)
  ·have q:=dF ho
   go_enter Tryz.func111,Tryz.ntmps111;go_upto_region 1 with fail;change Code.wp _ _ _ _ (w.alloc (.cells #[.int .i64 0,.int .i64 0,.bool false] 228));rw[←HW0.out,←HWS.out];obtain⟨p0a,p0b,p0c,_,_,_⟩:=HBW.out.three;go_wp2_with fail;refine(HFL.out _ (HK0.out)).mono ?_;rintro e w1 ⟨rfl,k1'⟩;have k1:=Kp.trans (HK0.out) k1';have HB1:=hid (Bx.kp HBW.out k1');clear k1';obtain⟨p1a,p1b,p1c,_,_,_⟩:=HB1.out.three;go_wp2_with fail;refine(HSZ.out _ (k1)).mono ?_;rintro e w2 ⟨rfl,k2'⟩;have k2:=Kp.trans (k1) k2';have HB2:=hid (Bx.kp HB1.out k2');clear k2';obtain⟨p2a,p2b,p2c,_,_,_⟩:=HB2.out.three;go_wp2_with fail
   all_goals
    first
    |(refine bodyPost_ret (v:=.tuple #[.agg #[.int .i64 fl,.int .i64 (N:Int),.bool false],.bool true]) ?_ rfl ?_;(focus (simp[results,Tryz.results111,go_sem,p2a,p2b,p2c];done));rw[HT.out];refine⟨by rw[show min fl (N:Int)=fl by omega,show max fl (N:Int)=(N:Int) by omega,show decide ((N:Int)<fl)=false by simp;omega],?_⟩;exact k2.set3 HWS.out _ _ _)
    |(refine bodyPost_ret (v:=.tuple #[.agg #[.int .i64 fl,.int .i64 fl,.bool false],.bool true]) ?_ rfl ?_;(focus (simp[results,Tryz.results111,go_sem,p2a,p2b,p2c];done));rw[HT.out];refine⟨by rw[show min fl (N:Int)=fl by omega,show max fl (N:Int)=fl by omega,show decide ((N:Int)<fl)=false by simp;omega],?_⟩;exact k2.set3 HWS.out _ _ _)
 have q13:(c==13)=false:=by simpa using h13
 by_cases h14:c=14
 ·subst h14
  have hm:=HM.out;rw[if_neg h9,if_neg h10,if_neg h11,if_neg h12,if_neg h13,if_pos rfl]at hm;have ht:=HRES.out.trans (xS T x _ at_ mark n hm);rw[←HFE.out]at ht;have HT:=hid ht;clear HM HRES hm ht;by_cases ho:0<fl
  ·have q:=dT ho
   go_enter Tryz.func111,Tryz.ntmps111;go_upto_region 1 with fail;change Code.wp _ _ _ _ (w.alloc (.cells #[.int .i64 0,.int .i64 0,.bool false] 228));rw[←HW0.out,←HWS.out];obtain⟨p0a,p0b,p0c,_,_,_⟩:=HBW.out.three;go_wp2_with fail;refine(HFL.out _ (HK0.out)).mono ?_;rintro e w1 ⟨rfl,k1'⟩;have k1:=Kp.trans (HK0.out) k1';have HB1:=hid (Bx.kp HBW.out k1');clear k1';obtain⟨p1a,p1b,p1c,_,_,_⟩:=HB1.out.three;go_wp2_with fail
   all_goals
    first
    |(refine bodyPost_ret (v:=.tuple #[.agg #[.int .i64 0,.int .i64 fl,.bool true],.bool true]) ?_ rfl ?_;(focus (simp[results,Tryz.results111,go_sem,p1a,p1b,p1c];done));rw[HT.out];refine⟨by rw[show min fl 0=0 by omega,show max fl 0=fl by omega,show decide (0<fl)=true by simp;omega],?_⟩;exact((k1.setCell (p:=⟨W,0,none⟩) (by rw[HWS.out];exact le_) _).setCell (p:=⟨W,1,none⟩) (by rw[HWS.out];exact le_) _).setCell (p:=⟨W,2,none⟩) (by rw[HWS.out];exact le_) _)
  ·have q:=dF ho
   go_enter Tryz.func111,Tryz.ntmps111;go_upto_region 1 with fail;change Code.wp _ _ _ _ (w.alloc (.cells #[.int .i64 0,.int .i64 0,.bool false] 228));rw[←HW0.out,←HWS.out];obtain⟨p0a,p0b,p0c,_,_,_⟩:=HBW.out.three;go_wp2_with fail;refine(HFL.out _ (HK0.out)).mono ?_;rintro e w1 ⟨rfl,k1'⟩;have k1:=Kp.trans (HK0.out) k1';have HB1:=hid (Bx.kp HBW.out k1');clear k1';obtain⟨p1a,p1b,p1c,_,_,_⟩:=HB1.out.three;go_wp2_with fail
   all_goals
    first
    |(refine bodyPost_ret (v:=.tuple #[.agg #[.int .i64 fl,.int .i64 0,.bool false],.bool true]) ?_ rfl ?_;(focus (simp[results,Tryz.results111,go_sem,p1a,p1b,p1c];done));rw[HT.out];refine⟨by rw[show min fl 0=fl by omega,show max fl 0=0 by omega,show decide (0<fl)=false by simp;omega],?_⟩;exact((k1.setCell (p:=⟨W,0,none⟩) (by rw[HWS.out];exact le_) _).setCell (p:=⟨W,1,none⟩) (by rw[HWS.out];exact le_) _).setCell (p:=⟨W,2,none⟩) (by rw[HWS.out];exact le_) _)
    |(refine bodyPost_ret (v:=.tuple #[.agg #[.int .i64 fl,.int .i64 fl,.bool false],.bool true]) ?_ rfl ?_;(focus (simp[results,Tryz.results111,go_sem,p1a,p1b,p1c];done));rw[HT.out];refine⟨by rw[show min fl 0=fl by omega,show max fl 0=fl by omega,show decide (0<fl)=false by simp;omega],?_⟩;exact((k1.setCell (p:=⟨W,0,none⟩) (by rw[HWS.out];exact le_) _).setCell (p:=⟨W,1,none⟩) (by rw[HWS.out];exact le_) _).setCell (p:=⟨W,2,none⟩) (by rw[HWS.out];exact le_) _)
 have q14:(c==14)=false:=by simpa using h14
 by_cases h15:c=15
 ·subst h15
  have hm:=HM.out;rw[if_neg h9,if_neg h10,if_neg h11,if_neg h12,if_neg h13,if_neg h14,if_pos (by omega)]at hm;have ht:=HRES.out.trans (xS T x _ at_ mark n hm);rw[←HFE.out]at ht;have HT:=hid ht;clear HM HRES hm ht;by_cases ho:mk<fl
  ·have q:=dT ho
   go_enter Tryz.func111,Tryz.ntmps111;go_upto_region 1 with fail;change Code.wp _ _ _ _ (w.alloc (.cells #[.int .i64 0,.int .i64 0,.bool false] 228));rw[←HW0.out,←HWS.out];obtain⟨p0a,p0b,p0c,_,_,_⟩:=HBW.out.three;go_wp2_with fail;refine(HFL.out _ (HK0.out)).mono ?_;rintro e w1 ⟨rfl,k1'⟩;have k1:=Kp.trans (HK0.out) k1';have HB1:=hid (Bx.kp HBW.out k1');clear k1';obtain⟨p1a,p1b,p1c,_,_,_⟩:=HB1.out.three;go_wp2_with fail;refine(HMK.out _ (k1)).mono ?_;rintro e w2 ⟨rfl,k2'⟩;have k2:=Kp.trans (k1) k2';have HB2:=hid (Bx.kp HB1.out k2');clear k2';obtain⟨p2a,p2b,p2c,_,_,_⟩:=HB2.out.three;go_wp2_with fail
   all_goals
    first
    |(refine bodyPost_ret (v:=.tuple #[.agg #[.int .i64 mk,.int .i64 fl,.bool true],.bool true]) ?_ rfl ?_;(focus (simp[results,Tryz.results111,go_sem,p2a,p2b,p2c];done));rw[HT.out];refine⟨by rw[show min fl mk=mk by omega,show max fl mk=fl by omega,show decide (mk<fl)=true by simp;omega],?_⟩;exact k2.set3 HWS.out _ _ _)
  ·have q:=dF ho
   go_enter Tryz.func111,Tryz.ntmps111;go_upto_region 1 with fail;change Code.wp _ _ _ _ (w.alloc (.cells #[.int .i64 0,.int .i64 0,.bool false] 228));rw[←HW0.out,←HWS.out];obtain⟨p0a,p0b,p0c,_,_,_⟩:=HBW.out.three;go_wp2_with fail;refine(HFL.out _ (HK0.out)).mono ?_;rintro e w1 ⟨rfl,k1'⟩;have k1:=Kp.trans (HK0.out) k1';have HB1:=hid (Bx.kp HBW.out k1');clear k1';obtain⟨p1a,p1b,p1c,_,_,_⟩:=HB1.out.three;go_wp2_with fail;refine(HMK.out _ (k1)).mono ?_;rintro e w2 ⟨rfl,k2'⟩;have k2:=Kp.trans (k1) k2';have HB2:=hid (Bx.kp HB1.out k2');clear k2';obtain⟨p2a,p2b,p2c,_,_,_⟩:=HB2.out.three;go_wp2_with fail
   all_goals
    first
    |(refine bodyPost_ret (v:=.tuple #[.agg #[.int .i64 fl,.int .i64 mk,.bool false],.bool true]) ?_ rfl ?_;(focus (simp[results,Tryz.results111,go_sem,p2a,p2b,p2c];done));rw[HT.out];refine⟨by rw[show min fl mk=fl by omega,show max fl mk=mk by omega,show decide (mk<fl)=false by simp;omega],?_⟩;exact k2.set3 HWS.out _ _ _)
    |(refine bodyPost_ret (v:=.tuple #[.agg #[.int .i64 fl,.int .i64 fl,.bool false],.bool true]) ?_ rfl ?_;(focus (simp[results,Tryz.results111,go_sem,p2a,p2b,p2c];done));rw[HT.out];refine⟨by rw[show min fl mk=fl by omega,show max fl mk=fl by omega,show decide (mk<fl)=false by simp;omega],?_⟩;exact k2.set3 HWS.out _ _ _)
 have q15:(c==15)=false:=by simpa using h15
 by_cases h16:c=16
 ·subst h16
  have hm:=HM.out;rw[if_neg h9,if_neg h10,if_neg h11,if_neg h12,if_neg h13,if_neg h14,if_pos (by omega)]at hm;have ht:=HRES.out.trans (xS T x _ at_ mark n hm);rw[←HFE.out]at ht;have HT:=hid ht;clear HM HRES hm ht;by_cases ho:mk<fl
  ·have q:=dT ho
   go_enter Tryz.func111,Tryz.ntmps111;go_upto_region 1 with fail;change Code.wp _ _ _ _ (w.alloc (.cells #[.int .i64 0,.int .i64 0,.bool false] 228));rw[←HW0.out,←HWS.out];obtain⟨p0a,p0b,p0c,_,_,_⟩:=HBW.out.three;go_wp2_with fail;refine(HFL.out _ (HK0.out)).mono ?_;rintro e w1 ⟨rfl,k1'⟩;have k1:=Kp.trans (HK0.out) k1';have HB1:=hid (Bx.kp HBW.out k1');clear k1';obtain⟨p1a,p1b,p1c,_,_,_⟩:=HB1.out.three;go_wp2_with fail;refine(HMK.out _ (k1)).mono ?_;rintro e w2 ⟨rfl,k2'⟩;have k2:=Kp.trans (k1) k2';have HB2:=hid (Bx.kp HB1.out k2');clear k2';obtain⟨p2a,p2b,p2c,_,_,_⟩:=HB2.out.three;go_wp2_with fail
   all_goals
    first
    |(refine bodyPost_ret (v:=.tuple #[.agg #[.int .i64 mk,.int .i64 fl,.bool true],.bool true]) ?_ rfl ?_;(focus (simp[results,Tryz.results111,go_sem,p2a,p2b,p2c];done));rw[HT.out];refine⟨by rw[show min fl mk=mk by omega,show max fl mk=fl by omega,show decide (mk<fl)=true by simp;omega],?_⟩;exact k2.set3 HWS.out _ _ _)
  ·have q:=dF ho
   go_enter Tryz.func111,Tryz.ntmps111;go_upto_region 1 with fail;change Code.wp _ _ _ _ (w.alloc (.cells #[.int .i64 0,.int .i64 0,.bool false] 228));rw[←HW0.out,←HWS.out];obtain⟨p0a,p0b,p0c,_,_,_⟩:=HBW.out.three;go_wp2_with fail;refine(HFL.out _ (HK0.out)).mono ?_;rintro e w1 ⟨rfl,k1'⟩;have k1:=Kp.trans (HK0.out) k1';have HB1:=hid (Bx.kp HBW.out k1');clear k1';obtain⟨p1a,p1b,p1c,_,_,_⟩:=HB1.out.three;go_wp2_with fail;refine(HMK.out _ (k1)).mono ?_;rintro e w2 ⟨rfl,k2'⟩;have k2:=Kp.trans (k1) k2';have HB2:=hid (Bx.kp HB1.out k2');clear k2';obtain⟨p2a,p2b,p2c,_,_,_⟩:=HB2.out.three;go_wp2_with fail
   all_goals
    first
    |(refine bodyPost_ret (v:=.tuple #[.agg #[.int .i64 fl,.int .i64 mk,.bool false],.bool true]) ?_ rfl ?_;(focus (simp[results,Tryz.results111,go_sem,p2a,p2b,p2c];done));rw[HT.out];refine⟨by rw[show min fl mk=fl by omega,show max fl mk=mk by omega,show decide (mk<fl)=false by simp;omega],?_⟩;exact k2.set3 HWS.out _ _ _)
    |(refine bodyPost_ret (v:=.tuple #[.agg #[.int .i64 fl,.int .i64 fl,.bool false],.bool true]) ?_ rfl ?_;(focus (simp[results,Tryz.results111,go_sem,p2a,p2b,p2c];done));rw[HT.out];refine⟨by rw[show min fl mk=fl by omega,show max fl mk=fl by omega,show decide (mk<fl)=false by simp;omega],?_⟩;exact k2.set3 HWS.out _ _ _)
 have q16:(c==16)=false:=by simpa using h16
 have hm:=HM.out;rw[if_neg h9,if_neg h10,if_neg h11,if_neg h12,if_neg h13,if_neg h14,if_neg (by omega)]at hm;have ht:=HRES.out.trans (takeO_none T x c at_ mark n hm);have HT:=hid ht;clear HM HRES hm ht h9 h10 h11 h12 h13 h14 h15 h16;go_enter Tryz.func111,Tryz.ntmps111;go_upto_region 1 with fail;change Code.wp _ _ _ _ (w.alloc (.cells #[.int .i64 0,.int .i64 0,.bool false] 228));rw[←HW0.out,←HWS.out];obtain⟨p0a,p0b,p0c,_,_,_⟩:=HBW.out.three;go_wp2_with fail;refine(HFL.out _ (HK0.out)).mono ?_;rintro e w1 ⟨rfl,k1'⟩;have k1:=Kp.trans (HK0.out) k1';have HB1:=hid (Bx.kp HBW.out k1');clear k1';obtain⟨p1a,p1b,p1c,_,_,_⟩:=HB1.out.three;go_wp2_with fail;refine bodyPost_ret (v:=.tuple #[.agg #[.int .i64 0,.int .i64 0,.bool false],.bool false]) (by simp[results,Tryz.results111,go_sem,p1a,p1b,p1c]) rfl ?_;rw[HT.out];exact⟨rfl,((k1.setCell (p:=⟨W,0,none⟩) (by rw[HWS.out];exact le_) _).setCell (p:=⟨W,1,none⟩) (by rw[HWS.out];exact le_) _).setCell (p:=⟨W,2,none⟩) (by rw[HWS.out];exact le_) _⟩
end Go.Proofs.YtociefdcccokjaaGreat

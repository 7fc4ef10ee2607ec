/-
  Lemmas for TopMacro. Conditions: each states its own.
-/
import Derived.RangeFuncNested
import Derived.RangeFuncBound
import Derived.RangeFuncBox
import Derived.RangeFuncCalls
import Derived.RangeFuncLeaves
import Derived.Shelf.Abstract
import Derived.Shelf.RegionOpen
import Derived.WalkKit
import Derived.OwnWalkIn
import Derived.TacticsInMore
import Derived.LoopNIn
import Derived.LoopIn
import Derived.Maps.AppendAt
import Derived.Test.YtociefdcccokjaaGreatG19
import Derived.Test.YtociefdcccokjaaGreatG21
set_option maxHeartbeats 6400000
set_option maxRecDepth 100000
namespace Go.Proofs.YtociefdcccokjaaGreat
open Go.RowKit Go.Lib
theorem vA (n:Int)(w:World)(_h1: -9223372036854775808≤n)(_h2:n≤9223372036854775807):
 Calls Tryz.prog 145 #[.int .i64 n] w fun e w'=>e=.returned (.int .i64 (backN n))∧w=w':=by
 by_cases h:n< -1099511627776
 ·have e:backN n=1099511627776:=by unfold backN;omega
  rw[e];clear e;go_enter Tryz.func145,Tryz.ntmps145;go_wp2_with fail;go_ret;exact⟨rfl,rfl⟩
 ·have e:backN n= -n:=by unfold backN;omega
  rw[e];clear e;go_enter Tryz.func145,Tryz.ntmps145;go_wp2_with fail;go_ret;exact⟨rfl,rfl⟩
theorem wordsN_step (T:TM)(x:Tx)(s:Int)(k:Nat)(a:Int):wordsN T x s (k+1) a=wordsN T x s k (x.word T a s):=rfl
theorem words_any (X G R g:Nat)(x:Tx)(T:TM)(at_ n:Int)(w:World)(h:TxAt w X G R g x)(hT:TabAt w g T)(_h1: -9223372036854775808≤n)(_h2:n≤9223372036854775807):
 Calls Tryz.prog 146 #[.pointer (some ⟨X,0,none⟩),.int .i64 at_,.int .i64 n] w fun e w'=>e=.returned (.int .i64 (xR T x at_ n))∧Kp w w':=by
 have hlen:=h.ok.len;obtain⟨HSZ,HWD⟩:=hid2 (fun(wx:World) (kx:Kp w wx)=>yY X G R g x wx (h.kp kx)) (fun(wx:World) (a s:Int) (kx:Kp w wx)=>textWord_any X G R g x T a s wx (h.kp kx) (hT.kp kx));obtain⟨N,hN⟩:∃N,N=x.l.length:=⟨_,rfl⟩;rw[←hN]at HSZ hlen;obtain⟨st,hst⟩:∃s:Int,s=if n<0 then -1 else 1:=⟨_,rfl⟩;obtain⟨m,hm⟩:∃m:Int,m=if n<0 then -(max n (-(N:Int) - 1))else n:=⟨_,rfl⟩;obtain⟨M,hM⟩:∃M:Int,M=min m (N+1):=⟨_,rfl⟩;obtain⟨v,hv⟩:∃v,v=xR T x at_ n:=⟨_,rfl⟩;have hval:v=wordsN T x st M.toNat at_:=by
  rw[hv];unfold xR;by_cases hn:n<0
  ·rw[if_pos hn,hst,if_pos hn,hM,hm,if_pos hn,hN]
  ·rw[if_neg hn,hst,if_neg hn,hM,hm,if_neg hn,hN]
 rw[←hv];have hMb:M≤65537:=by omega
 obtain⟨HVAL,HST,HM,HMM,HN⟩:=hid5 hval hst hm hM hN;clear h hT hN hv hval hst hm hM;go_enter Tryz.func146,Tryz.ntmps146;go_upto_if 9 with fail;go_cut [7,2] (fun s u wx=>s=.int .i64 st∧u=.int .i64 m∧Kp w wx)
 case first=>
  by_cases hn:n<0
  ·have q1:=dT hn
   have e1:st= -1:=by rw[HST.out,if_pos hn]
   subst e1;go_wp2_with fail;refine(HSZ.out w (Kp.refl w)).mono ?_;rintro e w1 ⟨rfl,k1⟩;by_cases hc:n< -(N:Int) - 1
   ·have e2:m=(N:Int)+1:=by rw[HM.out,if_pos hn];omega
    have HE2:=hid e2;clear e2;go_wp2_with fail;go_meet;exact⟨rfl,by rw[show m= -(-(N:Int) - 1) by have:=HE2.out;omega],k1⟩
   ·have e2:m= -n:=by rw[HM.out,if_pos hn];omega
    have HE2:=hid e2;clear e2;go_wp2_with fail;go_meet;exact⟨rfl,by rw[HE2.out],k1⟩
  ·have q1:=dF hn
   have e1:st=1:=by rw[HST.out,if_neg hn]
   have e2:m=n:=by rw[HM.out,if_neg hn]
   subst e1;have HE2:=hid e2;clear e2;go_wp2_with fail;go_meet;exact⟨rfl,by rw[HE2.out],Kp.refl w⟩
 case rest=>
  obtain⟨rfl,rfl,kc⟩:=hcut;go_upto_region 4 with fail;go_cut [21,22] (fun u z wx=>u=.int .i64 M∧z=.int .i64 0∧Kp w wx)
  case first=>
   go_wp2_with fail;refine(HSZ.out wc kc).mono ?_;rintro e w1 ⟨rfl,k1⟩;go_wp2_with fail
   all_goals
    go_meet;exact⟨by first|(rw[show M=(N:Int)+1 by have:=HMM.out;omega])|(rw[show M=m by have:=HMM.out;omega]),rfl,kc.trans k1⟩
  case rest=>
   obtain⟨rfl,rfl,k1⟩:=hcut
   rename_i w1
   obtain⟨K,hK⟩:∃K,K=M.toNat:=⟨_,rfl⟩;obtain⟨HK,HVA⟩:=hid2 hK (show v=wordsN T x st K at_ by rw[hK];exact HVAL.out);clear hK;go_wp2_with fail;go_loopw [22,1] (fun i u wr=>∃(k:Nat) (a':Int),i=.int .i64 (k:Int)∧u=.int .i64 a'∧k≤K∧Kp w wr∧Hid (v=wordsN T x st (K - k) a')) (fun i _ _=>K - (intOf i).toNat)
   case atStart=>exact⟨0,at_,rfl,rfl,Nat.zero_le _,k1,HVA.out⟩
   case round=>
    obtain⟨k,a',rfl,rfl,hk,kr,hval⟩:=hrel;by_cases hlt:(k:Int)<M
    ·have q1:=dT hlt
     have hkK:k<K:=by have:=HK.out;omega
     have hkb:k≤65537:=by omega
     have HVN:=hid (show v=wordsN T x st (K - (k+1)) (x.word T a' st) by
      have h:=hval.out;rw[show K - k=(K - (k+1))+1 by omega,wordsN_step]at h;exact h)
     clear hval;obtain⟨a2,ha2⟩:∃a2,a2=x.word T a' st:=⟨_,rfl⟩;have hw:=HWD.out wr a' st kr;rw[←ha2]at hw HVN;have HW:=hid hw;clear hw ha2;go_wp2_with fail;refine HW.out.mono ?_;rintro e w2 ⟨rfl,k2⟩;have k3:=kr.trans k2;clear k2;go_wp2_with fail;go_roundw
     case rel=>exact⟨k+1,a2,by go_num,rfl,by omega,k3,HVN.out⟩
     case measure=>simp[intOf];omega
    ·have q1:=dF hlt
     have HV2:=hid (show v=a' by
      have h:=hval.out;rw[show K - k=0 by have:=HK.out;omega]at h;exact h)
     go_wp2_with fail;go_ret;exact⟨zC HV2.out.symm,kr⟩
theorem ret_ib {a b:Int}{x y:Bool}(h:a=b)(h2:x=y):Ending.returned (.tuple #[.int .i64 a,.bool x])=.returned (.tuple #[.int .i64 b,.bool y]):=by rw[h,h2]
theorem move_any (X G R g:Nat)(x:Tx)(T:TM)(c at_ n:Int)(w:World)(h:TxAt w X G R g x)(hT:TabAt w g T)(hn1: -9223372036854775808≤n)(hn2:n≤9223372036854775807):
 Calls Tryz.prog 110 #[.pointer (some ⟨X,0,none⟩),.int .i64 c,.int .i64 at_,.int .i64 n] w fun e w'=>e=.returned (.tuple #[.int .i64 (moveO T x c at_ n).1,.bool (moveO T x c at_ n).2])∧Kp w w':=by
 have hlen:=h.ok.len;obtain⟨fl,hfl⟩:∃v,v=x.floor at_:=⟨_,rfl⟩;obtain⟨bk,hbk⟩:∃v,backN n=v:=⟨_,rfl⟩;obtain⟨on1,hon1⟩:∃v,v=x.on at_ n:=⟨_,rfl⟩;obtain⟨on2,hon2⟩:∃v,v=x.on at_ bk:=⟨_,rfl⟩;obtain⟨wd1,hwd1⟩:∃v,v=xR T x fl n:=⟨_,rfl⟩;obtain⟨wd2,hwd2⟩:∃v,v=xR T x fl bk:=⟨_,rfl⟩;obtain⟨N,hN⟩:∃N,N=x.l.length:=⟨_,rfl⟩;have hbb: -9223372036854775808≤bk∧bk≤9223372036854775807:=by unfold backN at hbk;omega
 obtain⟨HFL,HO1,HO2,HW1,HW2,HSZ⟩:=hid6 (fun(wx:World) (kx:Kp w wx)=>zR X G R g x wx (h.kp kx) at_) (fun(wx:World) (kx:Kp w wx)=>yU X G R g x wx (h.kp kx) at_ n) (fun(wx:World) (kx:Kp w wx)=>yU X G R g x wx (h.kp kx) at_ bk) (fun(wx:World) (kx:Kp w wx)=>words_any X G R g x T fl n wx (h.kp kx) (hT.kp kx) hn1 hn2) (fun(wx:World) (kx:Kp w wx)=>words_any X G R g x T fl bk wx (h.kp kx) (hT.kp kx) hbb.1 hbb.2) (fun(wx:World) (kx:Kp w wx)=>yY X G R g x wx (h.kp kx));rw[←hfl]at HFL;rw[←hon1]at HO1;rw[←hon2]at HO2;rw[←hwd1]at HW1;rw[←hwd2]at HW2;rw[←hN]at HSZ hlen;have HBK:=hid hbk;obtain⟨va,hva⟩:∃v,v=(moveO T x c at_ n).1:=⟨_,rfl⟩;obtain⟨vb,hvb⟩:∃v,v=(moveO T x c at_ n).2:=⟨_,rfl⟩;rw[←hva,←hvb];have HM:Hid ((va,vb)=if c=3 then(on1,true)else if c=4 then(on2,true)else if c=5 then(wd1,true)else if c=6 then(wd2,true)else if c=7 then(0,true)else if c=8 then((N:Int),true)else(fl,false)):=by
  show _=_;rw[hva,hvb,hon1,hon2,hwd1,hwd2,hN,hfl,←hbk];rfl
 clear h hT hfl hbk hon1 hon2 hwd1 hwd2 hN hbb hva hvb;by_cases h3:c=3
 ·subst h3
  have hm:=HM.out;simp at hm;obtain⟨hm1,hm2⟩:=hm;obtain⟨HM1,HM2⟩:=hid2 hm1 hm2;clear HM hm1 hm2;go_enter Tryz.func110,Tryz.ntmps110;go_wp2_with fail;refine(HO1.out _ (Kp.refl w)).mono ?_;rintro e w1 ⟨rfl,k1'⟩;have k1:=Kp.trans (Kp.refl w) k1';clear k1';go_wp2_with fail;go_ret2;exact⟨ret_ib HM1.out.symm HM2.out.symm,k1⟩
 have q3:(c==3)=false:=by simpa using h3
 by_cases h4:c=4
 ·subst h4
  have hm:=HM.out;simp at hm;obtain⟨hm1,hm2⟩:=hm;obtain⟨HM1,HM2⟩:=hid2 hm1 hm2;clear HM hm1 hm2;go_enter Tryz.func110,Tryz.ntmps110;go_wp2_with fail;refine(vA n _ hn1 hn2).mono ?_;rintro e w' ⟨rfl,rfl⟩;rw[HBK.out];go_wp2_with fail;refine(HO2.out _ (Kp.refl w)).mono ?_;rintro e w1 ⟨rfl,k1'⟩;have k1:=Kp.trans (Kp.refl w) k1';clear k1';go_wp2_with fail;go_ret2;exact⟨ret_ib HM1.out.symm HM2.out.symm,k1⟩
 have q4:(c==4)=false:=by simpa using h4
 by_cases h5:c=5
 ·subst h5
  have hm:=HM.out;simp at hm;obtain⟨hm1,hm2⟩:=hm;obtain⟨HM1,HM2⟩:=hid2 hm1 hm2;clear HM hm1 hm2;go_enter Tryz.func110,Tryz.ntmps110;go_wp2_with fail;refine(HFL.out _ (Kp.refl w)).mono ?_;rintro e w1 ⟨rfl,k1'⟩;have k1:=Kp.trans (Kp.refl w) k1';clear k1';go_wp2_with fail;refine(HW1.out _ (k1)).mono ?_;rintro e w2 ⟨rfl,k2'⟩;have k2:=Kp.trans (k1) k2';clear k2';go_wp2_with fail;go_ret2;exact⟨ret_ib HM1.out.symm HM2.out.symm,k2⟩
 have q5:(c==5)=false:=by simpa using h5
 by_cases h6:c=6
 ·subst h6
  have hm:=HM.out;simp at hm;obtain⟨hm1,hm2⟩:=hm;obtain⟨HM1,HM2⟩:=hid2 hm1 hm2;clear HM hm1 hm2;go_enter Tryz.func110,Tryz.ntmps110;go_wp2_with fail;refine(HFL.out _ (Kp.refl w)).mono ?_;rintro e w1 ⟨rfl,k1'⟩;have k1:=Kp.trans (Kp.refl w) k1';clear k1';go_wp2_with fail;refine(vA n _ hn1 hn2).mono ?_;rintro e w' ⟨rfl,rfl⟩;rw[HBK.out];go_wp2_with fail;refine(HW2.out _ (k1)).mono ?_;rintro e w2 ⟨rfl,k2'⟩;have k2:=Kp.trans (k1) k2';clear k2';go_wp2_with fail;go_ret2;exact⟨ret_ib HM1.out.symm HM2.out.symm,k2⟩
 have q6:(c==6)=false:=by simpa using h6
 by_cases h7:c=7
 ·subst h7
  have hm:=HM.out;simp at hm;obtain⟨hm1,hm2⟩:=hm;obtain⟨HM1,HM2⟩:=hid2 hm1 hm2;clear HM hm1 hm2;go_enter Tryz.func110,Tryz.ntmps110;go_wp2_with fail;go_ret2;exact⟨ret_ib HM1.out.symm HM2.out.symm,Kp.refl w⟩
 have q7:(c==7)=false:=by simpa using h7
 by_cases h8:c=8
 ·subst h8
  have hm:=HM.out;simp at hm;obtain⟨hm1,hm2⟩:=hm;obtain⟨HM1,HM2⟩:=hid2 hm1 hm2;clear HM hm1 hm2;go_enter Tryz.func110,Tryz.ntmps110;go_wp2_with fail;refine(HSZ.out _ (Kp.refl w)).mono ?_;rintro e w1 ⟨rfl,k1'⟩;have k1:=Kp.trans (Kp.refl w) k1';clear k1';go_wp2_with fail;go_ret2;exact⟨ret_ib HM1.out.symm HM2.out.symm,k1⟩
 have q8:(c==8)=false:=by simpa using h8
 have hm:=HM.out;rw[if_neg h3,if_neg h4,if_neg h5,if_neg h6,if_neg h7,if_neg h8]at hm
 injection hm with hm1 hm2
 obtain⟨HM1,HM2⟩:=hid2 hm1 hm2;clear HM hm1 hm2 h3 h4 h5 h6 h7 h8;go_enter Tryz.func110,Tryz.ntmps110;go_wp2_with fail;refine(HFL.out _ (Kp.refl w)).mono ?_;rintro e w1 ⟨rfl,k1'⟩;have k1:=Kp.trans (Kp.refl w) k1';clear k1';go_wp2_with fail;go_ret2;exact⟨ret_ib HM1.out.symm HM2.out.symm,k1⟩
def RetSw (o:Option (Sp×List Int))(w:World)(e:Ending)(w':World):Prop:=
 match o with
 |some (s,l)=>∃A n c,e=.returned (.tuple #[.agg #[.int .i64 s.frm,.int .i64 s.tt,.bool s.ahead],.slice A n c,.bool true])∧Ru w' (From w.heap.size) A n c l∧Kp w w'
 |none=>e=.returned (.tuple #[.agg #[.int .i64 0,.int .i64 0,.bool false],.slice none 0 0,.bool false])∧Kp w w'
theorem part_len (x:Tx)(a b:Int):(x.part a b).length≤x.l.length:=by
 unfold Tx.part cutM
 split
 ·rw[List.length_drop,List.length_take];omega
 ·simp
theorem swap_any (X G R g:Nat)(x:Tx)(at_:Int)(w:World)(h:TxAt w X G R g x):
 Calls Tryz.prog 122 #[.pointer (some ⟨X,0,none⟩),.int .i64 at_] w (RetSw (swapO x at_) w):=by
 have hok:=h.ok;have hlen:=hok.len;obtain⟨N,hN⟩:∃N,N=x.l.length:=⟨_,rfl⟩;obtain⟨fl,hfl⟩:∃v,v=x.floor at_:=⟨_,rfl⟩;obtain⟨a,ha⟩:∃v,v=swapAt x at_:=⟨_,rfl⟩;obtain⟨f,hf⟩:∃v,v=x.on a (-1):=⟨_,rfl⟩;obtain⟨t,ht⟩:∃v,v=x.on a 1:=⟨_,rfl⟩;obtain⟨bk,hbk⟩:∃v,v=x.on fl (-1):=⟨_,rfl⟩;have hfb:0≤f∧f≤N:=by rw[hf,hN];exact hok.ix.on_in a (-1)
 have htb:0≤t∧t≤N:=by rw[ht,hN];exact hok.ix.on_in a 1
 have hae:a=if fl=(N:Int)then bk else fl:=by rw[ha,hbk,hfl,hN];rfl
 have hab:0≤a∧a≤N:=by
  have h1:0≤fl∧fl≤N:=by rw[hfl,hN];exact hok.ix.floor_in at_
  have h2:0≤bk∧bk≤N:=by rw[hbk,hN];exact hok.ix.on_in fl (-1)
  rw[hae];split<;>assumption
 obtain⟨res,hres⟩:∃v,v=swapO x at_:=⟨_,rfl⟩;have hre:res=if f=a∨t=a then none else some (⟨f,t,false⟩,x.part a t++x.part f a):=by rw[hres,hf,ht,ha];rfl
 rw[←hres];obtain⟨HFL,HSZ,HOB,HOF,HOT⟩:=hid5 (fun(wx:World) (kx:Kp w wx)=>zR X G R g x wx (h.kp kx) at_) (fun(wx:World) (kx:Kp w wx)=>yY X G R g x wx (h.kp kx)) (fun(wx:World) (kx:Kp w wx)=>yU X G R g x wx (h.kp kx) fl (-1)) (fun(wx:World) (kx:Kp w wx)=>yU X G R g x wx (h.kp kx) a (-1)) (fun(wx:World) (kx:Kp w wx)=>yU X G R g x wx (h.kp kx) a 1);rw[←hfl]at HFL;rw[←hN]at HSZ;rw[←hbk]at HOB;rw[←hf]at HOF;rw[←ht]at HOT;obtain⟨HP1,HP2⟩:=hid2 (fun(wx:World) (kx:Kp w wx)=>textPart_own X G R g x wx (h.kp kx) a t hab.1 (by rw[←hN];exact htb.2)) (fun(wx:World) (kx:Kp w wx)=>textPart_own X G R g x wx (h.kp kx) f a hfb.1 (by rw[←hN];exact hab.2));have hp1:=part_len x a t;have hp2:=part_len x f a;obtain⟨y1,hy1⟩:∃y,y=x.part a t:=⟨_,rfl⟩;obtain⟨y2,hy2⟩:∃y,y=x.part f a:=⟨_,rfl⟩;rw[←hy1]at HP1 hre hp1;rw[←hy2]at HP2 hre hp2;obtain⟨HL1,HL2,HRE,HAE⟩:=hid4 (show y1.length≤65536 by omega) (show y2.length≤65536 by omega) hre hae;clear h hok hlen hN hfl ha hf ht hbk hae hres hre hp1 hp2 hy1 hy2 hfb htb hab;go_enter Tryz.func122,Tryz.ntmps122;go_upto_region 1 with fail;obtain⟨W,hW⟩:∃W,W=w.heap.size:=⟨_,rfl⟩;have HWS:=hid hW;have k0:=(Kp.refl w).alloc (.cells #[.int .i64 0,.int .i64 0,.bool false] 228);have bw:=Bx.new w #[.int .i64 0,.int .i64 0,.bool false] 228;rw[←hW]at bw⊢;obtain⟨HB0,HK0⟩:=hid2 bw k0;clear bw k0 hW;generalize(w.alloc (.cells #[.int .i64 0,.int .i64 0,.bool false] 228))=w0 at *;go_wp2_with fail;refine(HFL.out _ HK0.out).mono ?_;rintro e w1 ⟨rfl,k1'⟩;have k1:=HK0.out.trans k1';have HB1:=hid (HB0.out.kp k1');clear k1';go_wp2_with fail;refine(HSZ.out _ k1).mono ?_;rintro e w2 ⟨rfl,k2'⟩;have k2:=k1.trans k2';have HB2:=hid (HB1.out.kp k2');clear k2' HB1 HB0 k1;go_upto_if 15 with fail;go_cut [1] (fun u wx=>u=.int .i64 a∧Kp w2 wx)
 case first=>
  by_cases hc:fl=(N:Int)
  ·have q:(fl==(N:Int))=true:=by simpa using hc
   have HA:=hid (show a=bk by rw[HAE.out,if_pos hc]);clear hc;go_wp2_with fail;refine(HOB.out _ k2).mono ?_;rintro e w3 ⟨rfl,k3⟩;go_wp2_with fail;go_meet;exact⟨by rw[HA.out],k3⟩
  ·have q:(fl==(N:Int))=false:=by simpa using hc
   have HA:=hid (show a=fl by rw[HAE.out,if_neg hc]);clear hc;go_wp2_with fail;go_meet;exact⟨by rw[HA.out],Kp.refl _⟩
 case rest=>
  obtain⟨rfl,kc⟩:=hcut;have k3:=k2.trans kc;have HB3:=hid (HB2.out.kp kc);clear k2 kc HB2 HAE;go_wp2_with fail;refine(HOF.out _ k3).mono ?_;rintro e w4 ⟨rfl,k4'⟩;have k4:=k3.trans k4';have HB4:=hid (HB3.out.kp k4');clear k4' HB3 k3;go_wp2_with fail;refine(HOT.out _ k4).mono ?_;rintro e w5 ⟨rfl,k5'⟩;have k5:=k4.trans k5';have HB5:=hid (HB4.out.kp k5');clear k5' HB4 k4;obtain⟨p0,p1,p2,_,_,_⟩:=HB5.out.three;by_cases c1:f=a
  ·have HR:=hid (show res=none by rw[HRE.out,if_pos (.inl c1)])
   have q1:(f==a)=true:=by simpa using c1
   clear c1 HRE;go_wp2_with fail;refine bodyPost_ret (v:=.tuple #[.agg #[.int .i64 0,.int .i64 0,.bool false],.slice none 0 0,.bool false]) (by simp[results,Tryz.results122,go_sem,p0,p1,p2]) rfl ?_;rw[HR.out];exact⟨rfl,((k5.setCell (p:=⟨W,0,none⟩) (by rw[HWS.out];exact le_) _).setCell (p:=⟨W,1,none⟩) (by rw[HWS.out];exact le_) _).setCell (p:=⟨W,2,none⟩) (by rw[HWS.out];exact le_) _⟩
  ·have q1:(f==a)=false:=by simpa using c1
   by_cases c2:t=a
   ·have HR:=hid (show res=none by rw[HRE.out,if_pos (.inr c2)])
    have q2:(t==a)=true:=by simpa using c2
    clear c1 c2 HRE;go_wp2_with fail;refine bodyPost_ret (v:=.tuple #[.agg #[.int .i64 0,.int .i64 0,.bool false],.slice none 0 0,.bool false]) (by simp[results,Tryz.results122,go_sem,p0,p1,p2]) rfl ?_;rw[HR.out];exact⟨rfl,((k5.setCell (p:=⟨W,0,none⟩) (by rw[HWS.out];exact le_) _).setCell (p:=⟨W,1,none⟩) (by rw[HWS.out];exact le_) _).setCell (p:=⟨W,2,none⟩) (by rw[HWS.out];exact le_) _⟩
   ·have HR:=hid (show res=some (⟨f,t,false⟩,y1++y2) by rw[HRE.out,if_neg (by rintro(h|h);exact c1 h;exact c2 h)])
    have q2:(t==a)=false:=by simpa using c2
    clear c1 c2 HRE;go_wp2_with fail;refine(HP1.out _ k5).mono ?_;rintro e w6 ⟨A6,n6,c6,rfl,ho6,k6'⟩;have k6:=k5.trans k6';have HB6:=hid (HB5.out.kp k6');have hz5:=k5.size;have hn6:n6≤65536:=by have:=ho6.len;rw[zG]at this;have:=HL1.out;omega
    obtain⟨HOW,HO6⟩:=hid2 (show zB A6=some W→False from fun e=>by have:=(ho6.lt W e).1;have:=HB5.out.lt;omega) (ho6.more hz5);clear k6' HB5 k5 ho6 p0 p1 p2;go_wp2_with fail;refine(HP2.out _ k6).mono ?_;rintro e w7 ⟨A7,n7,c7,rfl,ho7,k7'⟩;have k7:=k6.trans k7';have HB7:=hid (HB6.out.kp k7');have HO6':=hid (HO6.out.kp k7');have hn7:n7≤65536:=by have:=ho7.len;rw[zG]at this;have:=HL2.out;omega
    have hr7:=ho7.sl.any;have hz7:=k7.size;clear k7' HB6 k6 ho7 HO6;obtain⟨HR7,HK7,HWL⟩:=hid3 (show Ru w7 Any A7 n7 c7 y2 from hr7) k7 HB7.out.lt;clear k7 hr7;obtain⟨p0,p1,p2,_,_,_⟩:=HB7.out.three;go_wp2_with (at_builtin;refine zA _ rfl _ _ _ rfl w.heap.size 21 _ 1 4 Tryz.underlying41 yF rfl (by omega) A6 n6 c6 (R32 y1) rfl HO6'.out Any A7 n7 c7 (R32 y2) rfl HR7.out (zQ _) (by simp only[maxLen];omega) (by omega) hz7 ?_;intro A8 c8 w8 hown8 hg8 hat8;have hrow:zB A6≠some W:=(fun e=>HOW.out e);have HB8:=hid (HB7.out.grown hg8 hrow);have HK8:=hid (HK7.out.grown hg8 (fun j e=>(HO6'.out.lt j e).1));obtain⟨q0,q1',q2',f0,f1,f2⟩:=HB8.out.three);rw[zM]at hown8;have hr8:zB A8≠some W:=by
     rcases hat8 with e|e
     ·rw[e];exact hrow
     ·rw[e];intro e2;injection e2 with e2;have:=HWL.out;omega
    refine bodyPost_ret (v:=.tuple #[.agg #[.int .i64 f,.int .i64 t,.bool false],.slice A8 (n6+n7) c8,.bool true]) (by simp[results,Tryz.results122,go_sem,q0,q1',q2']) rfl ?_;rw[HR.out];refine⟨A8,n6+n7,c8,rfl,((((hown8.setCell (p:=⟨W,0,none⟩) hr8 _).setCell (p:=⟨W,1,none⟩) hr8 _).setCell (p:=⟨W,2,none⟩) hr8 _)).sl,?_⟩;exact((HK8.out.setCell (p:=⟨W,0,none⟩) (by rw[HWS.out];exact le_) _).setCell (p:=⟨W,1,none⟩) (by rw[HWS.out];exact le_) _).setCell (p:=⟨W,2,none⟩) (by rw[HWS.out];exact le_) _
section
open Go.RowKit Go.Shelf
attribute [local go_sem] Oper.semAt_some
theorem Sl.below {W W':World}{n₀ size:Nat}{A:Option Addr}{n c:Nat}{vs:List Value}(h:Sl W (To n₀) size A n c vs)(k:Below n₀ W W'):Sl W' (To n₀) size A n c vs:=
 Sl.frame h k.size fun i hi _=>k.block i hi
def downs (len k:Nat):List Nat:=((List.range len).drop k).reverse
theorem downs_all (len:Nat):downs len len=[]:=by simp[downs]
theorem downs_succ (len k:Nat)(h:k<len):downs len k=downs len (k+1)++[k]:=by
 unfold downs;have :(List.range len).drop k=k::(List.range len).drop (k+1):=by
  rw[List.drop_eq_getElem_cons (by simpa using h)];simp
 rw[this,List.reverse_cons]
theorem downs_length (len k:Nat):(downs len k).length=len - k:=by simp[downs]
def KpB (n₀ Bs:Nat)(W W':World):Prop:=Below n₀ W W'∧W'.heap[Bs]? =W.heap[Bs]?
theorem KpB.refl {n₀ Bs:Nat}(W:World):KpB n₀ Bs W W:=⟨Below.refl _ _,rfl⟩
theorem KpB.trans {n₀ Bs:Nat}{A B C:World}(h:KpB n₀ Bs A B)(k:KpB n₀ Bs B C):KpB n₀ Bs A C:=⟨h.1.trans k.1,k.2.trans h.2⟩
theorem KpB.b {n₀ Bs:Nat}{w:World}(hn:n₀≤w.heap.size)(hB:Bs<w.heap.size)(W:World)(l:Nat)(o o':Obj)(hl:w.heap.size≤l)(h:W.heap[l]? =some o)(h1:o.isCells=false)(h2:o.isWalk=false):KpB n₀ Bs W (W.putObj l o'):=
 ⟨belowK_b hn W l o o' hl h h1 h2,World.putObj_heap_other (by omega)⟩
theorem KpB.bx {n₀ Bs:Nat}{W W':World}(h:KpB n₀ Bs W W'){cs:Array Value}{t:TypeId}(hb:Bx W Bs cs t):Bx W' Bs cs t:=h.2.trans hb
theorem back1_in (F:Fence)(n:Nat)(h7:F.fn 178)(hro:F.round=none)(hn:1≤n)(l Bs n₀:Nat)(A:Option Addr)(len cap:Nat)(vs:List Value)(J Jx:List (Fin len)→World→Prop)
 (hY:∀pre x W,J pre W→pre.length<len→YieldAt F (n - 1) Tryz.prog l #[.int .i64 (x.1:Int),vs[x.1]?.getD undef] W fun e W'=>
  (e=.returned (.bool true)∧J (pre++[x]) W'∧KpB n₀ Bs W W')∨(e=.returned (.bool false)∧Jx (pre++[x]) W'))
 (W:World)(hBs:Bx W Bs #[.slice A len cap] 37)(hS:Sl W (To n₀) 1 A len cap vs)(h0:J [] W):
 CallsIn F n Tryz.prog 178 #[.func (.yield l) #[] #[],.pointer (some ⟨Bs,0,none⟩)] W fun e W'=>(∃v,e=.returned v)∧
  ((∃ys:List (Fin len),ys.map (·.1)=downs len 0∧J ys W')∨(∃pre:List (Fin len),(∃k,k≤len∧pre.map (·.1)=downs len k)∧Jx pre W')):=by
 have hcl:=hS.cap;have hle:=hS.le;unfold maxLen at hcl;refine callsIn_of_wp Tryz.func178 rfl h7 ?_ hro;simp only[Tryz.ntmps178,List.size_toArray,List.length_cons,List.length_nil,Nat.reduceAdd,Nat.reduceSub,Array.replicate_succ,Array.replicate_zero,List.push_toArray,List.append_toArray,List.nil_append,List.cons_append];have hb1:=hBs.cell 0
 gi_wp2
 clear hb1
 gi_loopw [3] (fun i wr=>∃(k:Nat) (pre:List (Fin len)),k≤len∧i=.int .i64 ((k:Int) - 1)∧pre.map (·.1)=downs len k∧J pre wr∧KpB n₀ Bs W wr)
  (fun i _=>(intOf i+1).toNat)
 case atStart=>exact⟨len,[],le_,rfl,by rw[downs_all];rfl,h0,KpB.refl _⟩
 case round=>
  obtain⟨k,pre,hk,rfl,hpre,hJs,hnx⟩:=hrel;have hpl:pre.length=len - k:=by rw[←downs_length,←hpre,List.length_map]
  cases k with
  |zero=>
   gi_wp2
   go_end0;exact⟨⟨_,rfl⟩,.inl ⟨pre,hpre,hJs⟩⟩
  |succ k=>
   have hk1:((k+1:Nat):Int) - 1=(k:Int):=by omega
   rw[hk1];have hlt:k<len:=by omega
   obtain⟨ad,u,rfl,hu,hc⟩:=(Sl.below hS hnx.1).get hlt;have hb2:=(hnx.bx hBs).cell 0;obtain⟨fn,tmps,assign,body,hy,hR⟩:=hY _ ⟨k,hlt⟩ wr hJs (by omega);dsimp only at hy;rw[hu,Option.getD_some]at hy;have hdn:=downs_succ len k hlt;have HP:Hid ((pre++[(⟨k,hlt⟩:Fin len)]).map (fun x=>x.1)=downs len k):=by show _=_;rw[hdn,List.map_append,hpre];rfl
   clear hdn hpre hpl hk1 hu
   gi_wp2
   refine hR.mono ?_;rintro e W3 (⟨rfl,hJ3,hk3⟩|⟨rfl,hJx3⟩)
   ·gi_wp2
    go_roundw
    case rel=>exact⟨k,_,by omega,rfl,HP.out,hJ3,hnx.trans hk3⟩
    case measure=>simp[intOf]
   ·gi_wp2
    refine bodyPost_ret (results_none rfl _ _ _) rfl ?_;exact⟨⟨_,rfl⟩,.inr ⟨_,⟨k,by omega,HP.out⟩,hJx3⟩⟩
theorem back_in (F:Fence)(n:Nat)(h6:F.fn 142)(hro:F.round=none)(a:Option Addr)(len cap:Nat)(w:World):
 CallsIn F n Tryz.prog 142 #[.slice a len cap] w fun e w'=>e=.returned (.func (.func 178) #[] #[.pointer (some ⟨w.heap.size,0,none⟩)])∧w'=w.alloc (.cells #[.slice a len cap] 37):=by
 refine callsIn_of_wp Tryz.func142 rfl h6 ?_ hro;simp only[Tryz.ntmps142,List.size_toArray,List.length_cons,List.length_nil,Nat.reduceAdd,Nat.reduceSub,Array.replicate_succ,Array.replicate_zero,List.push_toArray,List.append_toArray,List.nil_append,List.cons_append]
 gi_wp2
 go_ret;exact⟨rfl,rfl⟩
theorem back_stops (F:Fence)(n:Nat)(h7:F.fn 178)(hro:F.round=none)(hn:1≤n)(Bs n₀:Nat)(A:Option Addr)(len cap:Nat)(vs:List Value)(w:World)(hn₀:n₀≤w.heap.size)
 (hBs:Bx w Bs #[.slice A len cap] 37)(hS:Sl w (To n₀) 1 A len cap vs):
 SeqStopsK F n Tryz.prog 178 #[.pointer (some ⟨Bs,0,none⟩)] (fun x:Fin len=>#[Value.int .i64 (x.1:Int),vs[x.1]?.getD undef]) (KpB n₀ Bs) (fun ys=>ys.map (·.1)=downs len 0)
  (fun pre=>∃k,k≤len∧pre.map (·.1)=downs len k) len w:=fun l J Jx W hW _ _ hY h0=>
 back1_in F n h7 hro hn l Bs n₀ A len cap vs J Jx hY W ((hW.block _ hBs.lt).trans hBs) (Sl.below hS (hW.mono hn₀)) h0
end
section
open Go.RowKit Go.Shelf
attribute [local go_sem] Oper.semAt_some
def AllI (s:Nat)(w:World)(L:List (List Int))(pre:List Nat)(W:World):Prop:=
 (∃A c vs,Bx W (s+1) #[.slice A pre.length c] 37∧OTx W (s+3) (From (s+3)) A pre.length c (pre.map fun i=>L[i]?.getD []) vs)∧Below s w W∧s+3≤W.heap.size
theorem allI_own {α:Type}(f:α→Nat)(s B:Nat)(w:World)(L:List (List Int))(hs:s≤w.heap.size)(hB:s≤B):OwnFrom B (fun(pre:List α) W=>AllI s w L (pre.map f) W):=by
 rintro pre X Y row ⟨⟨A,c,vs,hb,ho⟩,hbel,hz⟩ hg hr;have hr':∀r,row=some r→∃o:Obj,X.heap[r]? =some o∧o.isCells=false:=fun r e=>(hr r e).2
 exact⟨⟨A,c,vs,hb.cells_kept hg hr',ho.cells_kept hg hr'⟩,ownFrom_below (β:=Unit) hs hB () X Y row hbel hg hr,Nat.le_trans hz hg.size⟩
theorem downs_map (L:List (List Int)):(downs L.length 0).map (fun i=>L[i]?.getD [])=L.reverse:=by
 unfold downs;rw[List.drop_zero,List.map_reverse]
 congr 1
 apply List.ext_getElem
 ·simp
 ·intro i h1 h2
  rw[List.getElem_map,List.getElem_range,List.getElem?_eq_getElem h2];rfl
theorem all_end {w W w2 w4:World}{s B p c1 n3 c3 c4:Nat}{A1 A3 A4:Option Addr}{Lp:List (List Int)}{x:List Int}{vs1:List Value}(hbel:Below s w W)(hsz:s+3≤W.heap.size)
 (ho1:OTx W (s+3) (From (s+3)) A1 p c1 Lp vs1)(hb1:Bx W (s+1) #[.slice A1 p c1] 37)(hk3:Kp W.drew w2)(hr3:Ru w2 (From W.drew.heap.size) A3 n3 c3 x)
 (hown4:Own w4 (s+3) 41 1 A4 (p+1) c4 (vs1++[.slice A3 n3 c3]))(hg4:(w2.alloc (.cells #[.slice A3 n3 c3] 41)).grownBy w4 (zB A1))
 (hat4:zB A4=zB A1∨zB A4=some (w2.alloc (.cells #[.slice A3 n3 c3] 41)).heap.size):
 KeepsFrom B W (w4.setCell ⟨s+1,0,none⟩ (.slice A4 (p+1) c4))∧KpB s (s+2) W (w4.setCell ⟨s+1,0,none⟩ (.slice A4 (p+1) c4))∧
  Bx (w4.setCell ⟨s+1,0,none⟩ (.slice A4 (p+1) c4)) (s+1) #[.slice A4 (p+1) c4] 37∧
  OTx (w4.setCell ⟨s+1,0,none⟩ (.slice A4 (p+1) c4)) (s+3) (From (s+3)) A4 (p+1) c4 (Lp++[x]) (vs1++[.slice A3 n3 c3])∧
  Below s w (w4.setCell ⟨s+1,0,none⟩ (.slice A4 (p+1) c4))∧s+3≤(w4.setCell ⟨s+1,0,none⟩ (.slice A4 (p+1) c4)).heap.size:=by
 have hka:Kp W (w2.alloc (.cells #[.slice A3 n3 c3] 41)):=((Kp.refl W).drew.trans hk3).alloc _;have ho2:=ho1.kp hka;have hb2:=hb1.kp hka;have hrow:∀k,zB A1=some k→s+3≤k:=fun k h=>(ho1.1.lt k h).1
 have hlt1:∀k,zB A1=some k→k<W.heap.size:=fun k h=>(ho1.1.lt k h).2
 have hr4:Ru (w2.alloc (.cells #[.slice A3 n3 c3] 41)) (fun g=>From (s+3) g∧zB A1≠some g) A3 n3 c3 x:=
  Sl.alloc (hr3.weak fun k _ hk=>⟨by unfold From at hk⊢;simp at hk;omega,fun e=>by have:=hlt1 k e;unfold From at hk;simp at hk;omega⟩) _
 have ho4:=ho2.app hr4 hown4 hg4 hat4;have hb4:Bx w4 (s+1) #[.slice A1 p c1] 37:=hb2.grown hg4 fun e=>by have:=hrow _ e;omega
 have hz:W.heap.size≤w4.heap.size:=Nat.le_trans hka.size hg4.size;have hbelW:Below s W (w4.setCell ⟨s+1,0,none⟩ (.slice A4 (p+1) c4)):=((hka.below.mono (by omega)).grown hg4 (by have:=hka.size;omega) fun k e=>by have:=hrow k e;omega).setCell (p:=⟨s+1,0,none⟩) (by simp) _;refine⟨(((hka.others.trans (KeepsOthers.of_grownBy hg4 ho2.1.is_cells)).trans (KeepsOthers.setCell _ _ _)).from B),⟨hbelW,?_⟩,hb4.set 0 _,ho4.far (by unfold From;omega) (by omega) _ _,hbel.trans hbelW,by simpa[World.setCell]using Nat.le_trans hsz hz⟩;rw[Below.heap_setCell _ _ _ _ (by simp),hg4.block (s+2) (by have:=hka.size;omega) (fun e=>by have:=hrow _ e.symm;omega),hka.block (s+2) (by omega)]
theorem allI_mk {s k c:Nat}{w W:World}{L:List (List Int)}{pre:List (Fin k)}{i:Fin k}{A:Option Addr}{vs:List Value}(hb:Bx W (s+1) #[.slice A (pre.length+1) c] 37)
 (ho:OTx W (s+3) (From (s+3)) A (pre.length+1) c ((pre.map (·.1)).map (fun i=>L[i]?.getD [])++[L[i.1]?.getD []]) vs)(hbel:Below s w W)(hz:s+3≤W.heap.size):AllI s w L ((pre++[i]).map (·.1)) W:=by
 have e:((pre++[i]).map (fun x=>x.1)).length=pre.length+1:=by simp
 refine⟨⟨A,c,vs,?_,?_⟩,hbel,hz⟩
 ·rw[e];exact hb
 ·rw[e]
  have e2:((pre++[i]).map (fun x=>x.1)).map (fun i=>L[i]?.getD [])=(pre.map (·.1)).map (fun i=>L[i]?.getD [])++[L[i.1]?.getD []]:=by simp
  rw[e2];exact ho
theorem past_all (F:Nat→Prop)(A B:Option Addr)(n c m d:Nat)(at_:Int)(L:List (List Int))(w:World)(hT:Txs w F F A n c L)(hn:n≤2000)(hL:∀x∈L,x.length≤1099511627776):
 Calls Tryz.prog 105 #[.agg #[.slice A n c,.int .i64 at_,.slice B m d]] w fun e w'=>∃A' n' c',e=.returned (.slice A' n' c')∧Txs w' (From w.heap.size) (From w.heap.size) A' n' c' L.reverse∧Kp w w':=by
 have HL:=hid hL;have hlen:=hT.len;obtain⟨vs,hS,_,hX⟩:=hT;obtain⟨HXX,HLEN⟩:=hid2 hX hlen;clear hL hX hlen;have hS':Sl w (To w.heap.size) 1 A n c vs:=Sl.weak hS fun k hk _=>hk
 refine(callsIn_wide (n:=3)).1 ?_;refine callsIn_of_wp_marks Tryz.func105 rfl trivial ?_ rfl;simp only[Tryz.ntmps105,List.size_toArray,List.length_cons,List.length_nil,Nat.reduceAdd,Nat.reduceSub,Array.replicate_succ,Array.replicate_zero,List.push_toArray,List.append_toArray,List.nil_append,List.cons_append]
 gi_wp2_with (refine⟨trivial,?_⟩;gi_at_call 142;refine(back_in Fence.wide _ trivial rfl _ _ _ _).mono ?_;rintro e w' ⟨rfl,rfl⟩)
 have bP:=Bx.new w #[.slice A n c,.int .i64 at_,.slice B m d] 64;have bO:=Bx.new (w.alloc (.cells #[.slice A n c,.int .i64 at_,.slice B m d] 64)) #[.slice none 0 0] 37;have bS:=Bx.new ((w.alloc (.cells #[.slice A n c,.int .i64 at_,.slice B m d] 64)).alloc (.cells #[.slice none 0 0] 37)) #[.slice A n c] 37;rw[World.size_alloc]at bO bS;rw[World.size_alloc]at bS;have hB0:Below w.heap.size w (((w.alloc (.cells #[.slice A n c,.int .i64 at_,.slice B m d] 64)).alloc (.cells #[.slice none 0 0] 37)).alloc (.cells #[.slice A n c] 37)):=((((Kp.refl w).alloc _).alloc _).alloc _);have hS0:=Sl.kp hS' hB0;have bO':=bO.alloc (.cells #[.slice A n c] 37);generalize hw0:((w.alloc (.cells #[.slice A n c,.int .i64 at_,.slice B m d] 64)).alloc (.cells #[.slice none 0 0] 37)).alloc (.cells #[.slice A n c] 37)=w0 at *;have hsz:w0.heap.size=w.heap.size+3:=by rw[←hw0];simp
 clear hw0 bO bP;refine wpIn_rangeFunc_ownG rfl (by omega) (gf:=178) (lb:=#[.pointer (some ⟨w.heap.size+2,0,none⟩)]) rfl trivial (enters_of Tryz.func178 (by kernel_rfl) rfl)
  (back_stops Fence.wide _ trivial rfl (by omega) (w.heap.size+2) w.heap.size A n c vs w0 (by omega) bS hS0) KpB.trans (KpB.b (by omega) (by omega)) (Below.refl _ _) (fun _=>rfl)
  (fun pre W=>AllI w.heap.size w L (pre.map (·.1)) W) (fun _ _ _=>False) (allI_own _ _ _ _ _ le_ (by omega)) (fun _ _ _ _ _ hs _ _=>hs)
  ⟨⟨none,0,[],bO',OTx.nil _ _ _⟩,hB0,by omega⟩
  (fun x=>{tmps:=#[.agg #[.slice A n c,.int .i64 at_,.slice B m d],.pointer (some ⟨w.heap.size,0,none⟩),.slice none 0 0,.pointer (some ⟨w.heap.size+1,0,none⟩),undef,vs[x.1]?.getD undef,.pointer (some ⟨w.heap.size,0,none⟩),.slice A n c,.func (.func 178) #[] #[.pointer (some ⟨w.heap.size+2,0,none⟩)],.int .i64 (x.1:Int),vs[x.1]?.getD undef,undef,undef,undef,undef,undef,undef],defers:=[]}) ?assign ?body ?done ?stop
 case assign=>
  intro l x W K hK
  gi_wp2
  exact hK
 case body=>
  rintro l pre ⟨i,hi⟩ W ⟨⟨A1,c1,vs1,hb1,ho1⟩,hbel,hz⟩ hlt;rw[List.length_map]at hb1 ho1;have hd:1≤3 - 1 - 1:=by omega
  have hmx:Tryz.prog.follows .mixedOrders=true:=by kernel_rfl
  have hx0:L[i]? =some (L[i]?.getD []):=by rw[List.getElem?_eq_getElem (by rw[HLEN.out];exact hi)];rfl
  obtain⟨B2,m2,d2,hv,hr2⟩:=HXX.out i _ hx0;have hxl:=HL.out _ (List.mem_of_getElem? hx0);clear hx0;obtain⟨x,hx⟩:∃x,x=L[i]?.getD []:=⟨_,rfl⟩;rw[←hx]at hr2 hxl;have HXE:=hid hx;clear hx;have hr2':=Ru.kp hr2 hbel;dsimp only;rw[hv,Option.getD_some];have hp1:=hb1.cell 0;have hf1:=hb1.frozen 0
  gi_wp2
  have leaf:∀{w2 w4:World} {A3 A4:Option Addr} {n3 c3 c4:Nat},Kp W.drew w2→Ru w2 (From W.drew.heap.size) A3 n3 c3 x→Own w4 (w.heap.size+3) 41 1 A4 (pre.length+1) c4 (vs1++[.slice A3 n3 c3])→
   (w2.alloc (.cells #[.slice A3 n3 c3] 41)).grownBy w4 (zB A1)→(zB A4=zB A1∨zB A4=some (w2.alloc (.cells #[.slice A3 n3 c3] 41)).heap.size)→
   KeepsFrom w0.heap.size W (w4.setCell ⟨w.heap.size+1,0,none⟩ (.slice A4 (pre.length+1) c4))∧KpB w.heap.size (w.heap.size+2) W (w4.setCell ⟨w.heap.size+1,0,none⟩ (.slice A4 (pre.length+1) c4))∧AllI w.heap.size w L ((pre++[(⟨i,hi⟩:Fin n)]).map (fun x=>x.1)) (w4.setCell ⟨w.heap.size+1,0,none⟩ (.slice A4 (pre.length+1) c4)):=
   fun hk3 hr3 hown4 hg4 hat4=>by
    obtain⟨e1,e2,e3,e4,e5,e6⟩:=all_end (B:=w0.heap.size) hbel hz ho1 hb1 hk3 hr3 hown4 hg4 hat4;rw[HXE.out]at e4;exact⟨e1,e2,allI_mk e3 e4 e5 e6⟩
  refine wpIn_region_any hmx ?_;change wpAnyIn _ _ _ _ _ _ _ _ _ (World.drew _);refine wpAnyIn_ready (rs:=[0,1]) (by kernel_rfl) (by simp) ?_;refine AllReadyIn.cons rfl (fun K hK=>?_) ?_
  ·go_simp
   refine hK _ _ ?_;clear hK K;refine wpAnyIn_ready (rs:=[1]) (by kernel_rfl) (by simp) ?_;refine AllReadyIn.cons rfl (fun K hK=>?_) ?_
   ·go_simp
    refine hK _ _ ?_;clear hK K;refine wpAnyIn_ready (rs:=[2]) (by kernel_rfl) (by simp) ?_;refine AllReadyIn.cons rfl (fun K hK=>?_) ?_
    ·go_simp
     gi_wp2_with (refine⟨trivial,?_⟩;gi_at_call 41;refine(CallsIn.inRound l (callsIn_wide.2 (zH F B2 m2 d2 x _ (Sl.drew hr2') (by have:=hr2.len;omega)))).mono ?_;rintro e w2 ⟨A3,n3,c3,rfl,hr3,hk3⟩;have hb3:=(Bx.drew hb1).kp hk3;have hp3:=hb3.cell 0;have hf3:=hb3.frozen 0;have hb3a:=hb3.alloc (.cells #[.slice A3 n3 c3] 41);have hp3a:=hb3a.cell 0;have hf3a:=hb3a.frozen 0)
     refine wpAnyIn_ready (rs:=[3]) (by kernel_rfl) (by simp) ?_;refine AllReadyIn.cons rfl (fun K hK=>?_) ?_
     ·go_simp
      refine hK _ _ ?_;clear hK K;refine wpAnyIn_ready (rs:=[4]) (by kernel_rfl) (by simp) ?_;refine AllReadyIn.cons rfl (fun K hK=>?_) ?_
      ·refine yH _ (by rfl) (.tmp 11) (.tmp 14) _ (by rfl) (w.heap.size+3) 41 _ 1 24 Tryz.underlying37 vC rfl (by omega) A1 pre.length c1 vs1 (by rfl) ((ho1.kp ((Kp.refl W).drew.trans hk3)).1.alloc _) Any _ 1 1 [.slice A3 n3 c3] (by rfl) (Sl.new_ w2 #[.slice A3 n3 c3] _ 1 1 _ rfl trivial (by simp) (by omega)) (by simp[Value.oneCell']) (by simp only[maxLen];omega) (by omega) (by have:=hk3.size;simp at this;simp;omega) ?_
       intro A4 c4 w4 hown4 hg4 hat4;have hb4:Bx w4 (w.heap.size+1) #[.slice A1 pre.length c1] 37:=(hb3.alloc _).grown hg4 fun e=>by have:=(ho1.1.lt _ e).1;omega
       have hp4:=hb4.cell 0;have hf4:=hb4.frozen 0;refine hK _ _ ?_;clear hK K;refine wpAnyIn_ready (rs:=[5]) (by kernel_rfl) (by simp) ?_;refine AllReadyIn.cons rfl (fun K hK=>?_) ?_
       ·go_simp
        refine hK _ _ ?_;clear hK K;refine wpAnyIn_done (by kernel_rfl) ?_ _
        gi_wp2
        exact leaf hk3 hr3 hown4 hg4 hat4
       exact AllReadyIn.nil
      exact AllReadyIn.nil
     exact AllReadyIn.nil
    exact AllReadyIn.nil
   exact AllReadyIn.nil
  refine AllReadyIn.cons rfl (fun K hK=>?_) ?_
  ·go_simp
   refine hK _ _ ?_;clear hK K;refine wpAnyIn_ready (rs:=[0,2]) (by kernel_rfl) (by simp) ?_;refine AllReadyIn.cons rfl (fun K hK=>?_) ?_
   ·go_simp
    refine hK _ _ ?_;clear hK K;refine wpAnyIn_ready (rs:=[2]) (by kernel_rfl) (by simp) ?_;refine AllReadyIn.cons rfl (fun K hK=>?_) ?_
    ·go_simp
     gi_wp2_with (refine⟨trivial,?_⟩;gi_at_call 41;refine(CallsIn.inRound l (callsIn_wide.2 (zH F B2 m2 d2 x _ (Sl.drew hr2') (by have:=hr2.len;omega)))).mono ?_;rintro e w2 ⟨A3,n3,c3,rfl,hr3,hk3⟩;have hb3:=(Bx.drew hb1).kp hk3;have hp3:=hb3.cell 0;have hf3:=hb3.frozen 0;have hb3a:=hb3.alloc (.cells #[.slice A3 n3 c3] 41);have hp3a:=hb3a.cell 0;have hf3a:=hb3a.frozen 0)
     refine wpAnyIn_ready (rs:=[3]) (by kernel_rfl) (by simp) ?_;refine AllReadyIn.cons rfl (fun K hK=>?_) ?_
     ·go_simp
      refine hK _ _ ?_;clear hK K;refine wpAnyIn_ready (rs:=[4]) (by kernel_rfl) (by simp) ?_;refine AllReadyIn.cons rfl (fun K hK=>?_) ?_
      ·refine yH _ (by rfl) (.tmp 11) (.tmp 14) _ (by rfl) (w.heap.size+3) 41 _ 1 24 Tryz.underlying37 vC rfl (by omega) A1 pre.length c1 vs1 (by rfl) ((ho1.kp ((Kp.refl W).drew.trans hk3)).1.alloc _) Any _ 1 1 [.slice A3 n3 c3] (by rfl) (Sl.new_ w2 #[.slice A3 n3 c3] _ 1 1 _ rfl trivial (by simp) (by omega)) (by simp[Value.oneCell']) (by simp only[maxLen];omega) (by omega) (by have:=hk3.size;simp at this;simp;omega) ?_
       intro A4 c4 w4 hown4 hg4 hat4;have hb4:Bx w4 (w.heap.size+1) #[.slice A1 pre.length c1] 37:=(hb3.alloc _).grown hg4 fun e=>by have:=(ho1.1.lt _ e).1;omega
       have hp4:=hb4.cell 0;have hf4:=hb4.frozen 0;refine hK _ _ ?_;clear hK K;refine wpAnyIn_ready (rs:=[5]) (by kernel_rfl) (by simp) ?_;refine AllReadyIn.cons rfl (fun K hK=>?_) ?_
       ·go_simp
        refine hK _ _ ?_;clear hK K;refine wpAnyIn_done (by kernel_rfl) ?_ _
        gi_wp2
        exact leaf hk3 hr3 hown4 hg4 hat4
       exact AllReadyIn.nil
      exact AllReadyIn.nil
     exact AllReadyIn.nil
    exact AllReadyIn.nil
   refine AllReadyIn.cons rfl (fun K hK=>?_) ?_
   ·go_simp
    gi_wp2_with (refine⟨trivial,?_⟩;gi_at_call 41;refine(CallsIn.inRound l (callsIn_wide.2 (zH F B2 m2 d2 x _ (Sl.drew hr2') (by have:=hr2.len;omega)))).mono ?_;rintro e w2 ⟨A3,n3,c3,rfl,hr3,hk3⟩;have hb3:=(Bx.drew hb1).kp hk3;have hp3:=hb3.cell 0;have hf3:=hb3.frozen 0;have hb3a:=hb3.alloc (.cells #[.slice A3 n3 c3] 41);have hp3a:=hb3a.cell 0;have hf3a:=hb3a.frozen 0)
    refine wpAnyIn_ready (rs:=[0,3]) (by kernel_rfl) (by simp) ?_;refine AllReadyIn.cons rfl (fun K hK=>?_) ?_
    ·go_simp
     refine hK _ _ ?_;clear hK K;refine wpAnyIn_ready (rs:=[3]) (by kernel_rfl) (by simp) ?_;refine AllReadyIn.cons rfl (fun K hK=>?_) ?_
     ·go_simp
      refine hK _ _ ?_;clear hK K;refine wpAnyIn_ready (rs:=[4]) (by kernel_rfl) (by simp) ?_;refine AllReadyIn.cons rfl (fun K hK=>?_) ?_
      ·refine yH _ (by rfl) (.tmp 11) (.tmp 14) _ (by rfl) (w.heap.size+3) 41 _ 1 24 Tryz.underlying37 vC rfl (by omega) A1 pre.length c1 vs1 (by rfl) ((ho1.kp ((Kp.refl W).drew.trans hk3)).1.alloc _) Any _ 1 1 [.slice A3 n3 c3] (by rfl) (Sl.new_ w2 #[.slice A3 n3 c3] _ 1 1 _ rfl trivial (by simp) (by omega)) (by simp[Value.oneCell']) (by simp only[maxLen];omega) (by omega) (by have:=hk3.size;simp at this;simp;omega) ?_
       intro A4 c4 w4 hown4 hg4 hat4;have hb4:Bx w4 (w.heap.size+1) #[.slice A1 pre.length c1] 37:=(hb3.alloc _).grown hg4 fun e=>by have:=(ho1.1.lt _ e).1;omega
       have hp4:=hb4.cell 0;have hf4:=hb4.frozen 0;refine hK _ _ ?_;clear hK K;refine wpAnyIn_ready (rs:=[5]) (by kernel_rfl) (by simp) ?_;refine AllReadyIn.cons rfl (fun K hK=>?_) ?_
       ·go_simp
        refine hK _ _ ?_;clear hK K;refine wpAnyIn_done (by kernel_rfl) ?_ _
        gi_wp2
        exact leaf hk3 hr3 hown4 hg4 hat4
       exact AllReadyIn.nil
      exact AllReadyIn.nil
     exact AllReadyIn.nil
    refine AllReadyIn.cons rfl (fun K hK=>?_) ?_
    ·go_simp
     refine hK _ _ ?_;clear hK K;refine wpAnyIn_ready (rs:=[0]) (by kernel_rfl) (by simp) ?_;refine AllReadyIn.cons rfl (fun K hK=>?_) ?_
     ·go_simp
      refine hK _ _ ?_;clear hK K;refine wpAnyIn_ready (rs:=[4]) (by kernel_rfl) (by simp) ?_;refine AllReadyIn.cons rfl (fun K hK=>?_) ?_
      ·refine yH _ (by rfl) (.tmp 11) (.tmp 14) _ (by rfl) (w.heap.size+3) 41 _ 1 24 Tryz.underlying37 vC rfl (by omega) A1 pre.length c1 vs1 (by rfl) ((ho1.kp ((Kp.refl W).drew.trans hk3)).1.alloc _) Any _ 1 1 [.slice A3 n3 c3] (by rfl) (Sl.new_ w2 #[.slice A3 n3 c3] _ 1 1 _ rfl trivial (by simp) (by omega)) (by simp[Value.oneCell']) (by simp only[maxLen];omega) (by omega) (by have:=hk3.size;simp at this;simp;omega) ?_
       intro A4 c4 w4 hown4 hg4 hat4;have hb4:Bx w4 (w.heap.size+1) #[.slice A1 pre.length c1] 37:=(hb3.alloc _).grown hg4 fun e=>by have:=(ho1.1.lt _ e).1;omega
       have hp4:=hb4.cell 0;have hf4:=hb4.frozen 0;refine hK _ _ ?_;clear hK K;refine wpAnyIn_ready (rs:=[5]) (by kernel_rfl) (by simp) ?_;refine AllReadyIn.cons rfl (fun K hK=>?_) ?_
       ·go_simp
        refine hK _ _ ?_;clear hK K;refine wpAnyIn_done (by kernel_rfl) ?_ _
        gi_wp2
        exact leaf hk3 hr3 hown4 hg4 hat4
       exact AllReadyIn.nil
      exact AllReadyIn.nil
     exact AllReadyIn.nil
    exact AllReadyIn.nil
   exact AllReadyIn.nil
  exact AllReadyIn.nil
 case done=>
  rintro D ys W hD hys ⟨⟨A1,c1,vs1,hb1,ho1⟩,hbel,hz⟩ hK;have hp1:=hb1.cell 0;have hf1:=hb1.frozen 0
  gi_wp2
  refine⟨by simp,.inl ⟨_,_,rfl,run_takeDeferred hK,?_⟩⟩;refine⟨_,results_tmp rfl _ _ _,A1,_,c1,rfl,?_,hbel.trans (belowK_b (w:=w) le_ W D _ _ (by omega) hK rfl rfl)⟩;have h1:=ho1.cells_kept (grownBy_putObj' W D (.deferred none)) (fun r e=>by cases e;exact⟨_,hK,rfl⟩);have h2:(downs n 0).map (fun i=>L[i]?.getD [])=L.reverse:=by
   rw[←HLEN.out];exact downs_map L
  rw[hys,h2]at h1;exact h1.txs.weak (fun k _ h=>by unfold From at *;omega) (fun k _ h=>by unfold From at *;omega)
 case stop=>
  rintro D c pre W hD _ h _;exact h.elim
end
end Go.Proofs.YtociefdcccokjaaGreat

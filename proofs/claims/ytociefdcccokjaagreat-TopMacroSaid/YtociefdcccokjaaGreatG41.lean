/-
  Lemmas for TopMacro. Conditions: each states its own.
-/
import Derived.Test.YtociefdcccokjaaGreatG40
set_option maxHeartbeats 12800000
set_option maxRecDepth 100000
namespace Go.Proofs.YtociefdcccokjaaGreat
open Go.RowKit Go.Lib
section
variable {D:Nat→Prop}
def RetRep (o:Option (List Int))(w:World)(en:Ending)(w':World):Prop:=
 match o with
 |some l=>∃A n c,en=.returned (.tuple #[.slice A n c,.bool true])∧Ru w' (From w.heap.size) A n c l∧Kp w w'
 |none=>en=.returned (.tuple #[.slice none 0 0,.bool false])∧Kp w w'
theorem repeat_any (F:Nat→Prop)(A:Option Addr)(c:Nat)(r n:Int)(w:World)(h:Ru w F A 1 c [r])(hn:n≤1099511627776):
 Calls Tryz.prog 101 #[.slice A 1 c,.int .i64 n] w (RetRep (EdS.repeatL [r] n) w):=by
 by_cases hb:n<1∨65537<n
 ·have ho:EdS.repeatL [r] n=none:=by unfold EdS.repeatL;rw[if_pos (by simp;omega)]
  rw[ho];clear h ho;by_cases h1:n<1
  ·go_enter Tryz.func101,Tryz.ntmps101
   go_wp2_with fail;go_ret2;exact⟨rfl,Kp.refl _⟩
  ·have h2:65537<n:=by omega
   go_enter Tryz.func101,Tryz.ntmps101;go_wp2_with fail;go_ret2;exact⟨rfl,Kp.refl _⟩
 ·obtain⟨m,rfl⟩:∃m:Nat,n=m:=⟨n.toNat,by omega⟩
  have hm1:1≤m:=by omega
  have hm2:m≤65537:=by omega
  have ho:EdS.repeatL [r] (m:Int)=some (List.replicate m r):=by
   unfold EdS.repeatL;rw[if_neg (by simp;omega),Int.toNat_natCast]
   congr 1
   induction m with
   |zero=>rfl
   |succ k ih=>simp[List.replicate_succ]at *
  rw[ho];have H:=hid h;clear h ho hb hn;have q1:¬((m:Int)<1):=by omega
  have q2:¬((65537:Int)<m):=by omega
  go_enter Tryz.func101,Tryz.ntmps101;go_wp2_with fail;go_loopw [23,6] (fun v u wr=>∃(k cc:Nat) (A1:Option Addr),v=.int .i64 k∧u=.slice A1 k cc∧k≤m∧Kp w wr∧Own wr w.heap.size 21 1 A1 k cc (R32 (List.replicate k r))) (fun v _ _=>m - (intOf v).toNat)
  case atStart=>exact⟨0,0,none,rfl,rfl,Nat.zero_le _,Kp.refl _,Own.nil _ _ _ _⟩
  case round=>
   obtain⟨k,cc,A1,rfl,rfl,hk,kr,ho⟩:=hrel;have hz:=kr.size;by_cases hlt:k<m
   ·have H1:=hid (Sl.kp H.out kr)
    go_wp2_with (at_builtin;refine zA _ rfl _ _ _ rfl w.heap.size 21 _ 1 4 Tryz.underlying41 yF rfl (by omega) A1 k cc (R32 (List.replicate k r)) rfl ho F A 1 c (R32 [r]) rfl H1.out (zQ _) (by simp only[maxLen];omega) (by omega) (by omega) ?_;intro A2 c2 w2 ho2 hg2 hat2);have k2:=kr.grown hg2 fun i hi=>(ho.lt i hi).1
    rw[zM,←List.replicate_succ']at ho2;go_roundw
    case rel=>exact⟨k+1,c2,A2,by go_num,rfl,by omega,k2,ho2⟩
    case measure=>simp[intOf];omega
   ·obtain rfl:k=m:=by omega
    go_wp2_with fail;go_ret2;exact⟨A1,k,cc,rfl,ho.sl,kr⟩
theorem times_any (c:Cn)(w:World)(hn:0≤c.n∧c.n≤1099511627776):
 Calls Tryz.prog 39 #[.agg #[.bool c.some_,.bool c.minus,.bool c.digits,.int .i64 c.n]] w fun e w'=>e=.returned (.int .i64 c.times)∧Kp w w':=by
 obtain⟨s,mi,di,n⟩:=c;dsimp only at hn⊢;unfold Cn.times;dsimp only;cases mi<;>cases di
 all_goals
  go_enter Tryz.func39,Tryz.ntmps39;go_wp2_with fail;go_ret;exact⟨by simp,(Kp.refl _).alloc _⟩
end
section
variable {D:Nat→Prop}
theorem repeat_none (F:Nat→Prop)(A:Option Addr)(c:Nat)(r n:Int)(w:World)(h:Ru w F A 1 c [r])(hn:n≤1099511627776)(ho:EdS.repeatL [r] n=none):
 Calls Tryz.prog 101 #[.slice A 1 c,.int .i64 n] w fun en w'=>en=.returned (.tuple #[.slice none 0 0,.bool false])∧Kp w w':=by
 refine(repeat_any F A c r n w h hn).mono ?_;intro e w' k;rw[ho]at k;exact k
theorem repeat_some (F:Nat→Prop)(A:Option Addr)(c:Nat)(r n:Int)(w:World)(h:Ru w F A 1 c [r])(hn:n≤1099511627776)(l:List Int)(ho:EdS.repeatL [r] n=some l):
 Calls Tryz.prog 101 #[.slice A 1 c,.int .i64 n] w fun en w'=>∃A n c,en=.returned (.tuple #[.slice A n c,.bool true])∧Ru w' (From w.heap.size) A n c l∧Kp w w':=by
 refine(repeat_any F A c r n w h hn).mono ?_;intro e w' k;rw[ho]at k;exact k
theorem repeatL_ok {r n:Int}{l:List Int}(hr:r32 r)(h:EdS.repeatL [r] n=some l):R32ok l∧l.length≤65537:=by
 unfold EdS.repeatL at h
 split at h
 ·cases h
 ·rename_i hc
  simp only[Option.some.injEq]at h;subst h;refine⟨fun x hx=>?_,?_⟩
  ·simp only[List.mem_flatten,List.mem_replicate]at hx
   obtain⟨s,⟨-,rfl⟩,hx⟩:=hx;rw[List.mem_singleton]at hx;subst hx;exact hr
  ·simp at hc⊢
   omega
section
variable (E X G R g:Nat)(e:EdS)(v:EdL)(T:TM)(wT w:World)(h:EdAt D w E X G R g e v)(hT:TabN wT w g T (Eb E X G R))(j:Nat)(ok:EdOk j e)(hj:j+1≤1000)(r n:Int)(hr:r32 r)(hn:n≤1099511627776)
include h ok hj hn
theorem put_none (ho:EdS.repeatL [r] n=none):Calls Tryz.prog 66 #[.pointer (some ⟨E,0,none⟩),.int .i32 r,.int .i64 n] w (RetE D (j+1) E X G R g (e.put T r n) (.tuple #[]) w):=by
 have hres:e.put T r n={e with bell:=true,last:=0}:=by unfold EdS.put;rw[ho]
 rw[hres];have k1:=(Kp.refl w).alloc (.cells #[.int .i32 r] 21);obtain⟨HRN,K1,HOK,H⟩:=hid4 (repeat_none Any _ 1 r n _ (Ru.one_ w Any trivial r 21) hn ho) k1 ((ok.up (k:=j+1) (by omega) hj).same (e':={e with bell:=true,last:=0}) rfl rfl rfl rfl rfl rfl rfl rfl rfl rfl rfl rfl) h;obtain⟨jn,hjn⟩:∃b,b=e.joins:=⟨_,rfl⟩;have HJN:=hid hjn;clear h ok hn ho hres k1 hj hjn;go_enter Tryz.func66,Tryz.ntmps66;go_wp2_with fail;refine HRN.out.mono ?_;rintro en w1 ⟨rfl,k1⟩;obtain⟨H1,HK⟩:=hid2 (H.out.kp (K1.out.trans k1)) (K1.out.trans k1);clear k1 HRN K1;go_upto_region 1 with fail;go_cut [8] (fun x wx=>x=.bool jn∧wx=w1)
 case first=>
  have p25:w1.cell? ⟨E,25,none⟩=some (.int .i64 e.last):=(H1.out.c 25 rfl).1;have p26:w1.cell? ⟨E,26,none⟩=some (.int .i64 e.run):=(H1.out.c 26 rfl).1;obtain⟨la,hla⟩:∃x,x=e.last:=⟨_,rfl⟩;obtain⟨ru,hru⟩:∃x,x=e.run:=⟨_,rfl⟩;have HV:=hid (show jn=(decide (la=1)&&decide (ru<20)) by rw[HJN.out,hla,hru];rfl);rw[←hla]at p25;rw[←hru]at p26;clear hla hru HJN;by_cases h1:la=1
  ·have q1:(la==1)=true:=by simpa using h1
   have HW:=hid (show jn=decide (ru<20) by rw[HV.out,decide_eq_true h1];rfl);clear h1 HV;go_wp2_with fail;go_meet;exact⟨by rw[HW.out],rfl⟩
  ·have q1:(la==1)=false:=by simpa using h1
   have HW:=hid (show jn=false by rw[HV.out,decide_eq_false h1];rfl);clear h1 HV;go_wp2_with fail;go_meet;exact⟨by rw[HW.out],rfl⟩
 case rest=>
  obtain⟨rfl,hwx⟩:=hcut;subst wc;have p3:w1.cell? ⟨E,3,none⟩=some (.int .i64 e.cursor):=(H1.out.c 3 rfl).1;go_upto_region 2 with fail;go_quiet (fail);obtain⟨K2,HB⟩:=hid2 ((Kp.refl w1).drewN nq) (fun(wx:World) (kx:Kp w1 wx)=>zO E X G R g e v wx (H1.out.kp kx));go_wp2_with fail;refine(HB.out _ K2.out).mono ?_;rintro en w3 ⟨rfl,h3,m3⟩;have f25:w3.cell? ⟨E,25,none⟩=some (.int .i64 e.last)∧w3.frozen? ⟨E,25,none⟩=false:=h3.c 25 rfl;obtain⟨p25,g25⟩:=f25;obtain⟨H3,N3⟩:=hid2 h3 ((EdN.refl (E:=E) (X:=X) (G:=G) (R:=R) (HK.out.trans K2.out)).then_mu (m3.weak (S':=Eb E X G R) fun _ _ q=>.inl q));clear h3 m3;go_wp2_with fail;go_end0;exact⟨rfl,X,G,R,v,H3.out.set 25 _ rfl rfl rfl rfl rfl rfl rfl rfl,N3.out.set 25 _,HOK.out⟩
include hT hr
theorem put_some (l:List Int)(ho:EdS.repeatL [r] n=some l):Calls Tryz.prog 66 #[.pointer (some ⟨E,0,none⟩),.int .i32 r,.int .i64 n] w (RetE D (j+1) E X G R g (e.put T r n) (.tuple #[]) w):=by
 have hres:e.put T r n=if(e.change T e.cursor e.cursor l e.joins).2=true then {(e.change T e.cursor e.cursor l e.joins).1 with last:=1,run:=(if e.joins=true then e.run else 0)+1}
  else {(e.change T e.cursor e.cursor l e.joins).1 with bell:=true,last:=0}:=by unfold EdS.put;rw[ho]
 obtain⟨t,mk,us,cu,bl,hf⟩:=yX T e e.cursor e.cursor l e.joins;have hlok:=repeatL_ok hr ho;have k1:=(Kp.refl w).alloc (.cells #[.int .i32 r] 21);have HRN:=hid (repeat_some Any _ 1 r n _ (Ru.one_ w Any trivial r 21) hn l ho);have HCH:=hid (fun(A:Option Addr) (m c:Nat) (w1 wx:World) (kx:Kp w w1) (ky:Kp w1 wx) (hi:Ru w1 (From w.heap.size) A m c l)=>zZ E X G R g e v (From w.heap.size) T e.cursor e.cursor A m c l e.joins wT wx (h.kp (kx.trans ky)) (hT.next (kx.trans ky)) (Sl.kp hi ky) hlok.1
  (by have:=Ru.len hi;have:=hlok.2;omega) j ok hj)
 obtain⟨b2,hb2⟩:∃b,b=(e.change T e.cursor e.cursor l e.joins).2:=⟨_,rfl⟩;rw[←hb2]at hres HCH;rw[hf]at hres HCH;obtain⟨ef,hef⟩:∃ef,ef=e.put T r n:=⟨_,rfl⟩;rw[←hef];rw[←hef]at hres;obtain⟨K1,HRS,H⟩:=hid3 k1 hres h;obtain⟨jn,hjn⟩:∃b,b=e.joins:=⟨_,rfl⟩;have HJN:=hid hjn;rw[←hjn]at HCH HRS;have HRU:=hid ok.run;clear h ok hr hn ho hres hT k1 hj hjn hlok hf hb2 hef;go_enter Tryz.func66,Tryz.ntmps66;go_wp2_with fail;refine HRN.out.mono ?_;rintro en w1 ⟨A1,n1,c1,rfl,hl1,k1⟩;obtain⟨HL1,HK⟩:=hid2 (Sl.weak hl1 (G:=From w.heap.size) fun q _ hq=>by unfold From at *;simp at hq;omega) (K1.out.trans k1);have H1:=hid (H.out.kp HK.out);clear k1 HRN K1 hl1;go_upto_region 1 with fail;go_cut [8] (fun x wx=>x=.bool jn∧wx=w1)
 case first=>
  have p25:w1.cell? ⟨E,25,none⟩=some (.int .i64 e.last):=(H1.out.c 25 rfl).1;have p26:w1.cell? ⟨E,26,none⟩=some (.int .i64 e.run):=(H1.out.c 26 rfl).1;obtain⟨la,hla⟩:∃x,x=e.last:=⟨_,rfl⟩;obtain⟨ru,hru⟩:∃x,x=e.run:=⟨_,rfl⟩;have HV:=hid (show jn=(decide (la=1)&&decide (ru<20)) by rw[HJN.out,hla,hru];rfl);rw[←hla]at p25;rw[←hru]at p26;clear hla hru HJN;by_cases h1:la=1
  ·have q1:(la==1)=true:=by simpa using h1
   have HW:=hid (show jn=decide (ru<20) by rw[HV.out,decide_eq_true h1];rfl);clear h1 HV;go_wp2_with fail;go_meet;exact⟨by rw[HW.out],rfl⟩
  ·have q1:(la==1)=false:=by simpa using h1
   have HW:=hid (show jn=false by rw[HV.out,decide_eq_false h1];rfl);clear h1 HV;go_wp2_with fail;go_meet;exact⟨by rw[HW.out],rfl⟩
 case rest=>
  obtain⟨rfl,hwx⟩:=hcut;subst wc;have p3:w1.cell? ⟨E,3,none⟩=some (.int .i64 e.cursor):=(H1.out.c 3 rfl).1;go_upto_region 2 with fail;go_still_tail 16,(by kernel_rfl);change wpList _ _ _ _ _ w1.drew;go_wp2_with fail;refine(HCH.out A1 n1 c1 w1 _ HK.out (Kp.refl w1).drew HL1.out).mono ?_;rintro en w3 ⟨rfl,X',G',R',v',h',N',ok'⟩;obtain⟨H3,N3,OK3⟩:=hid3 h' ((EdN.refl (E:=E) (X:=X) (G:=G) (R:=R) (HK.out.trans (Kp.refl w1).drew)).trans N') ok';obtain⟨p25,g25⟩:w3.cell? ⟨E,25,none⟩=some (.int .i64 e.last)∧w3.frozen? ⟨E,25,none⟩=false:=h'.c 25 rfl;obtain⟨p26,g26⟩:w3.cell? ⟨E,26,none⟩=some (.int .i64 e.run)∧w3.frozen? ⟨E,26,none⟩=false:=h'.c 26 rfl;clear h' N' ok' HCH p3;have hE:=H3.out.1.lt;cases b2 with
  |true=>
   obtain⟨ru,hru⟩:∃x,x=e.run:=⟨_,rfl⟩;have HE:=hid (show ef={e with tx:=t,mark:=mk,undo:=us,cursor:=cu,bell:=bl,last:=1,run:=(if jn=true then ru else 0)+1} by rw[HRS.out,hru];rfl);have hr2:0≤ru∧ru≤20:=by rw[hru];exact HRU.out
   rw[←hru]at p26;have HRUE:=hid hru;clear hru HRS;cases jn with
   |true=>
    have HE2:=hid (show ef={e with tx:=t,mark:=mk,undo:=us,cursor:=cu,bell:=bl,last:=1,run:=ru+1}from HE.out);have HLT:=hid (show ru<20 by
     have h:=HJN.out;unfold EdS.joins at h;rw[←HRUE.out]at h;by_cases hl:ru<20
     ·exact hl
     ·rw[decide_eq_false hl,Bool.and_false]at h;cases h)
    go_wp2_with fail;go_end0;refine⟨rfl,X',G',R',v',?_,(N3.out.set 25 _).set 26 _,?_⟩
    ·rw[HE2.out]
     exact(H3.out.set (e':={e with tx:=t,mark:=mk,undo:=us,cursor:=cu,bell:=bl,last:=1}) 25 _ rfl rfl rfl rfl rfl rfl rfl rfl).set 26 _ rfl rfl rfl rfl rfl rfl rfl rfl
    ·rw[HE2.out]
     exact OK3.out.run_ 1 (ru+1) bl (by have:=HLT.out;omega)
   |false=>
    have HE2:=hid (show ef={e with tx:=t,mark:=mk,undo:=us,cursor:=cu,bell:=bl,last:=1,run:=1}from HE.out);go_wp2_with fail;go_end0;refine⟨rfl,X',G',R',v',?_,((N3.out.set 26 _).set 25 _).set 26 _,?_⟩
    ·rw[HE2.out]
     exact((H3.out.set (e':={e with tx:=t,mark:=mk,undo:=us,cursor:=cu,bell:=bl,run:=0}) 26 _ rfl rfl rfl rfl rfl rfl rfl rfl).set
      (e':={e with tx:=t,mark:=mk,undo:=us,cursor:=cu,bell:=bl,run:=0,last:=1}) 25 _ rfl rfl rfl rfl rfl rfl rfl rfl).set 26 _ rfl rfl rfl rfl rfl rfl rfl rfl
    ·rw[HE2.out]
     exact OK3.out.run_ 1 1 bl (by omega)
  |false=>
   obtain⟨HE2,HB⟩:=hid2 (show ef={e with tx:=t,mark:=mk,undo:=us,cursor:=cu,bell:=true,last:=0} by rw[HRS.out];rfl) (zO E X' G' R' g _ v' w3 H3.out);clear p25 g25 p26 g26;go_wp2_with fail;refine HB.out.mono ?_;rintro en w4 ⟨rfl,h4,m4⟩;obtain⟨p25,g25⟩:w4.cell? ⟨E,25,none⟩=some (.int .i64 e.last)∧w4.frozen? ⟨E,25,none⟩=false:=h4.c 25 rfl;obtain⟨H4,N4⟩:=hid2 h4 (N3.out.then_mu (m4.weak (S':=Eb E X' G' R') fun _ _ q=>.inl q));clear h4 m4;go_wp2_with fail;go_end0;refine⟨rfl,X',G',R',v',?_,N4.out.set 25 _,?_⟩
   ·rw[HE2.out]
    exact H4.out.set 25 _ rfl rfl rfl rfl rfl rfl rfl rfl
   ·rw[HE2.out]
    exact OK3.out.run_ 0 e.run true HRU.out
theorem put_any:Calls Tryz.prog 66 #[.pointer (some ⟨E,0,none⟩),.int .i32 r,.int .i64 n] w (RetE D (j+1) E X G R g (e.put T r n) (.tuple #[]) w):=by
 cases ho:EdS.repeatL [r] n with
 |none=>exact put_none E X G R g e v T w h j ok hj r n hn ho
 |some l=>exact put_some E X G R g e v T wT w h hT j ok hj r n hr hn l ho
end
end
section
variable {D:Nat→Prop}
section
variable (E X G R g:Nat)(e:EdS)(v:EdL)(T:TM)(wT w:World)(h:EdAt D w E X G R g e v)(hT:TabN wT w g T (Eb E X G R))(j:Nat)(ok:EdOk j e)(hj:j+1≤1000)
include h ok hT hj
theorem quoted_any (k:KeyV)(A:Option Addr)(n c:Nat)(hr:r32 k.rune):Calls Tryz.prog 34 #[.pointer (some ⟨E,0,none⟩),.agg #[.int .i64 k.kind,.int .i32 k.rune,.bool k.meta_,.slice A n c]] w (RetE D (j+1) E X G R g (e.quoted T k) (.tuple #[]) w):=by
 obtain⟨ef,hef⟩:∃x,x=e.quoted T k:=⟨_,rfl⟩;rw[←hef];have hres:ef=if k.kind=1∨k.kind=2 then EdS.put T {e with quote:=false,cnt:=Cn.zero} k.rune e.cnt.times else {e with quote:=false,cnt:=Cn.zero,bell:=true,last:=0}:=hef;have HRS:=hid hres;obtain⟨kd,hkd⟩:∃x,x=k.kind:=⟨_,rfl⟩;have HKD:=hid hkd;rw[←hkd];obtain⟨ti,hti⟩:∃x,x=e.cnt.times:=⟨_,rfl⟩;have htb:ti≤9999:=by have:=ok.n0;rw[hti];unfold Cn.times;split<;>split<;>omega
 have HTI:=hid (fun(wx:World)=>times_any e.cnt wx (by have:=ok.n0;omega));rw[←hti]at HTI;obtain⟨HTE,HTB,HR,H,HT,HJ,HOK⟩:=hid7 hti htb hr h hT hj ok;obtain⟨p19,f19⟩:w.cell? ⟨E,20,none⟩=some (.bool e.quote)∧w.frozen? ⟨E,20,none⟩=false:=h.c 20 rfl;have hE:=h.1.lt;clear h hT ok hj hef hres hkd hti htb hr;go_enter Tryz.func34,Tryz.ntmps34;go_upto_region 1 with fail;have k1:=(Kp.refl w).alloc (.cells #[.int .i64 kd,.int .i32 k.rune,.bool k.meta_,.slice A n c] 43);have bk:=Bx.new w #[.int .i64 kd,.int .i32 k.rune,.bool k.meta_,.slice A n c] 43;obtain⟨P,hP⟩:∃P,P=w.heap.size:=⟨_,rfl⟩;rw[←hP]at bk⊢;obtain⟨HPE,K1,HB1⟩:=hid3 (show E≠P from fun hh=>by omega) k1 bk;clear hP k1 bk p19 f19 hE;generalize(w.alloc (.cells #[.int .i64 kd,.int .i32 k.rune,.bool k.meta_,.slice A n c] 43))=w1 at *;have H1:=hid (H.out.kp K1.out);obtain⟨p20,f20⟩:w1.cell? ⟨E,20,none⟩=some (.bool e.quote)∧w1.frozen? ⟨E,20,none⟩=false:=H1.out.c 20 rfl;go_upto_region 2 with fail;obtain⟨H2,N2,HB2⟩:=hid3 (H1.out.set (e':={e with quote:=false}) 20 (.bool false) rfl rfl rfl rfl rfl rfl rfl rfl) ((EdN.refl (E:=E) (X:=X) (G:=G) (R:=R) K1.out).set 20 (.bool false)) (HB1.out.far (p:=⟨E,20,none⟩) (fun hp=>HPE.out hp.symm) (.bool false));clear p20 f20 H1 HB1 K1;generalize(w1.setCell ⟨E,20,none⟩ (.bool false))=w2 at *;have p21:w2.cell? ⟨E,21,none⟩=some (.bool e.cnt.some_):=(H2.out.c 21 rfl).1;have p22:w2.cell? ⟨E,22,none⟩=some (.bool e.cnt.minus):=(H2.out.c 22 rfl).1;have p23:w2.cell? ⟨E,23,none⟩=some (.bool e.cnt.digits):=(H2.out.c 23 rfl).1;have p24:w2.cell? ⟨E,24,none⟩=some (.int .i64 e.cnt.n):=(H2.out.c 24 rfl).1;go_wp2_with fail;refine(HTI.out _).mono ?_;rintro en w3 ⟨rfl,k3⟩;obtain⟨H3,N3,HB3⟩:=hid3 (H2.out.kp k3) (N2.out.then_kp k3) (HB2.out.kp k3);clear k3 H2 N2 HB2 p21 p22 p23 p24 HTI;obtain⟨p21,f21⟩:w3.cell? ⟨E,21,none⟩=some (.bool e.cnt.some_)∧w3.frozen? ⟨E,21,none⟩=false:=H3.out.c 21 rfl;obtain⟨p22,f22⟩:w3.cell? ⟨E,22,none⟩=some (.bool e.cnt.minus)∧w3.frozen? ⟨E,22,none⟩=false:=H3.out.c 22 rfl;obtain⟨p23,f23⟩:w3.cell? ⟨E,23,none⟩=some (.bool e.cnt.digits)∧w3.frozen? ⟨E,23,none⟩=false:=H3.out.c 23 rfl;obtain⟨p24,f24⟩:w3.cell? ⟨E,24,none⟩=some (.int .i64 e.cnt.n)∧w3.frozen? ⟨E,24,none⟩=false:=H3.out.c 24 rfl;have hE:=H3.out.1.lt;go_upto_region 4 with fail;obtain⟨H4,N4,HB4,HOK4⟩:=hid4 (H3.out.count Cn.zero) (N3.out.set4 (.bool false) (.bool false) (.bool false) (.int .i64 0)) ((((HB3.out.far (p:=⟨E,21,none⟩) (fun hp=>HPE.out hp.symm) (.bool false)).far (p:=⟨E,22,none⟩) (fun hp=>HPE.out hp.symm) (.bool false)).far (p:=⟨E,23,none⟩) (fun hp=>HPE.out hp.symm) (.bool false)).far (p:=⟨E,24,none⟩) (fun hp=>HPE.out hp.symm) (.int .i64 0)) ((HOK.out.count Cn.zero (by decide)).same (e':={e with quote:=false,cnt:=Cn.zero}) rfl rfl rfl rfl rfl rfl rfl rfl rfl rfl rfl rfl);clear p21 f21 p22 f22 p23 f23 p24 f24 H3 N3 HB3 hE;unfold Cn.zero at H4;dsimp only at H4;generalize((((w3.setCell ⟨E,21,none⟩ (.bool false)).setCell ⟨E,22,none⟩ (.bool false)).setCell ⟨E,23,none⟩ (.bool false)).setCell ⟨E,24,none⟩ (.int .i64 0))=w4 at *;obtain⟨b0,b1,b2,b3,_,_,_,_⟩:=HB4.out.four;by_cases hk1:kd=1∨kd=2
 ·have HE2:=hid (show ef=EdS.put T {e with quote:=false,cnt:=Cn.zero} k.rune ti by rw[HRS.out,if_pos (by rw[←HKD.out];exact hk1),HTE.out])
  have HPU:=hid (put_any E X G R g {e with quote:=false,cnt:=Cn.zero} v T wT w4 H4.out (N4.out.tab HT.out) j HOK4.out HJ.out k.rune ti HR.out (by have:=HTB.out;omega));rw[←HE2.out]at HPU;rcases hk1 with hk1|hk1
  ·have q1:(kd != 1)=false:=by simp[hk1]
   clear hk1;go_wp2_with fail;refine HPU.out.mono ?_;rintro en w5 ⟨rfl,X',G',R',v1,h5,n5,ok5⟩;go_wp2_with fail;go_end0;exact⟨rfl,X',G',R',v1,h5,N4.out.trans n5,ok5⟩
  ·have q1:(kd != 1)=true:=by simp[hk1]
   have q2:(kd != 2)=false:=by simp[hk1]
   clear hk1;go_wp2_with fail;refine HPU.out.mono ?_;rintro en w5 ⟨rfl,X',G',R',v1,h5,n5,ok5⟩;go_wp2_with fail;go_end0;exact⟨rfl,X',G',R',v1,h5,N4.out.trans n5,ok5⟩
 ·have HE2:=hid (show ef={e with quote:=false,cnt:=Cn.zero,bell:=true,last:=0} by rw[HRS.out,if_neg (by rw[←HKD.out];exact hk1)])
  have q1:(kd != 1)=true:=by simp;omega
  have q2:(kd != 2)=true:=by simp;omega
  have HB:=hid (zO E X G R g _ v w4 H4.out);clear hk1;go_wp2_with fail;refine HB.out.mono ?_;rintro en w5 ⟨rfl,h5,m5⟩;obtain⟨N5,H5⟩:=hid2 (N4.out.then_mu (m5.weak (S':=Eb E X G R) fun _ _ q=>.inl q)) h5;clear h5 m5 b0 b1 b2 b3;obtain⟨p25,f25⟩:w5.cell? ⟨E,25,none⟩=some (.int .i64 e.last)∧w5.frozen? ⟨E,25,none⟩=false:=H5.out.c 25 rfl;go_wp2_with fail;go_end0;refine⟨rfl,X,G,R,v,?_,N5.out.set 25 _,?_⟩
  ·rw[HE2.out]
   exact H5.out.set 25 _ rfl rfl rfl rfl rfl rfl rfl rfl
  ·rw[HE2.out]
   exact(HOK4.out.up (k:=j+1) (by omega) HJ.out).run_ 0 e.run true HOK.out.run
end
end
end Go.Proofs.YtociefdcccokjaaGreat

/-
  Lemmas for TopMacro. Conditions: each states its own.
-/
import Derived.Test.YtociefdcccokjaaGreatG07
set_option maxHeartbeats 3200000
set_option maxRecDepth 100000
namespace Go.Proofs.YtociefdcccokjaaGreat
open Go.RowKit Go.Lib
def sstV (s:SSt):Array Value:=#[.bool s.some_,.int .i64 s.last,.int .i64 s.pict,.int .i64 s.conj,.bool s.odd]
def RetStep (x:SSt×Bool)(w:World)(e:Ending)(w':World):Prop:=e=.returned (.tuple #[.agg (sstV x.1),.bool x.2])∧Kp w w'
theorem Bx.five {w:World}{b:Nat}{t:TypeId}{x y z u v:Value}(h:Bx w b #[x,y,z,u,v] t):(w.cell? ⟨b,0,none⟩=some x∧w.cell? ⟨b,1,none⟩=some y∧w.cell? ⟨b,2,none⟩=some z∧w.cell? ⟨b,3,none⟩=some u∧w.cell? ⟨b,4,none⟩=some v)∧
 w.frozen? ⟨b,0,none⟩=false∧w.frozen? ⟨b,1,none⟩=false∧w.frozen? ⟨b,2,none⟩=false∧w.frozen? ⟨b,3,none⟩=false∧w.frozen? ⟨b,4,none⟩=false:=
 ⟨⟨h.cell 0,h.cell 1,h.cell 2,h.cell 3,h.cell 4⟩,h.frozen 0,h.frozen 1,h.frozen 2,h.frozen 3,h.frozen 4⟩
def pictN (p bk:Int)(pc:Bool):Int:=if pc=true then 1 else if p=1∧bk=4 then 1 else if p=1∧bk=5 then 2 else 0
def conjN (c cj:Int):Int:=if cj=2 then 1 else if c≠0∧cj=1 then 2 else if c≠0∧cj=3 then c else 0
def cutN (s:SSt)(bk cj:Int)(pc:Bool):Bool:=!sticksS s.last bk&&!(decide (s.pict=2)&&pc)&&!(decide (s.conj=2)&&decide (cj=2))&&!(s.odd&&decide (bk=6))
theorem stepS_eq (T:TM)(s:SSt)(r:Int):yO T s r=(⟨true,T.brk r,pictN s.pict (T.brk r) (T.pict r),conjN s.conj (T.conj r),decide (T.brk r=6)&&!s.odd⟩,!s.some_||cutN s (T.brk r) (T.conj r) (T.pict r)):=rfl
theorem step_any (g:Nat)(T:TM)(s:SSt)(r:Int)(w:World)(h:TabAt w g T)(hr:r32 r):
 Calls Tryz.prog 138 #[.agg (sstV s),.pointer (some ⟨g,0,none⟩),.int .i32 r] w (RetStep (yO T s r) w):=by
 obtain⟨HT,HR⟩:=hid2 h hr;rw[stepS_eq];obtain⟨some_,last,pict,conj,odd⟩:=s;unfold sstV;dsimp only;clear h hr;go_enter Tryz.func138,Tryz.ntmps138;go_upto_region 1 with fail;have ka:=((Kp.refl w).alloc (.cells #[.bool some_,.int .i64 last,.int .i64 pict,.int .i64 conj,.bool odd] 263)).alloc (.cells #[.bool false,.int .i64 0,.int .i64 0,.int .i64 0,.bool false] 263);have b0:=(Bx.new w #[.bool some_,.int .i64 last,.int .i64 pict,.int .i64 conj,.bool odd] 263).alloc (.cells #[.bool false,.int .i64 0,.int .i64 0,.int .i64 0,.bool false] 263);have b1:=Bx.new (w.alloc (.cells #[.bool some_,.int .i64 last,.int .i64 pict,.int .i64 conj,.bool odd] 263)) #[.bool false,.int .i64 0,.int .i64 0,.int .i64 0,.bool false] 263;rw[World.size_alloc]at b1;generalize((w.alloc (.cells #[.bool some_,.int .i64 last,.int .i64 pict,.int .i64 conj,.bool odd] 263)).alloc (.cells #[.bool false,.int .i64 0,.int .i64 0,.int .i64 0,.bool false] 263))=w1 at *;go_wp2_with fail;refine(zL g T r _ (HT.out.kp ka) HR.out).mono ?_;rintro e w2 ⟨rfl,k2⟩;go_wp2_with fail;refine(pict_any g T r _ (HT.out.kp (ka.trans k2)) HR.out).mono ?_;rintro e w3 ⟨rfl,k3⟩;go_wp2_with fail;refine(yC g T r _ (HT.out.kp ((ka.trans k2).trans k3)) HR.out).mono ?_;rintro e w4 ⟨rfl,k4⟩;have b0':=((b0.kp k2).kp k3).kp k4;have b1':=((b1.kp k2).kp k3).kp k4;have kd:=((ka.trans k2).trans k3).trans k4;clear b0 b1 ka k2 k3 k4 HT HR;generalize hbk:T.brk r=bk;generalize hcj:T.conj r=cj;generalize hpc:T.pict r=pc;obtain⟨HBK,HCJ,HPC⟩:=hid3 hbk hcj hpc;clear hbk hcj hpc;obtain⟨cb,hcb⟩:∃cb,cb=cutN ⟨some_,last,pict,conj,odd⟩ bk cj pc:=⟨_,rfl⟩;have HCB:=hid hcb;clear hcb;go_upto_region 2 with fail;go_cut [11] (fun v wx=>v=.bool cb∧Kp w wx∧Bx wx w.heap.size #[.bool some_,.int .i64 last,.int .i64 pict,.int .i64 conj,.bool odd] 263∧Bx wx (w.heap.size+1) #[.bool false,.int .i64 0,.int .i64 0,.int .i64 0,.bool false] 263)
 case first=>
  obtain⟨⟨p0,p1,p2,p3,p4⟩,_⟩:=b0'.five;go_wp2_with fail;refine(sticks_any last bk _).mono ?_;rintro e w5 ⟨rfl,k5⟩;have b0:=b0'.kp k5;have b1:=b1'.kp k5;have kk:=kd.trans k5;clear b0' b1' kd k5 p0 p1 p2 p3 p4;obtain⟨⟨p0,p1,p2,p3,p4⟩,_⟩:=b0.five;generalize hsk:sticksS last bk=sk;have hP:(pict==2)=false∨((pict==2)=true∧pc=true)∨((pict==2)=true∧pc=false):=by cases pc<;>cases(pict==2)<;>simp
  have hC:(conj==2)=false∨((conj==2)=true∧(cj==2)=true)∨((conj==2)=true∧(cj==2)=false):=by cases(conj==2)<;>cases(cj==2)<;>simp
  have hO:odd=false∨(odd=true∧(bk==6)=true)∨(odd=true∧(bk==6)=false):=by cases odd<;>cases(bk==6)<;>simp
  have HSK:=hid hsk;clear hsk;rcases sk with _|_
  ·rcases hP with hP|⟨hP,rfl⟩|⟨hP,rfl⟩<;>rcases hC with hC|⟨hC,hC2⟩|⟨hC,hC2⟩<;>rcases hO with rfl|⟨rfl,hO⟩|⟨rfl,hO⟩
   all_goals
    go_wp2_with fail;go_meet;refine⟨?_,kk,b0,b1⟩;rw[HCB.out];have h:=HSK.out;unfold cutN;dsimp only
    simp_all
  ·clear hP hC hO
   go_wp2_with fail;go_meet;refine⟨?_,kk,b0,b1⟩;rw[HCB.out];unfold cutN;dsimp only;rw[HSK.out];simp
 case rest=>
  obtain⟨rfl,kk,b0,b1⟩:=hcut;clear kd b0' b1';obtain⟨w5,hw5⟩:∃w5,w5=wc:=⟨_,rfl⟩;subst hw5;obtain⟨od,hod⟩:∃od,od=(decide (bk=6)&&!odd):=⟨_,rfl⟩;have HOD:=hid hod;clear hod;go_upto_region 3 with fail;go_cut [12] (fun v wx=>v=.pointer (some ⟨w5.heap.size,0,none⟩)∧Kp w wx∧Bx wx w.heap.size #[.bool some_,.int .i64 last,.int .i64 pict,.int .i64 conj,.bool odd] 263∧Bx wx (w.heap.size+1) #[.bool false,.int .i64 0,.int .i64 0,.int .i64 0,.bool false] 263∧Bx wx w5.heap.size #[.bool true,.int .i64 bk,.int .i64 0,.int .i64 0,.bool od] 263)
  case first=>
   obtain⟨⟨p0,p1,p2,p3,p4⟩,_⟩:=b0.five;by_cases h6:bk=6
   ·cases odd
    all_goals
     go_wp2_with fail;go_meet;refine⟨rfl,kk.alloc _,b0.alloc _,b1.alloc _,?_⟩;rw[HOD.out];simp only[h6];exact Bx.new _ _ _
   ·have h6':(bk==6)=false:=by simpa using h6
    go_wp2_with fail;go_meet;refine⟨rfl,kk.alloc _,b0.alloc _,b1.alloc _,?_⟩;rw[HOD.out,dF h6];exact Bx.new _ _ _
  case rest=>
   obtain⟨rfl,kk',b0',b1',b2⟩:=hcut;have hz5:w.heap.size+1<w5.heap.size:=b1.lt;clear kk b0 b1;obtain⟨w6,hw6⟩:∃w6,w6=wc:=⟨_,rfl⟩;subst hw6;have HZ5:Hid (w.heap.size+1<w5.heap.size):=hz5;obtain⟨nb,hnb⟩:∃nb,nb=w5.heap.size:=⟨_,rfl⟩;rw[←hnb]at b2 HZ5 hz5⊢;clear hnb;obtain⟨pn,hpn⟩:∃pn,pn=pictN pict bk pc:=⟨_,rfl⟩;have HPN:=hid hpn;clear hpn;go_upto_block 0 with fail;go_cut [] (fun wx=>Kp w wx∧Bx wx w.heap.size #[.bool some_,.int .i64 last,.int .i64 pict,.int .i64 conj,.bool odd] 263∧Bx wx (w.heap.size+1) #[.bool false,.int .i64 0,.int .i64 0,.int .i64 0,.bool false] 263∧Bx wx nb #[.bool true,.int .i64 bk,.int .i64 pn,.int .i64 0,.bool od] 263)
   case first=>
    obtain⟨⟨p0,p1,p2,p3,p4⟩,_⟩:=b0'.five;obtain⟨⟨q0,q1,q2,q3,q4⟩,f0,f1,f2,f3,f4⟩:=b2.five;have hP:pc=true∨(pc=false∧(pict==1)=false)∨(pc=false∧(pict==1)=true∧(bk==4)=true)∨(pc=false∧(pict==1)=true∧(bk==4)=false∧(bk==5)=true)∨(pc=false∧(pict==1)=true∧(bk==4)=false∧(bk==5)=false):=by
     cases pc<;>cases(pict==1)<;>cases(bk==4)<;>cases(bk==5)<;>simp
    rcases hP with rfl|⟨rfl,h1⟩|⟨rfl,h1,h2⟩|⟨rfl,h1,h2,h3⟩|⟨rfl,h1,h2,h3⟩
    all_goals
     go_wp2_with fail;go_meet
    all_goals
     rw[HPN.out];unfold pictN;refine⟨?_,?_,?_,?_⟩
     all_goals first
      |exact kk'.setCell (by show w.heap.size≤nb;omega) _
      |exact b0'.far (by show w.heap.size≠nb;omega) _
      |exact b1'.far (by show w.heap.size+1≠nb;omega) _
      |exact kk'
      |exact b0'
      |exact b1'
      |skip
    ·exact b2.set 2 (.int .i64 1)
    ·have h1':¬pict=1:=by simpa using h1
     rw[if_neg (by simp),if_neg (by omega),if_neg (by omega)];exact b2
    ·have h1':pict=1:=by simpa using h1
     have h2':bk=4:=by simpa using h2
     rw[if_neg (by simp),if_pos ⟨h1',h2'⟩];exact b2.set 2 (.int .i64 1)
    ·have h1':pict=1:=by simpa using h1
     have h2':¬bk=4:=by simpa using h2
     have h3':bk=5:=by simpa using h3
     rw[if_neg (by simp),if_neg (by omega),if_pos ⟨h1',h3'⟩];exact b2.set 2 (.int .i64 2)
    ·have h2':¬bk=4:=by simpa using h2
     have h3':¬bk=5:=by simpa using h3
     rw[if_neg (by simp),if_neg (by omega),if_neg (by omega)];exact b2
   case rest=>
    obtain⟨kk,b0,b1,b2'⟩:=hcut;clear kk' b0' b1' b2;obtain⟨w7,hw7⟩:∃w7,w7=wc:=⟨_,rfl⟩;subst hw7;obtain⟨cn,hcn⟩:∃cn,cn=conjN conj cj:=⟨_,rfl⟩;have HCN:=hid hcn;clear hcn;go_upto_block 1 with fail;go_cut [] (fun wx=>Kp w wx∧Bx wx w.heap.size #[.bool some_,.int .i64 last,.int .i64 pict,.int .i64 conj,.bool odd] 263∧Bx wx (w.heap.size+1) #[.bool false,.int .i64 0,.int .i64 0,.int .i64 0,.bool false] 263∧Bx wx nb #[.bool true,.int .i64 bk,.int .i64 pn,.int .i64 cn,.bool od] 263)
    case first=>
     obtain⟨⟨p0,p1,p2,p3,p4⟩,_⟩:=b0.five;obtain⟨⟨q0,q1,q2,q3,q4⟩,f0,f1,f2,f3,f4⟩:=b2'.five;have hC:(cj==2)=true∨((cj==2)=false∧(conj != 0)=false)∨((cj==2)=false∧(conj != 0)=true∧(cj==1)=true)∨((cj==2)=false∧(conj != 0)=true∧(cj==1)=false∧(cj==3)=true)∨((cj==2)=false∧(conj != 0)=true∧(cj==1)=false∧(cj==3)=false):=by
      cases(cj==2)<;>cases(conj != 0)<;>cases(cj==1)<;>cases(cj==3)<;>simp
     rcases hC with h0|⟨h0,h1⟩|⟨h0,h1,h2⟩|⟨h0,h1,h2,h3⟩|⟨h0,h1,h2,h3⟩
     all_goals
      go_wp2_with fail;go_meet
     all_goals
      rw[HCN.out];unfold conjN;refine⟨?_,?_,?_,?_⟩
      all_goals first
       |exact kk.setCell (by show w.heap.size≤nb;omega) _
       |exact b0.far (by show w.heap.size≠nb;omega) _
       |exact b1.far (by show w.heap.size+1≠nb;omega) _
       |exact kk
       |exact b0
       |exact b1
       |skip
     ·have h0':cj=2:=by simpa using h0
      rw[if_pos h0'];exact b2'.set 3 (.int .i64 1)
     ·have h0':¬cj=2:=by simpa using h0
      have h1':conj=0:=by simpa using h1
      rw[if_neg h0',if_neg (by omega),if_neg (by omega)];exact b2'
     ·have h0':¬cj=2:=by simpa using h0
      have h1':conj≠0:=by simpa using h1
      have h2':cj=1:=by simpa using h2
      rw[if_neg h0',if_pos ⟨h1',h2'⟩];exact b2'.set 3 (.int .i64 2)
     ·have h0':¬cj=2:=by simpa using h0
      have h1':conj≠0:=by simpa using h1
      have h2':¬cj=1:=by simpa using h2
      have h3':cj=3:=by simpa using h3
      rw[if_neg h0',if_neg (by omega),if_pos ⟨h1',h3'⟩];exact b2'.set 3 (.int .i64 conj)
     ·have h0':¬cj=2:=by simpa using h0
      have h2':¬cj=1:=by simpa using h2
      have h3':¬cj=3:=by simpa using h3
      rw[if_neg h0',if_neg (by omega),if_neg (by omega)];exact b2'
    case rest=>
     obtain⟨kk',b0',b1',b2⟩:=hcut;clear kk b0 b1 b2';obtain⟨w8,hw8⟩:∃w8,w8=wc:=⟨_,rfl⟩;subst hw8;obtain⟨⟨p0,p1,p2,p3,p4⟩,_⟩:=b0'.five;obtain⟨⟨q0,q1,q2,q3,q4⟩,f0,f1,f2,f3,f4⟩:=b2.five;obtain⟨⟨z0,z1,z2,z3,z4⟩,y0,y1,y2,y3,y4⟩:=b1'.five;have hcb:=HCB.out;have hbk:=HBK.out;have hcj:=HCJ.out;have hpc:=HPC.out;have hod:=HOD.out;have hpn:=HPN.out;have hcn:=HCN.out;have HF:Hid ((⟨⟨true,T.brk r,pictN pict (T.brk r) (T.pict r),conjN conj (T.conj r),decide (T.brk r=6)&&!odd⟩,!some_||cutN ⟨some_,last,pict,conj,odd⟩ (T.brk r) (T.conj r) (T.pict r)⟩:SSt×Bool)=(⟨true,bk,pn,cn,od⟩,!some_||cb)):=by
      show _=_;rw[hbk,hcj,hpc,←hcb,←hpn,←hcn,←hod]
     clear hcb hbk hcj hpc hod hpn hcn HBK HCJ HPC HOD HPN HCN HCB;cases some_
     ·go_wp2_with fail
      refine bodyPost_ret (v:=.tuple #[.agg #[.bool true,.int .i64 bk,.int .i64 pn,.int .i64 cn,.bool od],.bool true]) (by simp[results,Tryz.results138,go_sem,z0,z1,z2,z3,z4]) rfl ?_;rw[HF.out];refine⟨rfl,?_⟩;repeat(first|exact kk'|refine Kp.setCell ?_ (by show w.heap.size≤w.heap.size+1;omega) _)
     ·go_wp2_with fail
      refine bodyPost_ret (v:=.tuple #[.agg #[.bool true,.int .i64 bk,.int .i64 pn,.int .i64 cn,.bool od],.bool cb]) (by simp[results,Tryz.results138,go_sem,z0,z1,z2,z3,z4]) rfl ?_;rw[HF.out];refine⟨rfl,?_⟩;repeat(first|exact kk'|refine Kp.setCell ?_ (by show w.heap.size≤w.heap.size+1;omega) _)
section
variable {w w0:World}{b b':Nat}{t:TypeId}{x y z u v:Value}
def set5 (w:World)(b:Nat)(x y z u v:Value):World:=((((w.setCell ⟨b,0,none⟩ x).setCell ⟨b,1,none⟩ y).setCell ⟨b,2,none⟩ z).setCell ⟨b,3,none⟩ u).setCell ⟨b,4,none⟩ v
theorem bx_set5 {x' y' z' u' v':Value}(h:Bx w b #[x',y',z',u',v'] t)(x y z u v:Value):Bx (set5 w b x y z u v) b #[x,y,z,u,v] t:=((((h.set 0 x).set 1 y).set 2 z).set 3 u).set 4 v
theorem far5 {cs:Array Value}(h:Bx w b' cs t)(n:b'≠b)(x y z u v:Value):Bx (set5 w b x y z u v) b' cs t:=
 ((((h.far (p:=⟨b,0,none⟩) n x).far (p:=⟨b,1,none⟩) n y).far (p:=⟨b,2,none⟩) n z).far (p:=⟨b,3,none⟩) n u).far (p:=⟨b,4,none⟩) n v
theorem set5_kp (h:Kp w0 w)(n:w0.heap.size≤b)(x y z u v:Value):Kp w0 (set5 w b x y z u v):=
 ((((h.setCell (p:=⟨b,0,none⟩) n x).setCell (p:=⟨b,1,none⟩) n y).setCell (p:=⟨b,2,none⟩) n z).setCell (p:=⟨b,3,none⟩) n u).setCell (p:=⟨b,4,none⟩) n v
theorem own_set5 {base:Nat}{e:TypeId}{size n c:Nat}{A:Option Addr}{xs:List Value}(h:Own w base e size A n c xs)(n':b<base)(x y z u v:Value):Own (set5 w b x y z u v) base e size A n c xs:=by
 have hr:zB A≠some b:=fun e=>by have:=(h.lt _ e).1;omega
 exact((((h.setCell (p:=⟨b,0,none⟩) hr x).setCell (p:=⟨b,1,none⟩) hr y).setCell (p:=⟨b,2,none⟩) hr z).setCell (p:=⟨b,3,none⟩) hr u).setCell (p:=⟨b,4,none⟩) hr v
theorem held5 {x' y' z' u' v' q:Value}{a:Addr}(h:Bx w b #[x',y',z',u',v'] t)(ha:w.cell? a=some q)(n:b≠b')(m:a.block≠b')(x y z u v:Value):
 (((((w.setCell ⟨b',0,none⟩ x).setCell ⟨b',1,none⟩ y).setCell ⟨b',2,none⟩ z).setCell ⟨b',3,none⟩ u).setCell ⟨b',4,none⟩ v).cell? ⟨b,0,none⟩=some x'∧
 (((((w.setCell ⟨b',0,none⟩ x).setCell ⟨b',1,none⟩ y).setCell ⟨b',2,none⟩ z).setCell ⟨b',3,none⟩ u).setCell ⟨b',4,none⟩ v).cell? ⟨b,1,none⟩=some y'∧
 (((((w.setCell ⟨b',0,none⟩ x).setCell ⟨b',1,none⟩ y).setCell ⟨b',2,none⟩ z).setCell ⟨b',3,none⟩ u).setCell ⟨b',4,none⟩ v).cell? ⟨b,2,none⟩=some z'∧
 (((((w.setCell ⟨b',0,none⟩ x).setCell ⟨b',1,none⟩ y).setCell ⟨b',2,none⟩ z).setCell ⟨b',3,none⟩ u).setCell ⟨b',4,none⟩ v).cell? ⟨b,3,none⟩=some u'∧
 (((((w.setCell ⟨b',0,none⟩ x).setCell ⟨b',1,none⟩ y).setCell ⟨b',2,none⟩ z).setCell ⟨b',3,none⟩ u).setCell ⟨b',4,none⟩ v).cell? ⟨b,4,none⟩=some v'∧
 (((((w.setCell ⟨b',0,none⟩ x).setCell ⟨b',1,none⟩ y).setCell ⟨b',2,none⟩ z).setCell ⟨b',3,none⟩ u).setCell ⟨b',4,none⟩ v).cell? a=some q:=by
 have hf:=far5 h n x y z u v;refine⟨hf.cell 0,hf.cell 1,hf.cell 2,hf.cell 3,hf.cell 4,?_⟩;have hk:(set5 w b' x y z u v).heap[a.block]? =w.heap[a.block]? :=by
  unfold set5;rw[Below.heap_setCell _ _ _ _ m,Below.heap_setCell _ _ _ _ m,Below.heap_setCell _ _ _ _ m,Below.heap_setCell _ _ _ _ m,Below.heap_setCell _ _ _ _ m]
 exact(World.cell?_of_block hk).trans ha
end
theorem drop_cons {l:List Int}{k:Nat}(h:k<l.length):l.drop k=gN l k::l.drop (k+1):=by
 rw[List.drop_eq_getElem_cons h];unfold gN;rw[List.getElem?_eq_getElem h];rfl
theorem goon_at (T:TM)(s:SSt){l:List Int}{k:Nat}(h:k<l.length):goonS T s (l.drop k)=if(yO T s (gN l k)).2=true then 0 else goonS T (yO T s (gN l k)).1 (l.drop (k+1))+1:=by
 rw[drop_cons h];rfl
theorem goon_end (T:TM)(s:SSt){l:List Int}{k:Nat}(h:l.length≤k):goonS T s (l.drop k)=0:=by rw[List.drop_of_length_le h];rfl
theorem next_out (A:Option Addr)(n c:Nat)(at_:Int)(g:Nat)(w:World)(h:at_<0∨(n:Int)≤at_):
 Calls Tryz.prog 205 #[.pointer (some ⟨g,0,none⟩),.slice A n c,.int .i64 at_] w fun e w'=>e=.returned (.int .i64 n)∧Kp w w':=by
 rcases(by omega:at_<0∨(¬at_<0∧(n:Int)≤at_))with h|⟨h,h2⟩
 ·go_enter Tryz.func205,Tryz.ntmps205
  go_wp2_with fail;go_ret;exact⟨rfl,Kp.refl _⟩
 ·go_enter Tryz.func205,Tryz.ntmps205
  go_wp2_with fail;go_ret;exact⟨rfl,Kp.refl _⟩
theorem next_any (F:Nat→Prop)(g:Nat)(T:TM)(A:Option Addr)(n c:Nat)(l:List Int)(at_:Int)(w:World)(h:TabAt w g T)(hl:Ru w F A n c l)(h32:R32ok l):
 Calls Tryz.prog 205 #[.pointer (some ⟨g,0,none⟩),.slice A n c,.int .i64 at_] w fun e w'=>e=.returned (.int .i64 (zP T l at_))∧Kp w w':=by
 have hlen:=hl.len;have hle:=hl.le;have hcap:=hl.cap;unfold maxLen at hcap;by_cases ho:at_<0∨(n:Int)≤at_
 ·rw[show zP T l at_=n by unfold zP;rw[hlen,if_pos ho]]
  exact next_out A n c at_ g w ho
 ·obtain⟨a,rfl⟩:=Int.eq_ofNat_of_zero_le (by omega:0≤at_)
  have han:a<n:=by omega
  have HV:Hid (zP T l a=((a+1+goonS T (yO T SSt.zero (gN l a)).1 (l.drop (a+1)):Nat):Int)):=by
   show _=_;unfold zP;rw[hlen,if_neg ho,Int.toNat_natCast];unfold gN;omega
  rw[HV.out];obtain⟨HT,H32,HL⟩:=hid3 h h32 hlen;obtain⟨ad,rfl,hc0⟩:=hl.getN han;have h1:¬(a:Int)<0:=by omega
  have h2:¬(n:Int)≤a:=by omega
  clear h h32 hlen ho HV;go_enter Tryz.func205,Tryz.ntmps205;go_wp2_with fail;refine(step_any g T SSt.zero (gN l a) _ HT.out H32.out.get).mono ?_;rintro e w1 ⟨rfl,k1⟩;obtain⟨p1,hp1⟩:∃p1,p1=yO T SSt.zero (gN l a):=⟨_,rfl⟩;rw[←hp1];obtain⟨s1,cb1⟩:=p1;have HP1:Hid ((yO T SSt.zero (gN l a)).1=s1):=by show _=_;rw[←hp1]
  clear hp1;unfold sstV;dsimp only;have hcs:∀k,k<n→w.cell? (ad.add k)=some (.int .i32 (gN l k)):=fun k hk=>by
   obtain⟨ad',e,h⟩:=hl.getN hk;cases e
   exact h
  have HCS:=hid hcs;have han1:a+1≤n:=by omega
  clear hcs hl hc0 h1 h2;obtain⟨B,hB⟩:∃B,B=w1.heap.size:=⟨_,rfl⟩;have kB:Kp w (w1.alloc (.cells #[.bool s1.some_,.int .i64 s1.last,.int .i64 s1.pict,.int .i64 s1.conj,.bool s1.odd] 263)):=k1.alloc _;have bB:Bx (w1.alloc (.cells #[.bool s1.some_,.int .i64 s1.last,.int .i64 s1.pict,.int .i64 s1.conj,.bool s1.odd] 263)) w1.heap.size (sstV s1) 263:=Bx.new _ _ _;obtain⟨HKB,HBB,HwB⟩:=hid3 kB bB (show w.heap.size≤w1.heap.size from k1.size);clear kB bB hB;go_wp2_with fail;go_loopw [2] (fun v wr=>∃(k:Nat) (s:SSt),v=.int .i64 k∧a+1≤k∧k≤n∧Kp w wr∧Bx wr w1.heap.size (sstV s) 263∧Hid (k+goonS T s (l.drop k)=a+1+goonS T s1 (l.drop (a+1)))) (fun v _=>n - (intOf v).toNat)
  case atStart=>exact⟨a+1,s1,by go_num,le_,han1,HKB.out,HBB.out,rfl⟩
  case round=>
   obtain⟨k,s,rfl,hak,hkn,kr,br,hgo⟩:=hrel;by_cases hlt:k<n
   ·have hck:=zE kr (HCS.out k hlt)
    have hst:=fun(wx:World) (hx:TabAt wx g T)=>step_any g T s (gN l k) wx hx H32.out.get
    have hga:=goon_at T s (l:=l) (k:=k) (by rw[HL.out];exact hlt);have HTR:=hid (HT.out.kp kr);generalize yO T s (gN l k)=p at hst hga;obtain⟨sn,cb⟩:=p;unfold RetStep sstV at hst;dsimp only at hst hga;obtain⟨HST,HGA,HGO⟩:=hid3 hst hga hgo.out;clear hst hga hgo;unfold sstV at br;obtain⟨⟨p0,p1,p2,p3,p4⟩,f0,f1,f2,f3,f4⟩:=br.five;generalize gN l k=x at *;go_upto_region 7 with fail;have hbl:(ad.add k).block≠wr.heap.size:=Nat.ne_of_lt (World.block_lt_of_cell? wr _ hck);go_cut [9,10] (fun qb v wx=>∃nb:Nat,qb=.pointer (some ⟨nb,0,none⟩)∧v=.bool cb∧Bx wx nb #[.bool sn.some_,.int .i64 sn.last,.int .i64 sn.pict,.int .i64 sn.conj,.bool sn.odd] 263∧
     Bx wx w1.heap.size #[.bool s.some_,.int .i64 s.last,.int .i64 s.pict,.int .i64 s.conj,.bool s.odd] 263∧Kp w wx)
    case first=>
     have nB:w1.heap.size≠wr.heap.size:=Nat.ne_of_lt br.lt;go_region_held3 (fun w'=>w'.cell? ⟨w1.heap.size,0,none⟩=some (.bool s.some_)∧w'.cell? ⟨w1.heap.size,1,none⟩=some (.int .i64 s.last)∧w'.cell? ⟨w1.heap.size,2,none⟩=some (.int .i64 s.pict)∧w'.cell? ⟨w1.heap.size,3,none⟩=some (.int .i64 s.conj)∧w'.cell? ⟨w1.heap.size,4,none⟩=some (.bool s.odd)∧w'.cell? (ad.add k)=some (.int .i32 x))
      (first|(with_reducible exact⟨u0,u1,u2,u3,u4,uc⟩)|(with_reducible exact held5 b1 uc nB mB _ _ _ _ _)|(with_reducible exact held5 (b1.alloc _) ucA nB1 mB1 _ _ _ _ _)|go_keep)
      ((go_at_call 138;go_loud (refine(HST.out _ (by first|exact HTR.out.kp (Kp.refl wr).drew|exact HTR.out.kp ((Kp.refl wr).drew.alloc _))).mono ?_);rintro e w2 ⟨rfl,k2⟩;(first|(have k0:Kp wr w2:=(Kp.refl wr).drew.trans k2)|(have k0:Kp wr w2:=((Kp.refl wr).drew.alloc _).trans k2));have b1:=br.kp k0;have uc:=zE k0 hck;have nB1:w1.heap.size≠w2.heap.size:=Nat.ne_of_lt b1.lt;have mB:(ad.add k).block≠wr.heap.size:=hbl;have mB1:(ad.add k).block≠w2.heap.size:=Nat.ne_of_lt (World.block_lt_of_cell? w2 _ uc);have ucA:∀o:Obj,(w2.alloc o).cell? (ad.add k)=some (.int .i32 x):=fun o=>zE ((Kp.refl w2).alloc o) uc;have hz1:=k0.size;(first|(have f0:Bx w2 wr.heap.size _ _:=Bx.kp (Bx.new wr.drew _ _) k2;have hl0:=f0.lt;obtain⟨⟨a0,a1,a2,a3,a4⟩,d0,d1,d2,d3,d4⟩:=f0.five)|skip);obtain⟨⟨u0,u1,u2,u3,u4⟩,v0,v1,v2,v3,v4⟩:=b1.five;obtain⟨⟨x0,x1,x2,x3,x4⟩,y0,y1,y2,y3,y4⟩:=Bx.five (Bx.new w2 #[.bool false,.int .i64 0,.int .i64 0,.int .i64 0,.bool false] 263)))
     all_goals go_wp2_with fail
     all_goals go_meet
     all_goals first
      |(have hf:=f0;exact⟨wr.heap.size,rfl,rfl,bx_set5 f0 (.bool sn.some_) (.int .i64 sn.last) (.int .i64 sn.pict) (.int .i64 sn.conj) (.bool sn.odd),far5 b1 nB (.bool sn.some_) (.int .i64 sn.last) (.int .i64 sn.pict) (.int .i64 sn.conj) (.bool sn.odd),set5_kp (kr.trans k0) kr.size (.bool sn.some_) (.int .i64 sn.last) (.int .i64 sn.pict) (.int .i64 sn.conj) (.bool sn.odd)⟩)
      |exact⟨w2.heap.size,rfl,rfl,Bx.new _ _ _,b1.alloc _,(kr.trans k0).alloc _⟩
    case rest=>
     obtain⟨nb,rfl,rfl,bn,bB,kk⟩:=hcut;obtain⟨w3,hw3⟩:∃w3,w3=wc:=⟨_,rfl⟩;subst hw3;clear br kr p0 p1 p2 p3 p4 f0 f1 f2 f3 f4 hck hbl;obtain⟨⟨p0,p1,p2,p3,p4⟩,f0,f1,f2,f3,f4⟩:=bB.five;obtain⟨⟨q0,q1,q2,q3,q4⟩,_⟩:=bn.five;cases cb
     ·go_wp2_with fail
      have hg1:=HGA.out;rw[if_neg (by simp)]at hg1;have hg2:=HGO.out;go_roundw
      case rel=>exact⟨k+1,sn,by go_num,by omega,by omega,set5_kp kk HwB.out (.bool sn.some_) (.int .i64 sn.last) (.int .i64 sn.pict) (.int .i64 sn.conj) (.bool sn.odd),bx_set5 bB (.bool sn.some_) (.int .i64 sn.last) (.int .i64 sn.pict) (.int .i64 sn.conj) (.bool sn.odd),by show _=_;omega⟩
      case measure=>simp[intOf];omega
     ·go_wp2_with fail
      go_ret;have hg1:=HGA.out;simp only[if_true]at hg1;have hg2:=HGO.out;rw[HP1.out];exact⟨zC (by omega),kk⟩
   ·have hkn':k=n:=by omega
    have hge:=goon_end T s (l:=l) (k:=k) (by rw[HL.out];omega);have HGE:=hid hge;clear hge;subst hkn';go_wp2_with fail;go_ret;have hg1:=HGE.out;have hg2:=hgo.out;rw[HP1.out];exact⟨zC (by omega),kr⟩
theorem infoInt:(Tryz.prog.info? 3).map (fun i=>(i.zero,i.size,i.bytes))=some (some (.int .i64 0),1,8):=by kernel_rfl
theorem take_snoc {l:List Int}{k:Nat}(h:k<l.length):l.take (k+1)=l.take k++[gN l k]:=by
 rw[List.take_succ_eq_append_getElem h];unfold gN;rw[List.getElem?_eq_getElem h];rfl
def stF (T:TM)(x:List Int×SSt×Nat)(r:Int):List Int×SSt×Nat:=(if(yO T x.2.1 r).2=true then x.1++[(x.2.2:Int)]else x.1,(yO T x.2.1 r).1,x.2.2+1)
def RetNu (xs:List Int)(w:World)(e:Ending)(w':World):Prop:=∃A n c,e=.returned (.slice A n c)∧Nu w' (From w.heap.size) A n c xs∧Kp w w'
theorem starts_any (F:Nat→Prop)(g:Nat)(T:TM)(A:Option Addr)(n c:Nat)(l:List Int)(w:World)(h:TabAt w g T)(hl:Ru w F A n c l)(h32:R32ok l)(hn:n≤1099511627776):
 Calls Tryz.prog 100 #[.pointer (some ⟨g,0,none⟩),.slice A n c] w (RetNu (startsS T l).1 w):=by
 have hlen:=hl.len;have hle:=hl.le;have hcap:=hl.cap;unfold maxLen at hcap;obtain⟨HT,H32,HL,HRL⟩:=hid4 h h32 hlen hl;have HS:Hid ((startsS T l).1=(l.foldl (stF T) ([],SSt.zero,0)).1):=rfl;clear h h32 hlen hl;go_enter Tryz.func100,Tryz.ntmps100;go_wp2_with fail;have b0:=Bx.new w #[.bool false,.int .i64 0,.int .i64 0,.int .i64 0,.bool false] 263;have k0:=(Kp.refl w).alloc (.cells #[.bool false,.int .i64 0,.int .i64 0,.int .i64 0,.bool false] 263);have hz0:(w.alloc (.cells #[.bool false,.int .i64 0,.int .i64 0,.int .i64 0,.bool false] 263)).heap.size=w.heap.size+1:=by simp
 obtain⟨HB0,HK0,HZ0⟩:=hid3 b0 k0 hz0;clear b0 k0 hz0;go_loopw [13,6] (fun v u wr=>∃(k m cc:Nat) (A1:Option Addr) (ys:List Int) (s:SSt),v=.int .i64 k∧u=.slice A1 m cc∧k≤n∧m≤k∧Kp w wr∧Bx wr w.heap.size (sstV s) 263∧
  Own wr (w.heap.size+1) 3 1 A1 m cc (R64 ys)∧Hid ((l.take k).foldl (stF T) ([],SSt.zero,0)=(ys,s,k))) (fun v _ _=>n - (intOf v).toNat)
 case atStart=>exact⟨0,0,0,none,[],SSt.zero,rfl,rfl,Nat.zero_le _,le_,HK0.out,HB0.out,Own.nil _ _ _ _,rfl⟩
 case round=>
  obtain⟨k,m,cc,A1,ys,s,rfl,rfl,hkn,hmk,kr,br,ho,hfo⟩:=hrel;by_cases hlt:k<n
  ·obtain⟨ad,rfl,hck⟩:=(HRL.out.kp kr).getN hlt
   have hst:=fun(wx:World) (hx:TabAt wx g T)=>step_any g T s (gN l k) wx hx H32.out.get
   have HTR:=hid (HT.out.kp kr);have hf1:(l.take (k+1)).foldl (stF T) ([],SSt.zero,0)=stF T (ys,s,k) (gN l k):=by
    rw[take_snoc (by rw[HL.out];exact hlt),List.foldl_append,hfo.out];rfl
   unfold stF at hf1;dsimp only at hf1;generalize yO T s (gN l k)=p at hst hf1;obtain⟨sn,cb⟩:=p;unfold RetStep sstV at hst;dsimp only at hst hf1;have HST:=hid hst;have HF1:Hid ((l.take (k+1)).foldl (stF T) ([],SSt.zero,0)=(if cb=true then ys++[(k:Int)]else ys,sn,k+1)):=hf1;clear hst hf1 hfo;unfold sstV at br;obtain⟨⟨p0,p1,p2,p3,p4⟩,f0,f1,f2,f3,f4⟩:=br.five;have hbr:=br.lt;generalize gN l k=x at *;go_upto_region 6 with fail;go_wp2_with fail;refine(HST.out _ HTR.out).mono ?_;rintro e w2 ⟨rfl,k2⟩;have bB:=br.kp k2;have bN:=Bx.new w2 #[.bool sn.some_,.int .i64 sn.last,.int .i64 sn.pict,.int .i64 sn.conj,.bool sn.odd] 263;have bB1:=bB.alloc (.cells #[.bool sn.some_,.int .i64 sn.last,.int .i64 sn.pict,.int .i64 sn.conj,.bool sn.odd] 263);have k3:=(kr.trans k2).alloc (.cells #[.bool sn.some_,.int .i64 sn.last,.int .i64 sn.pict,.int .i64 sn.conj,.bool sn.odd] 263);have ho3:=(ho.kp k2).alloc (.cells #[.bool sn.some_,.int .i64 sn.last,.int .i64 sn.pict,.int .i64 sn.conj,.bool sn.odd] 263);have hz2:w.heap.size<w2.heap.size:=bB.lt;have hol:∀j,zB A1=some j→j<w2.heap.size:=fun j e=>((ho.kp k2).lt j e).2
   clear p0 p1 p2 p3 p4 f0 f1 f2 f3 f4 br kr ho k2 bB hck;go_upto_region 7 with fail;generalize(w2.alloc (.cells #[.bool sn.some_,.int .i64 sn.last,.int .i64 sn.pict,.int .i64 sn.conj,.bool sn.odd] 263))=w3 at *;have hnl:∀j,zB A1=some j→j<w2.heap.size:=hol;generalize w2.heap.size=nb at *;cases cb
   ·obtain⟨⟨p0,p1,p2,p3,p4⟩,f0,f1,f2,f3,f4⟩:=bB1.five
    obtain⟨⟨q0,q1,q2,q3,q4⟩,_⟩:=bN.five;go_wp2_with fail;go_roundw
    case rel=>
     refine⟨k+1,m,cc,A1,ys,sn,by go_num,rfl,by omega,by omega,set5_kp k3 le_ (.bool sn.some_) (.int .i64 sn.last) (.int .i64 sn.pict) (.int .i64 sn.conj) (.bool sn.odd),bx_set5 bB1 (.bool sn.some_) (.int .i64 sn.last) (.int .i64 sn.pict) (.int .i64 sn.conj) (.bool sn.odd),?_,HF1.out⟩;exact own_set5 ho3 (by omega) (.bool sn.some_) (.int .i64 sn.last) (.int .i64 sn.pict) (.int .i64 sn.conj) (.bool sn.odd)
    case measure=>simp[intOf];omega
   ·have hz3:w.heap.size+1≤w3.heap.size:=by have:=bB1.lt;omega
    go_upto_region 9 with(at_builtin;refine zA _ rfl _ _ _ rfl (w.heap.size+1) 3 _ 1 8 Tryz.underlying126 infoInt rfl (by omega) A1 m cc (R64 ys) rfl (ho3.alloc _) Any _ 1 1 [.int .i64 (k:Int)] rfl (Sl.new_ w3 #[.int .i64 (k:Int)] _ 1 1 _ rfl trivial rfl (by omega)) (by simp[Value.oneCell']) (by simp only[maxLen];omega) (by omega) (by simp;omega) ?_;intro A4 c4 w4 hown4 hg4 hat4);have hr1:∀j,zB A1=some j→w.heap.size+1≤j:=fun j e=>(ho3.lt j e).1
    have bB4:=(bB1.alloc (.cells #[.int .i64 (k:Int)] 3)).grown hg4 (fun e=>by have:=hr1 _ e;omega);have hne:zB A1≠some nb:=fun e=>by have:=hnl _ e;omega
    have bN4:=(bN.alloc (.cells #[.int .i64 (k:Int)] 3)).grown hg4 hne;have k4:=Kp.grown (k3.alloc (.cells #[.int .i64 (k:Int)] 3)) hg4 (fun j e=>by have:=hr1 _ e;omega);have hown5:Own w4 (w.heap.size+1) 3 1 A4 (m+1) c4 (R64 (ys++[(k:Int)])):=by rw[←xJ];exact hown4
    clear hown4 hg4 hat4 bB1 bN ho3 k3;obtain⟨⟨p0,p1,p2,p3,p4⟩,f0,f1,f2,f3,f4⟩:=bB4.five;obtain⟨⟨q0,q1,q2,q3,q4⟩,_⟩:=bN4.five;go_wp2_with fail;go_roundw
    case rel=>
     refine⟨k+1,m+1,c4,A4,ys++[(k:Int)],sn,by go_num,rfl,by omega,by omega,set5_kp k4 le_ (.bool sn.some_) (.int .i64 sn.last) (.int .i64 sn.pict) (.int .i64 sn.conj) (.bool sn.odd),bx_set5 bB4 (.bool sn.some_) (.int .i64 sn.last) (.int .i64 sn.pict) (.int .i64 sn.conj) (.bool sn.odd),?_,?_⟩
     ·exact own_set5 hown5 (by omega) (.bool sn.some_) (.int .i64 sn.last) (.int .i64 sn.pict) (.int .i64 sn.conj) (.bool sn.odd)
     ·have:=HF1.out;rw[if_pos rfl]at this;exact this
    case measure=>simp[intOf];omega
  ·have HF:Hid ((startsS T l).1=ys):=by
    show _=_;have hkn':k=n:=by omega
    have h1:=hfo.out;rw[List.take_of_length_le (by rw[HL.out];omega)]at h1;rw[HS.out,h1]
   go_wp2_with fail;go_ret;rw[HF.out];exact⟨A1,m,cc,rfl,Sl.weak ho.sl (fun j _ h=>by unfold From at h⊢;omega),kr⟩
theorem nan_cmp (x:Int)(w:World):Calls Tryz.prog 94 #[.int .i64 x] w fun e w'=>e=.returned (.bool false)∧w'=w:=by
 go_enter Tryz.func94,Tryz.ntmps94;go_wp2;go_ret;exact⟨rfl,rfl⟩
theorem nan_slices (x:Int)(w:World):Calls Tryz.prog 180 #[.int .i64 x] w fun e w'=>e=.returned (.bool false)∧w'=w:=by
 go_enter Tryz.func180,Tryz.ntmps180;go_wp2;go_ret;exact⟨rfl,rfl⟩
theorem less_any (x y:Int)(w:World):Calls Tryz.prog 179 #[.int .i64 x,.int .i64 y] w fun e w'=>e=.returned (.bool (decide (x<y)))∧w'=w:=by
 go_enter Tryz.func179,Tryz.ntmps179;go_wp2_with fail;refine(nan_cmp x _).mono ?_;rintro e w1 ⟨rfl,hw⟩;subst w1;go_wp2_with fail;go_ret;exact⟨rfl,rfl⟩
def cmpI (x y:Int):Int:=if x<y then -1 else if y<x then 1 else 0
theorem compare_any (x y:Int)(w:World):Calls Tryz.prog 52 #[.int .i64 x,.int .i64 y] w fun e w'=>e=.returned (.int .i64 (cmpI x y))∧w'=w:=by
 obtain⟨v,hv⟩:∃v,v=cmpI x y:=⟨_,rfl⟩;rw[←hv];have HV:=hid hv;clear hv;go_enter Tryz.func52,Tryz.ntmps52;go_wp2_with fail;refine(nan_cmp x _).mono ?_;rintro e w1 ⟨rfl,hw⟩;subst w1;go_wp2_with fail;refine(nan_cmp y _).mono ?_;rintro e w1 ⟨rfl,hw⟩;subst w1;go_wp2_with fail
 all_goals
  go_ret;refine⟨zC ?_,rfl⟩;rw[HV.out];unfold cmpI;first|(rw[if_pos (by assumption)])|(rw[if_neg (by omega),if_pos (by omega)])|(rw[if_neg (by omega),if_neg (by omega)])
theorem bs_any (F:Nat→Prop)(A:Option Addr)(n c:Nat)(l:List Int)(x:Int)(w:World)(hl:Nu w F A n c l)(hn:n≤1099511627776):
 Calls Tryz.prog 143 #[.slice A n c,.int .i64 x] w fun e w'=>e=.returned (.tuple #[.int .i64 (bsI l x:Int),.bool (bsOk l x)])∧w'=w:=by
 have hlen:=hl.len;have hle:=hl.le;have hcap:=hl.cap;unfold maxLen at hcap;obtain⟨HRL,HL⟩:=hid2 hl hlen;have HV:Hid (bsI l x=bsP (fun h=>decide (gN l h<x)) n 0 n):=by show _=_;unfold bsI;rw[hlen]
 have HK:=hid (show bsOk l x=(decide (bsI l x<n)&&decide (gN l (bsI l x)=x)) by unfold bsOk;rw[hlen]);clear hl hlen;go_enter Tryz.func143,Tryz.ntmps143;go_wp2_with fail;go_loopw [7,8] (fun u v wr=>∃i j k:Nat,u=.int .i64 i∧v=.int .i64 j∧i≤j∧j≤n∧wr=w∧Hid (bsI l x=bsP (fun h=>decide (gN l h<x)) k i j∧j - i≤k)) (fun u v _=>(intOf v - intOf u).toNat)
 case atStart=>exact⟨0,n,n,rfl,rfl,Nat.zero_le _,le_,rfl,HV.out,by omega⟩
 case round=>
  obtain⟨i,j,k,rfl,rfl,hij,hjn,rfl,hbs⟩:=hrel;by_cases hlt:i<j
  ·have hmid:(i+j) / 2<n:=by omega
   obtain⟨ad,rfl,hc⟩:=HRL.out.get hmid;have hbo:=hbs.out;by_cases hp:gN l ((i+j) / 2)<x
   ·have h2:=bsP_yes (fun h=>decide (gN l h<x)) (k:=k) hlt hbo.2 (by simpa using hp)
    have HN:Hid (bsI l x=bsP (fun h=>decide (gN l h<x)) (k - 1) ((i+j) / 2+1) j∧j - ((i+j) / 2+1)≤k - 1):=⟨by rw[hbo.1,h2],by omega⟩;clear h2 hbo hbs;have hq:=dT hp;clear hp;go_wp2_with fail;refine(less_any (gN l ((i+j) / 2)) x _).mono ?_;rintro e w1 ⟨rfl,hw⟩;subst w1;go_wp2_with fail;go_roundw
    case rel=>exact⟨(i+j) / 2+1,j,k - 1,by rw[show((i:Int)+(j:Int)) / 2+1=(((i+j) / 2+1:Nat):Int) by omega],rfl,by omega,hjn,trivial,HN.out⟩
    case measure=>simp[intOf];omega
   ·have h2:=bsP_no (fun h=>decide (gN l h<x)) (k:=k) hlt hbo.2 (by simpa using hp)
    have HN:Hid (bsI l x=bsP (fun h=>decide (gN l h<x)) (k - 1) i ((i+j) / 2)∧(i+j) / 2 - i≤k - 1):=⟨by rw[hbo.1,h2],by omega⟩;clear h2 hbo hbs;have hq:=dF hp;clear hp;go_wp2_with fail;refine(less_any (gN l ((i+j) / 2)) x _).mono ?_;rintro e w1 ⟨rfl,hw⟩;subst w1;go_wp2_with fail;go_roundw
    case rel=>exact⟨i,(i+j) / 2,k - 1,rfl,by rw[show((i:Int)+(j:Int)) / 2=(((i+j) / 2:Nat):Int) by omega],by omega,by omega,trivial,HN.out⟩
    case measure=>simp[intOf];omega
  ·have hij':i=j:=by omega
   subst hij';have hbo:=hbs.out;rw[bsP_stop _ _ _ _ (by omega)]at hbo;have HB:Hid (bsI l x=i):=hbo.1;clear hbo hbs;by_cases hin:i<n
   ·obtain⟨ad,rfl,hc⟩:=HRL.out.get hin
    have HC:Hid (bsOk l x=decide (gN l i=x)):=by show _=_;rw[HK.out,HB.out,decide_eq_true hin,Bool.true_and]
    rcases hq:(gN l i==x)with _|_
    ·have HE:Hid (bsOk l x=false):=by show _=_;rw[HC.out];simpa using hq
     go_wp2_with fail;refine(nan_slices (gN l i) _).mono ?_;rintro e w1 ⟨rfl,hw⟩;subst w1;go_wp2_with fail;go_ret2;rw[HB.out,HE.out];exact⟨rfl,rfl⟩
    ·have HE:Hid (bsOk l x=true):=by show _=_;rw[HC.out];simpa using hq
     go_wp2_with fail;go_ret2;rw[HB.out,HE.out];exact⟨rfl,rfl⟩
   ·have HE:Hid (bsOk l x=false):=by show _=_;rw[HK.out,HB.out,decide_eq_false hin,Bool.false_and]
    go_wp2_with fail;go_ret2;rw[HB.out,HE.out];exact⟨rfl,rfl⟩
theorem get_int_d (tB:Nat)(g:Nat→Int)(i v:Int)(w:World)(h:TrAt w 185 1 tB (fun i=>[.int .i64 (g i)]))(h0:i<0∨1114112≤i→v=0)(h1:0≤i→i<1114112→v=g i.toNat):
 Calls Tryz.prog 97 #[.pointer (some ⟨tB,0,none⟩),.int .i64 i] w fun e w'=>e=.returned (.int .i64 v)∧Dr w w':=by
 obtain⟨ia,ba,ni,ci,nb,cb,ix,hb,a1,a2,a3,a4,a5,a6,a7⟩:=h;obtain⟨b0,b1,b2,_,_,_⟩:=hb.three;unfold maxLen at a3 a5;by_cases hi0:i<0
 ·rw[h0 (.inl hi0)]
  clear a6 a7 h0 h1;go_enter Tryz.func97,Tryz.ntmps97;go_wp2_with fail;go_ret;exact⟨rfl,.refl _⟩
 ·by_cases hi1:1114112≤i
  ·rw[h0 (.inr hi1)]
   clear a6 a7 h0 h1;go_enter Tryz.func97,Tryz.ntmps97;go_wp2_with fail;go_ret;exact⟨rfl,.refl _⟩
  ·obtain⟨j,rfl⟩:=Int.eq_ofNat_of_zero_le (Int.not_lt.1 hi0)
   rw[h1 (by omega) (by omega),Int.toNat_natCast];obtain⟨c1,c2⟩:=a6 (j / 128) (by omega);have c3:=a7 j 0 _ (by omega) rfl;rw[add_zero,←xN,Nat.mul_one,Nat.mul_one]at c3;have hq:IntKind.i64.wrap ((j:Int) / 128)=((j / 128:Nat):Int):=by rw[zV (by omega) (by omega)];rfl
   have hr:(j:Int).tmod 128=((j % 128:Nat):Int):=by rw[Int.tmod_eq_emod_of_nonneg (by omega)];rfl
   have hm0:(0:Int)≤((j % 128:Nat):Int):=by omega
   have hm1:((j % 128:Nat):Int)<128:=by omega
   have hjq:j / 128<8704:=by omega
   generalize ix (j / 128)=k at *;generalize g j=y at *;generalize j / 128=jq at *;generalize j % 128=jr at *;clear a6 a7 h0 h1 hb;go_enter Tryz.func97,Tryz.ntmps97;go_upto_region 4 with fail;go_quiet (fail);go_wp2_with fail;go_ret;exact⟨rfl,(Dr.refl _).drewN _⟩
theorem class_d (g:Nat)(T:TM)(r:Int)(w:World)(h:TabAt w g T)(hr:r32 r):
 Calls Tryz.prog 61 #[.pointer (some ⟨g,0,none⟩),.int .i32 r] w fun e w'=>e=.returned (.int .i64 (T.cls r))∧Dr w w':=by
 obtain⟨c1,c2,c3,c4,c5,m1,m2,wide,h0,hb,h1,h2,h3,h4,h5,h6,h7⟩:=h;obtain⟨b0,b1,b2,b3,b4,b5,b6⟩:=box7 hb;have HC:=hid (get_int_d c1 (fun i=>T.cls i) r (T.cls r) w h1 (h0.cls0 r) (fun h1 _=>by rw[Int.toNat_of_nonneg h1]));obtain⟨r1,r2⟩:=hr;clear h0 hb h1 h2 h3 h4 h5 h6 h7;go_enter Tryz.func61,Tryz.ntmps61;go_wp2_with fail;refine HC.out.mono ?_;rintro e w1 ⟨rfl,k1⟩;go_wp2_with fail;go_ret;exact⟨rfl,k1⟩
theorem cmp_any (tb g:Nat)(T:TM)(a b:Int)(w:World)(h:TabAt w g T)(hb:w.cell? ⟨tb,0,none⟩=some (.pointer (some ⟨g,0,none⟩)))(ha:r32 a)(hb':r32 b):
 Calls Tryz.prog 166 #[.int .i32 a,.int .i32 b,.pointer (some ⟨tb,0,none⟩)] w fun e w'=>e=.returned (.int .i64 (cmpI (T.cls a) (T.cls b)))∧Dr w w':=by
 obtain⟨HT,HA,HB⟩:=hid3 h ha hb';clear h ha hb';go_enter Tryz.func166,Tryz.ntmps166;go_wp2_with fail;go_quiet ((first|(go_at_call 61;refine Calls.quiet_of (class_d g T _ _ (HT.out.kp ((Kp.refl w).drewN _)) ?_);first|exact HA.out|exact HB.out)|(go_at_call 52;exact Calls.quiet_of_same (compare_any _ _ _))));go_wp2_with fail;go_ret;exact⟨rfl,(Dr.refl _).drewN _⟩
end Go.Proofs.YtociefdcccokjaaGreat

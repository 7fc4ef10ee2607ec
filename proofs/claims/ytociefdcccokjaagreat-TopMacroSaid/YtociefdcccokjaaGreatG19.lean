/-
  Lemmas for TopMacro. Conditions: each states its own.
-/
import Derived.StillTailTactics
import Derived.Deep.RegionHeld3
import Derived.Test.YtociefdcccokjaaGreatG18
set_option maxHeartbeats 6400000
set_option maxRecDepth 100000
namespace Go.Proofs.YtociefdcccokjaaGreat
open Go.RowKit Go.Lib
theorem TxAt.tab {w:World}{X G R g:Nat}{x:Tx}(h:TxAt w X G R g x):∃A n c,Bx w X #[.pointer (some ⟨g,0,none⟩),.pointer (some ⟨G,0,none⟩),.slice A n c,.int .i64 (x.l.length:Int)] 169∧GapAt w G R x.l:=by
 obtain⟨A,n,c,h1,h2,-⟩:=h;exact⟨A,n,c,h1,h2⟩
theorem textWord_any (X G R g:Nat)(x:Tx)(T:TM)(at_ k:Int)(w:World)(h:TxAt w X G R g x)(hT:TabAt w g T):
 Calls Tryz.prog 182 #[.pointer (some ⟨X,0,none⟩),.int .i64 at_,.int .i64 k] w fun e w'=>e=.returned (.int .i64 (x.word T at_ k))∧Kp w w':=by
 have hok:=h.ok;obtain⟨A,n,c,h1,h2,h3,-⟩:=h;have hxn:=hok.ix.len;have h3l:=h3.len;have hlen:=hok.len;have HFL:=hid (floor_any _ A n c x.st x.l.length at_ w h3 (by omega));obtain⟨v,hv⟩:∃v,v=x.word T at_ k:=⟨_,rfl⟩;rw[←hv];unfold Tx.word at hv;have HAL:=hid (fun(wx:World) (kx:Kp w wx)=>gapAll_any G R x.l wx (h2.kp kx));obtain⟨p0,p1,p2,p3,_,_,_,_⟩:=h1.four;have HB:=hid h1;clear h1 h2 h3;by_cases hneg:k<0
 ·rw[if_pos hneg]at hv
  have HV:=hid hv;have q1:=dT hneg;obtain⟨h32,HT⟩:=hid2 hok.r32 hT;clear hv hok hT;go_enter Tryz.func182,Tryz.ntmps182;go_upto_region 4 with fail;go_region_held3 (fun w'=>w'.cell? ⟨X,0,none⟩=some (.pointer (some ⟨g,0,none⟩))∧w'.cell? ⟨X,1,none⟩=some (.pointer (some ⟨G,0,none⟩)))
   (first|(with_reducible exact⟨p0,p1⟩)|(with_reducible exact⟨r0,r1⟩)|(with_reducible exact⟨s0,s1⟩)|go_keep)
   (first|(go_at_call 85;go_loud (refine(HAL.out _ (Kp.refl w).drew).mono ?_);rintro e w4 ⟨A4,n4,c4,rfl,hr4,k4'⟩;have k4:Kp w w4:=(Kp.refl w).drew.trans k4';have b4:=HB.out.kp k4;obtain⟨r0,r1,r2,r3,_,_,_,_⟩:=b4.four)|(go_at_call 198;go_loud (refine(wordBack_any _ g T A4 n4 c4 x.l at_ _ (HT.out.kp k4) hr4 h32.out (by have:=hr4.len;omega)).mono ?_);rintro e w5 ⟨rfl,k5⟩;have b5:=b4.kp k5;obtain⟨s0,s1,s2,s3,_,_,_,_⟩:=b5.four))
  rw[←HV.out];go_wp2_with fail;go_ret;exact⟨rfl,k4.trans k5⟩
 ·rw[if_neg hneg]at hv
  have q1:=dF hneg;by_cases h0:k=0
  ·rw[if_pos h0]at hv
   have HV:=hid hv;have q2:(k==0)=true:=by simpa using h0
   rw[show xF x.st x.l.length at_=v from HV.out.symm]at HFL;clear hv hok hT h0 HAL HB hxn h3l hlen;go_enter Tryz.func182,Tryz.ntmps182;go_wp2_with fail;refine HFL.out.mono ?_;rintro e w1 ⟨rfl,k1⟩;go_wp2_with fail;go_ret;exact⟨rfl,k1⟩
  ·rw[if_neg h0]at hv
   have HV:=hid hv;have q2:(k==0)=false:=by simpa using h0
   obtain⟨h32,HT⟩:=hid2 hok.r32 hT;clear hv hok hT h0;go_enter Tryz.func182,Tryz.ntmps182;go_upto_region 7 with fail;go_region_held3 (fun w'=>w'.cell? ⟨X,0,none⟩=some (.pointer (some ⟨g,0,none⟩))∧w'.cell? ⟨X,1,none⟩=some (.pointer (some ⟨G,0,none⟩)))
    (first|(with_reducible exact⟨p0,p1⟩)|(with_reducible exact⟨r0,r1⟩)|(with_reducible exact⟨s0,s1⟩)|go_keep)
    (first|(go_at_call 85;go_loud (refine(HAL.out _ (Kp.refl w).drew).mono ?_);rintro e w4 ⟨A4,n4,c4,rfl,hr4,k4'⟩;have k4:Kp w w4:=(Kp.refl w).drew.trans k4';have b4:=HB.out.kp k4;obtain⟨r0,r1,r2,r3,_,_,_,_⟩:=b4.four)|(go_at_call 199;go_loud (refine(forward_any _ g T A4 n4 c4 x.l at_ _ (HT.out.kp k4) hr4 h32.out).mono ?_);rintro e w5 ⟨rfl,k5⟩;have b5:=b4.kp k5;obtain⟨s0,s1,s2,s3,_,_,_,_⟩:=b5.four))
   rw[←HV.out];go_wp2_with fail;go_ret;exact⟨rfl,k4.trans k5⟩
def RetTx (g:Nat)(x:Tx)(w:World)(e:Ending)(w':World):Prop:=∃X G R,e=.returned (.pointer (some ⟨X,0,none⟩))∧TxAt w' X G R g x∧(∀k,Xb X G R k→w.heap.size≤k)∧Kp w w'
theorem textNew_any (F:Nat→Prop)(g:Nat)(T:TM)(A:Option Addr)(n c:Nat)(l:List Int)(w:World)(hT:TabAt w g T)(hl:Ru w F A n c l)(h32:R32ok l)(hn:n≤65536)(hx:(nfcC T l).length≤65536):
 Calls Tryz.prog 33 #[.pointer (some ⟨g,0,none⟩),.slice A n c] w (RetTx g (Tx.new T l) w):=by
 have HN:=hid (nfc_any F g T A n c l w hT hl h32 (by omega));obtain⟨y,hy⟩:∃y,y=nfcC T l:=⟨_,rfl⟩;have hy32:R32ok y:=by rw[hy];exact nfcC_32 hT.ok h32
 rw[←hy]at HN hx;obtain⟨HT,HY,H32,HYL⟩:=hid4 hT hy hy32 hx;clear hT hl h32 hy hy32 hx;go_enter Tryz.func33,Tryz.ntmps33;go_wp2_with fail;refine HN.out.mono ?_;rintro e w1 ⟨A1,n1,c1,rfl,hr1,k1⟩;have hn1:n1≤65536:=by have:=hr1.len;have:=HYL.out;omega
 have hd:decide ((65536:Int)<(n1:Int))=false:=decide_eq_false (by omega);obtain⟨HG,HI,HNL,HK1⟩:=hid4 (gapNew_any _ A1 n1 c1 y w1 hr1 (by omega)) (fun(wx:World) (kx:Kp w1 wx)=>indexOf_any _ g T A1 n1 c1 y wx ((HT.out.kp k1).kp kx) (hr1.kp kx) H32.out (by omega)) hr1.len k1;clear hr1 k1 HN;go_wp2_with fail;refine HG.out.mono ?_;rintro e w2 ⟨G,R,rfl,hg2,hG,hR,k2⟩;obtain⟨HI2,HG2,HK2⟩:=hid3 (HI.out w2 k2) hg2 (HK1.out.trans k2);have hz1:=HK1.out.size;have hz2:=k2.size;clear hg2 HI HG HK1;go_wp2_with fail;refine HI2.out.mono ?_;rintro e w3 ⟨A3,n3,c3,rfl,hi3,k3⟩;obtain⟨HI3,HG3,HK3⟩:=hid3 hi3 (HG2.out.kp k3) (HK2.out.trans k3);have hz3:=k3.size;have hGlt:=HG2.out;have hG2:G<w2.heap.size∧R<w2.heap.size:=by obtain⟨a,b,c,_,h,h',_⟩:=hGlt;exact⟨h.lt,h'.lt⟩
 clear hi3 k3 hGlt HG2 HK2 k2;go_wp2_with fail;go_ret;have kk:Kp w3 (w3.alloc (.cells #[.pointer (some ⟨g,0,none⟩),.pointer (some ⟨G,0,none⟩),.slice A3 n3 c3,.int .i64 (n1:Int)] 169)):=(Kp.refl w3).alloc _;have hlx:(Tx.new T l).l=y:=HY.out.symm;have hsx:(Tx.new T l).st=(startsS T y).1:=by rw[HY.out];rfl
 refine⟨w3.heap.size,G,R,rfl,⟨A3,n3,c3,?_,by rw[hlx];exact HG3.out.kp kk,?_,by omega,by omega,?_⟩,?_,HK3.out.trans kk⟩
 ·rw[hlx,HNL.out];exact Bx.new _ _ _
 ·rw[hsx]
  exact Sl.kp (Sl.weak HI3.out (fun k hk h hx=>by unfold From at h;rcases hx with rfl|rfl|rfl<;>omega)) kk
 ·refine⟨by rw[hlx];exact HYL.out,?_,by rw[hlx];exact H32.out⟩
  rw[hlx,hsx];exact IxOk.starts T y
 ·rintro k (rfl|rfl|rfl)<;>omega
def TxAtF (F:Nat→Prop)(w:World)(X G R g:Nat)(x:Tx):Prop:=
 ∃A n c,Bx w X #[.pointer (some ⟨g,0,none⟩),.pointer (some ⟨G,0,none⟩),.slice A n c,.int .i64 (x.l.length:Int)] 169∧GapAt w G R x.l∧Nu w F A n c x.st∧X≠G∧X≠R∧TxOk x
theorem TxAtF.tx {F:Nat→Prop}{w:World}{X G R g:Nat}{x:Tx}(h:TxAtF F w X G R g x)(hF:∀k,F k→¬Xb X G R k):TxAt w X G R g x:=by
 obtain⟨A,n,c,h1,h2,h3,h4⟩:=h;exact⟨A,n,c,h1,h2,Sl.weak h3 (fun k _ hk=>hF k hk),h4⟩
theorem TxAtF.kp {F:Nat→Prop}{w w':World}{X G R g:Nat}{x:Tx}(h:TxAtF F w X G R g x)(k:Kp w w'):TxAtF F w' X G R g x:=by
 obtain⟨A,n,c,h1,h2,h3,h4⟩:=h;exact⟨A,n,c,h1.kp k,h2.kp k,h3.kp k,h4⟩
theorem GapAt.far {w:World}{G R:Nat}{l:List Int}(h:GapAt w G R l){p:Addr}(hG:G≠p.block)(hR:R≠p.block)(u:Value):GapAt (w.setCell p u) G R l:=by
 obtain⟨x,z,y,h1,h2,h3,h4⟩:=h;exact⟨x,z,y,h1,h2.far hG u,h3.far hR u,h4⟩
theorem TxAtF.far {F:Nat→Prop}{w:World}{X G R g:Nat}{x:Tx}(h:TxAtF F w X G R g x){p:Addr}(hF:¬F p.block)(hX:¬Xb X G R p.block)(u:Value):TxAtF F (w.setCell p u) X G R g x:=by
 obtain⟨A,n,c,h1,h2,h3,h4⟩:=h;exact⟨A,n,c,h1.far (fun e=>hX (.inl e.symm)) u,h2.far (fun e=>hX (.inr (.inl e.symm))) (fun e=>hX (.inr (.inr e.symm))) u,Sl.setCell h3 hF u,h4⟩
def NewX (B X G R k:Nat):Prop:=B≤k∧¬Xb X G R k
def PutX (X G R g:Nat)(x:Tx)(w:World)(e:Ending)(w':World):Prop:=e=.returned (.tuple #[])∧∃R',(R'=R∨w.heap.size≤R')∧TxAtF (NewX w.heap.size X G R') w' X G R' g x∧Mu (Xb X G R) w w'
structure TabN (wT w:World)(g:Nat)(T:TM)(S:Nat→Prop):Prop where
 at_:TabAt wT g T
 kp:Kp wT w
 off:∀k,S k→wT.heap.size≤k
theorem TabN.tab {wT w:World}{g:Nat}{T:TM}{S:Nat→Prop}(h:TabN wT w g T S):TabAt w g T:=h.at_.kp h.kp
theorem TabN.mu {wT w w':World}{g:Nat}{T:TM}{S:Nat→Prop}(h:TabN wT w g T S)(m:Mu S w w'):TabN wT w' g T S:=⟨h.at_,m.kp h.kp h.off,h.off⟩
theorem TabN.next {wT w w':World}{g:Nat}{T:TM}{S:Nat→Prop}(h:TabN wT w g T S)(k:Kp w w'):TabN wT w' g T S:=⟨h.at_,h.kp.trans k,h.off⟩
theorem put_end (X G R R' g:Nat)(x:Tx)(T:TM)(A0 A3:Option Addr)(n0 c0 N n3 c3 m:Nat)(is:List Int)(f a b:Nat)(w w2 w3:World)(hXG:X≠G)(hXR:X≠R)(hRR:R'=R∨w.heap.size≤R')(hR2:R'<w2.heap.size)(hX:X<w.heap.size)(hm2:Mu (Xb X G R) w w2)(hk:Kp w2 w3)
 (hb:Bx w2 X #[.pointer (some ⟨g,0,none⟩),.pointer (some ⟨G,0,none⟩),.slice A0 n0 c0,.int .i64 (N:Int)] 169)(hg:GapAt w2 G R' is)(hi:Nu w3 (From w2.heap.size) A3 n3 c3 (xV T x.st is ⟨f,a,b⟩))(hln:is.length=m)(hm:m≤65536)(h32:R32ok is)
 (hix:IxOk x.st x.l.length)(hw:WinOk x.l is ⟨f,a,b⟩)(hs:(b:Int) - a=(is.length:Int) - x.l.length):
 PutX X G R g (x.put T is ⟨f,a,b⟩) w (.returned (.tuple #[])) ((w3.setCell ⟨X,2,none⟩ (.slice A3 n3 c3)).setCell ⟨X,3,none⟩ (.int .i64 (m:Int))):=by
 have hX2:=hm2.size;have hGlt:G<w2.heap.size:=by obtain⟨_,_,_,_,h',_⟩:=hg;exact h'.lt
 have hXR':X≠R':=by
  rcases hRR with e|e
  ·rw[e];exact hXR
  ·omega
 refine⟨rfl,R',hRR,⟨A3,n3,c3,?_,?_,?_,hXG,hXR',⟨by show is.length≤65536;omega,IxOk.change T hix hw hs,h32⟩⟩,?_⟩
 ·have h5:=((hb.kp hk).set 2 (.slice A3 n3 c3)).set 3 (.int .i64 (m:Int))
  show Bx _ X #[_,_,_,.int .i64 ((is.length:Nat):Int)] _;rw[hln];exact h5
 ·obtain⟨x',z',y',h1,h2,h3,h4,h5⟩:=hg.kp hk
  exact⟨x',z',y',h1,(h2.far (p:=⟨X,2,none⟩) (Ne.symm hXG) _).far (p:=⟨X,3,none⟩) (Ne.symm hXG) _,(h3.far (p:=⟨X,2,none⟩) (Ne.symm hXR') _).far (p:=⟨X,3,none⟩) (Ne.symm hXR') _,h4,h5⟩
 ·have hne:¬From w2.heap.size X:=by unfold From;omega
  refine Sl.weak ((Sl.setCell hi (p:=⟨X,2,none⟩) hne _).setCell (p:=⟨X,3,none⟩) hne _) (fun k _ h=>?_);unfold From at h;refine⟨by omega,fun e=>?_⟩;rcases e with e|e|e<;>omega
 ·have h7:Mu (Xb X G R) w w3:=hm2.then_kp hk
  exact(h7.setCell (p:=⟨X,2,none⟩) (Or.inl rfl) _).setCell (p:=⟨X,3,none⟩) (Or.inl rfl) _
theorem textPut_any (F:Nat→Prop)(X G R g:Nat)(x:Tx)(T:TM)(A B:Option Addr)(n c m d:Nat)(is:List Int)(f a b:Nat)(wT w:World)(h:TxAt w X G R g x)(hT:TabN wT w g T (Xb X G R))
 (hi:Ru w F B m d is)(hF:∀k,F k→¬Xb X G R k)(h32:R32ok is)(hm:m≤65536)(hfa:f≤a)(hfb:f≤b)(hal:a≤x.l.length)(hbm:b≤m)(hon:x.l.take f++cutM is f b++x.l.drop a=is):
 Calls Tryz.prog 152 #[.pointer (some ⟨X,0,none⟩),.slice A n c,.slice B m d,.agg #[.int .i64 (f:Int),.int .i64 (a:Int),.int .i64 (b:Int)]] w (PutX X G R g (x.put T is ⟨f,a,b⟩) w):=by
 have hok:=h.ok;have hln:=hi.len;obtain⟨A0,n0,c0,h1,h2,h3,hXG,hXR,-⟩:=h;have hxl:=hok.len;have hmd:=hi.le;have hcap:=hi.cap;unfold maxLen at hcap;have hbd:b≤d:=by omega
 obtain⟨N,hN⟩:∃N,N=x.l.length:=⟨_,rfl⟩;have hs:(b:Int) - a=(is.length:Int) - x.l.length:=by
  have h5:=congrArg List.length hon;simp only[List.length_append,List.length_take,List.length_drop,cutM_len _ _ _ (show b≤is.length by omega)]at h5;omega
 rw[←hN]at h1 hal hxl;go_enter Tryz.func152,Tryz.ntmps152;go_upto_region 1 with fail;have k1:=(Kp.refl w).alloc (.cells #[.int .i64 (f:Int),.int .i64 (a:Int),.int .i64 (b:Int)] 284);have bw:=Bx.new w #[.int .i64 (f:Int),.int .i64 (a:Int),.int .i64 (b:Int)] 284;obtain⟨W,hW⟩:∃W,W=w.heap.size:=⟨_,rfl⟩;have hXW:=h1.lt;have hGW:G<w.heap.size∧R<w.heap.size:=by obtain⟨_,_,_,_,h',h'',_⟩:=h2;exact⟨h'.lt,h''.lt⟩
 have HXW:=hid hXW;rw[←hW]at bw hXW hGW⊢;obtain⟨HB1,HG1,HS1,HI1,HK1,HK0,HBW,HW,HT1⟩:=hid9 (h1.kp k1) (h2.kp k1) (h3.kp k1) (hi.kp k1) k1 k1.size bw hW (hT.next k1);obtain⟨HOK,HON,HSS,HWO,HN,HLN,H32⟩:=hid7 hok hon hs (show WinOk x.l is ⟨f,a,b⟩from⟨by simp,by simpa using hfa,by simpa using hfb,by show(a:Int)≤x.l.length;omega,by show(b:Int)≤is.length;omega⟩) hN hln h32;clear h1 h2 h3 hi k1 bw hW hT hok hon hs hN hln h32;generalize(w.alloc (.cells #[.int .i64 (f:Int),.int .i64 (a:Int),.int .i64 (b:Int)] 284))=w1 at *;obtain⟨p0,p1,p2,p3,_,_,_,_⟩:=HB1.out.four;obtain⟨b0,b1,b2,_,_,_⟩:=HBW.out.three;go_still_tail 14,(by kernel_rfl);change wpList _ _ _ _ _ w1.drew;have hs1:Ru w1 F (if d=f then B else Option.map (fun x=>x.add f) B) (b - f) (d - f) (cutM is f b):=Ru.drop (Ru.take HI1.out hbm) hfb;generalize(if d=f then B else Option.map (fun x=>x.add f) B)=D at *;have HSP:=hid (gapSplice_any F G R f a D (b - f) (d - f) x.l (cutM is f b) w1.drew (HG1.out.kp ((Kp.refl w1).drew)) (Sl.drew hs1) (fun k hk e=>hF k hk (Or.inr e)) hfa (by rw[←HN.out];exact hal) (by rw[←HN.out];omega) (by omega));rw[HON.out]at HSP;clear hs1;go_wp2_with fail;refine HSP.out.mono ?_;rintro e w2 ⟨rfl,R',hR',hg2,m2⟩;have hGX:¬GR G R X:=by rintro(e|e);exact hXG e;exact hXR e
 have hWX:¬GR G R W:=by rintro(e|e)<;>omega
 obtain⟨HB2,HBW2,HS2,HI2,HM2,HT2,HG2⟩:=hid7 (Mu.bx m2 (Bx.drew HB1.out) hGX) (Mu.bx m2 (Bx.drew HBW.out) hWX) (Mu.sl m2 (Sl.drew HS1.out) (fun k hk e=>hk (Or.inr e))) (Mu.sl m2 (Sl.drew HI1.out) (fun k hk e=>hF k hk (Or.inr e))) ((Mu.of_kp (S:=Xb X G R) HK1.out).trans (Mu.of_drew m2) (fun _ _ h=>Or.inr h)) (HT1.out.mu (Mu.weak (S':=Xb X G R) (Mu.of_drew m2) (fun _ _ h=>Or.inr h))) hg2;have HRX:=hid (show R'=R∨w.heap.size≤R' by
  rcases hR' with e|e
  ·exact .inl e
  ·exact .inr (Nat.le_trans HK0.out e))
 have HR2:=hid (show R'<w2.heap.size by obtain⟨_,_,_,_,_,h',_⟩:=hg2;exact h'.lt);clear HB1 HBW HS1 HI1 HK1 HT1 HG1 HSP m2 hg2 hR' p0 p1 p2 p3 b0 b1 b2;obtain⟨p0,p1,p2,p3,_,_,_,_⟩:=HB2.out.four;obtain⟨b0,b1,b2,_,_,_⟩:=HBW2.out.three;go_upto_region 2 with fail;have hn0:=HOK.out.ix.len;have h3l:=Nu.len HS2.out;have hxl2:=HOK.out.len;have HST:=hid (show∀k,k<n0→0≤gN x.st k∧gN x.st k≤1099511627776 by
  intro k hk;have:=HOK.out.ix.get (k:=k) (by rw[h3l];exact hk);have:=HOK.out.len;omega)
 have HCH:=hid (fun(wx:World) (kx:Kp w2 wx)=>change_any _ F g T A0 B n0 c0 m d N x.st is f a b wx ((HT2.out.next kx).tab) (HS2.out.kp kx) (HI2.out.kp kx) H32.out (by omega) (by omega) HST.out (by omega) (by omega));clear hn0 h3l HST hxl2;go_region_with ((go_at_call 187;refine(HCH.out _ (Kp.refl w2).drew).mono ?_;rintro e w3 ⟨A3,n3,c3,rfl,hi3,k3⟩;have HB3:=hid (HB2.out.kp ((Kp.refl w2).drew.trans k3));obtain⟨q0,q1,q2,q3,f0,f1,f2,f3⟩:=HB3.out.four))
 all_goals
  go_end0;exact put_end X G R R' g x T A0 A3 n0 c0 N n3 c3 m is f a b w w2 w3 hXG hXR HRX.out HR2.out HXW.out HM2.out ((Kp.refl w2).drew.trans k3) HB2.out HG2.out hi3 HLN.out hm H32.out HOK.out.ix HWO.out HSS.out
theorem TxAtF.weak {F F':Nat→Prop}{w:World}{X G R g:Nat}{x:Tx}(h:TxAtF F w X G R g x)(hF:∀k,k<w.heap.size→F k→F' k):TxAtF F' w X G R g x:=by
 obtain⟨A,n,c,h1,h2,h3,h4⟩:=h;exact⟨A,n,c,h1,h2,Sl.weak h3 hF,h4⟩
def DidX (X G R g:Nat)(o:Option Tx)(w:World)(e:Ending)(w':World):Prop:=
 match o with
 |some t=>e=.returned (.int .i64 0)∧∃R',(R'=R∨w.heap.size≤R')∧TxAtF (NewX w.heap.size X G R') w' X G R' g t∧Mu (Xb X G R) w w'
 |none=>∃k:Nat,0<k∧e=.returned (.int .i64 (k:Int))∧Kp w w'
theorem doM_win {ed:Ed}{l is:List Int}(h:doM ed l=some is):0≤ed.at_∧ed.at_.toNat+ed.old.length≤l.length∧ed.at_.toNat+ed.new.length≤is.length∧l.take ed.at_.toNat++cutM is ed.at_.toNat (ed.at_.toNat+ed.new.length)++l.drop (ed.at_.toNat+ed.old.length)=is∧(∀y∈is,y∈l∨y∈ed.new):=by
 unfold doM at h
 split at h
 ·rename_i hc
  cases h
  obtain⟨h1,h2,_⟩:=hc;have hl:(l.take ed.at_.toNat).length=ed.at_.toNat:=by rw[List.length_take];omega
  refine⟨h1,by omega,by simp only[List.length_append,hl];omega,?_,fun y hy=>?_⟩
  ·congr 2
   unfold cutM;generalize l.take ed.at_.toNat=p at *;rw[List.append_assoc,List.drop_take,←hl,List.drop_left,Nat.add_sub_cancel_left,List.take_left]
  ·rcases List.mem_append.1 hy with hy|hy
   ·rcases List.mem_append.1 hy with hy|hy
    ·exact .inl (List.mem_of_mem_take hy)
    ·exact .inr hy
   ·exact .inl (List.mem_of_mem_drop hy)
 ·cases h
theorem textDo_any (X G R g:Nat)(x:Tx)(T:TM)(ed:Ed)(A B:Option Addr)(n c m d:Nat)(wT w:World)(h:TxAt w X G R g x)(hT:TabN wT w g T (Xb X G R))
 (ho:Ru w Any A n c ed.old)(hw:Ru w Any B m d ed.new)(h32:R32ok ed.new)(hn:n≤65536)(hm:m≤65536)(hat:ed.at_≤65536):
 Calls Tryz.prog 116 #[.pointer (some ⟨X,0,none⟩),.agg #[.int .i64 ed.at_,.slice A n c,.slice B m d]] w (DidX X G R g (doE T x ed) w):=by
 obtain⟨A0,n0,c0,hb0,hg0⟩:=h.tab;have hXlt:=hb0.lt;have hGR:G<w.heap.size∧R<w.heap.size:=by obtain⟨_,_,_,_,h',h'',_⟩:=hg0;exact⟨h'.lt,h''.lt⟩
 have hok:=h.ok;have HOK:=hid hok;have hlen:=hok.len;obtain⟨q,hq⟩:∃q,q=ed.at_:=⟨_,rfl⟩;rw[←hq]at hat⊢;have HQ:=hid hq;clear hq;obtain⟨hO,hN⟩:=hid2 ho.len hw.len;go_enter Tryz.func116,Tryz.ntmps116;go_upto_region 3 with fail;have k1:=(Kp.refl w).alloc (.cells #[.int .i64 q,.slice A n c,.slice B m d] 239);have be:=Bx.new w #[.int .i64 q,.slice A n c,.slice B m d] 239;obtain⟨W,hW⟩:∃W,W=w.heap.size:=⟨_,rfl⟩;have HW:=hid hW;rw[←hW]at be⊢;obtain⟨HX1,HB1,HG1,HO1,HN1,HE1,HK1,HT1,H32⟩:=hid9 (h.kp k1) (hb0.kp k1) (hg0.kp k1) (ho.kp k1) (hw.kp k1) be k1 (hT.next k1) h32;clear h hb0 hg0 ho hw be k1 hT h32 hW hok;generalize(w.alloc (.cells #[.int .i64 q,.slice A n c,.slice B m d] 239))=w1 at *;have HAL:=hid (gapAll_any G R x.l w1 HG1.out);obtain⟨p0,p1,p2,p3,_,_,_,_⟩:=HB1.out.four;obtain⟨b0,b1,b2,_,_,_⟩:=HE1.out.three;go_wp2_with fail;refine HAL.out.mono ?_;rintro e w2 ⟨A2,n2,c2,rfl,hr2,k2⟩;obtain⟨HR2,HX2,HB2,HO2,HN2,HE2,HK2,HT2⟩:=hid8 hr2 (HX1.out.kp k2) (HB1.out.kp k2) (HO1.out.kp k2) (HN1.out.kp k2) (HE1.out.kp k2) (HK1.out.trans k2) (HT1.out.next k2);have hn2:n2≤65536:=by have:=hr2.len;omega
 have HDO:=hid (do_any ed A B A2 n c m d n2 c2 x.l w2 HO2.out HN2.out hr2.any (by omega) (by omega) (by omega) (by rw[←HQ.out];omega));rw[←HQ.out]at HDO;clear HX1 HB1 HG1 HO1 HN1 HE1 HK1 HT1 HAL hr2 k2 p0 p1 p2 p3 b0 b1 b2;obtain⟨p0,p1,p2,p3,_,_,_,_⟩:=HB2.out.four;obtain⟨b0,b1,b2,_,_,_⟩:=HE2.out.three;go_wp2_with fail;refine HDO.out.mono ?_;rintro e w3 hret;rcases hdo:doM ed x.l with _|is
 ·have HDE:=hid (show doE T x ed=none by unfold doE;rw[hdo])
  rw[hdo]at hret;obtain⟨rfl,k3⟩:=hret;clear hdo;go_wp2_with fail;go_ret;rw[HDE.out];exact⟨2,by omega,rfl,HK2.out.trans k3⟩
 ·rw[hdo]at hret
  obtain⟨A3,n3,c3,rfl,hr3,k3⟩:=hret;have hl3:=hr3.len;by_cases hbig:65536<n3
  ·have HDE:=hid (show doE T x ed=none by unfold doE;rw[hdo];exact if_pos (by omega))
   have hd:=dT (show(65536:Int)<(n3:Int) by omega);clear hdo hl3;go_wp2_with fail;go_ret;rw[HDE.out];exact⟨3,by omega,rfl,HK2.out.trans k3⟩
  ·have HDE:=hid (show doE T x ed=some (x.put T is (winE ed)) by unfold doE;rw[hdo];exact if_neg (by omega))
   have hd:decide ((65536:Int)<(n3:Int))=false:=decide_eq_false (by omega);obtain⟨d1,d2,d3,d4,d5⟩:=doM_win hdo;obtain⟨f,hf⟩:∃f:Nat,q=f:=⟨q.toNat,by have:=HQ.out;omega⟩;subst hf;have hfq:ed.at_.toNat=f:=by have:=HQ.out;omega
   rw[hfq,hO.out]at d2 d4;rw[hfq,hN.out]at d3;rw[hN.out]at d4;obtain⟨a',ha'⟩:∃a',a'=f+n:=⟨_,rfl⟩;obtain⟨b',hb'⟩:∃b',b'=f+m:=⟨_,rfl⟩;have hfa:f≤a':=by omega
   have hfb:f≤b':=by omega
   rw[←ha']at d2 d4;rw[←hb']at d3 d4;have hwin:winE ed=⟨f,a',b'⟩:=by
    unfold winE;rw[←HQ.out,hO.out,hN.out,ha',hb']
    congr 1<;>omega
   have ea:(f:Int)+(n:Int)=(a':Int):=by omega
   have eb:(f:Int)+(m:Int)=(b':Int):=by omega
   have hwn:=window_any f A B n c m d w3 (by omega) (by omega) (by omega);rw[ea,eb]at hwn;rw[hwin]at HDE;obtain⟨HWN,HON,HX3,HE3,HT3,HK3,HR3⟩:=hid7 hwn d4 (HX2.out.kp k3) (HE2.out.kp k3) (HT2.out.next k3) (HK2.out.trans k3) hr3;have his:R32ok is:=fun y hy=>by
    rcases d5 y hy with e|e
    ·exact HOK.out.r32 y e
    ·exact H32.out y e
   have HIS:=hid his;have hz2:=HK2.out.size;have hln3:b'≤n3:=by omega
   clear hdo hl3 d1 d3 d4 d5 hwin ea eb hwn ha' hb' his hr3 hfq k3 HB2 HO2 HN2 HX2 HT2 HK2 HDO HR2 p0 p1 p2 p3 b0 b1 b2 HE2;obtain⟨b0,b1,b2,_,_,_⟩:=HE3.out.three;go_wp2_with fail;refine HWN.out.mono ?_;rintro e w4 ⟨rfl,k4⟩;obtain⟨HP,HK4⟩:=hid2 (textPut_any (From w2.heap.size) X G R g x T A2 A3 n2 c2 n3 c3 is f a' b' wT w4 (HX3.out.kp k4) (HT3.out.next k4) (HR3.out.kp k4) (fun k hk e=>by unfold From at hk;rcases e with e|e|e<;>omega) HIS.out (by omega) hfa hfb d2 hln3 HON.out) (HK3.out.trans k4);clear HX3 HE3 HT3 HR3 HWN k4 b0 b1 b2 HK3;go_wp2_with fail;refine HP.out.mono ?_;rintro e w5 ⟨rfl,R',hR',hx5,m5⟩;go_wp2_with fail;go_ret;rw[HDE.out];refine⟨rfl,R',?_,hx5.weak (fun _ _ h=>⟨Nat.le_trans HK4.out.size h.1,h.2⟩),(Mu.of_kp HK4.out).trans m5 (fun _ _ h=>h)⟩;rcases hR' with e|e
   ·exact .inl e
   ·exact .inr (Nat.le_trans HK4.out.size e)
def ReplX (X G R g:Nat)(o:Option (Tx×Ed×Int))(w:World)(e:Ending)(w':World):Prop:=
 match o with
 |some (t,ed,c)=>∃A n a B m b R',e=.returned (.tuple #[.agg #[.int .i64 ed.at_,.slice A n a,.slice B m b,.int .i64 c],.int .i64 0])∧(R'=R∨w.heap.size≤R')∧TxAtF (NewX w.heap.size X G R') w' X G R' g t∧
  Ru w' (NewX w.heap.size X G R') A n a ed.old∧Ru w' (NewX w.heap.size X G R') B m b ed.new∧Mu (Xb X G R) w w'
 |none=>∃k:Nat,0<k∧e=.returned (.tuple #[.agg #[.int .i64 0,.slice none 0 0,.slice none 0 0,.int .i64 0],.int .i64 (k:Int)])∧Kp w w'
def badE (x:Tx)(frm tt:Int):Prop:=frm<0∨tt<frm∨(x.l.length:Int)<tt∨x.floor frm≠frm∨x.floor tt≠tt
instance (x:Tx)(frm tt:Int):Decidable (badE x frm tt):=inferInstanceAs (Decidable (_∨_∨_∨_∨_))
theorem replaceE_bad (T:TM){x:Tx}{frm tt:Int}(ins:List Int)(h:badE x frm tt):yQ T x frm tt ins=none:=if_pos h
theorem splice_hon (T:TM)(l ins:List Int){a b:Nat}(hab:a≤b)(hb:b≤l.length):
 l.take (yG T l a)++cutM (zX T l a b ins) (yG T l a) (yG T l a+(midL T l a b ins).length)++l.drop (onL T l b)=zX T l a b ins:=by
 have h1:=backL_le T l a;have hl:(l.take (yG T l a)).length=yG T l a:=by rw[List.length_take];omega
 have e:cutM (zX T l a b ins) (yG T l a) (yG T l a+(midL T l a b ins).length)=midL T l a b ins:=by
  unfold zX cutM;generalize l.take (yG T l a)=p at *;rw[List.append_assoc,List.drop_take,←hl,List.drop_left,Nat.add_sub_cancel_left,List.take_left]
 rw[e];rfl
theorem replaceE_good (T:TM){x:Tx}{a b:Nat}{ins:List Int}{f0 a0 b0:Nat}{is:List Int}{v:Win}(h:¬badE x a b)(hw:winL T x.l a b ins=⟨f0,a0,b0⟩)(hi:zX T x.l a b ins=is)(hv:vJ x.l is ⟨f0,a0,b0⟩=v):
 yQ T x a b ins=if 65536<is.length then none else some (x.put T is ⟨f0,a0,b0⟩,⟨v.frm,cutM x.l v.frm.toNat v.was.toNat,cutM is v.frm.toNat v.is_.toNat⟩,ceilI (x.put T is ⟨f0,a0,b0⟩).st (x.put T is ⟨f0,a0,b0⟩).l.length (afterW x.l is ⟨f0,a0,b0⟩ b)):=by
 subst hv hi;rw[←hw];exact if_neg h
theorem textReplace_any (F:Nat→Prop)(X G R g:Nat)(x:Tx)(T:TM)(frm tt:Int)(A:Option Addr)(n c:Nat)(ins:List Int)(wT w:World)(h:TxAt w X G R g x)(hT:TabN wT w g T (Xb X G R))
 (hi:Ru w F A n c ins)(h32:R32ok ins)(hn:n≤67108864):
 Calls Tryz.prog 139 #[.pointer (some ⟨X,0,none⟩),.int .i64 frm,.int .i64 tt,.slice A n c] w (ReplX X G R g (yQ T x frm tt ins) w):=by
 have HX:=hid h;obtain⟨A0,n0,c0,hb0,hg0,hs0,-,-,hok⟩:=h;have HOK:=hid hok;have hlen:=hok.len;have hn0:n0≤65536:=by have:=hok.ix.len;have:=Nu.len hs0;omega
 obtain⟨N,hN⟩:∃N,N=x.l.length:=⟨_,rfl⟩;rw[←hN]at hb0 hlen;have HN:=hid hN;have HXW:=hid (show∀k,Xb X G R k→k<w.heap.size by
  have h1:=hb0.lt;obtain⟨_,_,_,_,h',h'',_⟩:=hg0;intro k e;rcases e with e|e|e
  ·rw[e];exact h1
  ·rw[e];exact h'.lt
  ·rw[e];exact h''.lt)
 obtain⟨kb,hkb⟩:∃kb:Bool,kb=decide (badE x frm tt):=⟨_,rfl⟩;have HKB:=hid hkb;clear hN hkb;go_enter Tryz.func139,Tryz.ntmps139;go_upto_region 3 with fail;obtain⟨W,hW⟩:∃W,W=w.heap.size:=⟨_,rfl⟩;have HW:=hid hW;have k1:=(Kp.refl w).alloc (.cells #[.int .i64 0,.slice none 0 0,.slice none 0 0,.int .i64 0] 267);have bc:=Bx.new w #[.int .i64 0,.slice none 0 0,.slice none 0 0,.int .i64 0] 267;rw[←hW]at bc⊢;obtain⟨HX1,HB1,HG1,HS1,HI1,HC1,HK1,HT1,H32⟩:=hid9 (HX.out.kp k1) (hb0.kp k1) (hg0.kp k1) (hs0.kp k1) (hi.kp k1) bc k1 (hT.next k1) h32;clear HX hb0 hg0 hs0 hi bc k1 hT h32 hW hok;generalize(w.alloc (.cells #[.int .i64 0,.slice none 0 0,.slice none 0 0,.int .i64 0] 267))=w1 at *;obtain⟨p0,p1,p2,p3,_,_,_,_⟩:=HB1.out.four;go_cut [53] (fun v wx=>v=.bool kb∧Kp w1 wx)
 case first=>
  have HLN:=hid (xI G R x.l w1 HG1.out);rw[←HN.out]at HLN;have HFL:=hid (fun(wx:World) (at_:Int) (kx:Kp w1 wx)=>floor_any _ A0 n0 c0 x.st x.l.length at_ wx (HS1.out.kp kx) (by omega));obtain⟨fa,hfa⟩:∃fa,fa=xF x.st x.l.length frm:=⟨_,rfl⟩;obtain⟨fb,hfb⟩:∃fb,fb=xF x.st x.l.length tt:=⟨_,rfl⟩;obtain⟨HF1,HF2⟩:=hid2 (fun(wx:World) (kx:Kp w1 wx)=>HFL.out wx frm kx) (fun(wx:World) (kx:Kp w1 wx)=>HFL.out wx tt kx);rw[←hfa,HN.out.symm]at HF1;rw[←hfb,HN.out.symm]at HF2;have hbad:kb=decide (frm<0∨tt<frm∨(N:Int)<tt∨fa≠frm∨fb≠tt):=by rw[HKB.out,hfa,hfb,HN.out];rfl
  have HBAD:=hid hbad;clear hfa hfb hbad HFL HS1 HX1 HI1 HT1 HKB;by_cases c1:frm<0
  ·have q1:=dT c1
   have HV:Hid (kb=true):=by show _=_;rw[HBAD.out];exact decide_eq_true (.inl c1)
   clear HBAD;go_wp2_with fail;go_meet;exact⟨by rw[HV.out],Kp.refl _⟩
  ·have q1:=dF c1
   by_cases c2:frm>tt
   ·have q2:=dT c2
    have HV:Hid (kb=true):=by show _=_;rw[HBAD.out];exact decide_eq_true (.inr (.inl c2))
    clear HBAD;go_wp2_with fail;go_meet;exact⟨by rw[HV.out],Kp.refl _⟩
   ·have q2:=dF c2
    by_cases c3:tt>(N:Int)
    ·have q3:=dT c3
     have HV:Hid (kb=true):=by show _=_;rw[HBAD.out];exact decide_eq_true (.inr (.inr (.inl c3)))
     clear HBAD;go_wp2_with fail;refine HLN.out.mono ?_;rintro e w2 ⟨rfl,k2⟩;go_wp2_with fail;go_meet;exact⟨by rw[HV.out],k2⟩
    ·have q3:=dF c3
     go_wp2_with fail;refine HLN.out.mono ?_;rintro e w2 ⟨rfl,k2⟩;obtain⟨HB2,HK2⟩:=hid2 (HB1.out.kp k2) k2;clear k2 p0 p1 p2 p3;obtain⟨p0,p1,p2,p3,_,_,_,_⟩:=HB2.out.four;have HF1':=hid (HF1.out w2 HK2.out);by_cases c4:fa=frm
     ·have q4:(fa != frm)=false:=by simpa using c4
      have c4':=hid c4;clear c4;go_wp2_with fail;refine HF1'.out.mono ?_;rintro e w3 ⟨rfl,k3⟩;obtain⟨HB3,HK3⟩:=hid2 (HB2.out.kp k3) (HK2.out.trans k3);clear k3 p0 p1 p2 p3;obtain⟨p0,p1,p2,p3,_,_,_,_⟩:=HB3.out.four;have HF2':=hid (HF2.out w3 HK3.out);by_cases c5:fb=tt
      ·have q5:(fb != tt)=false:=by simpa using c5
       have HV:Hid (kb=false):=by show _=_;rw[HBAD.out];exact decide_eq_false (by have:=c4'.out;omega)
       clear HBAD c5;go_wp2_with fail;refine HF2'.out.mono ?_;rintro e w4 ⟨rfl,k4⟩;go_wp2_with fail;go_meet;exact⟨by rw[HV.out],HK3.out.trans k4⟩
      ·have q5:(fb != tt)=true:=by simpa using c5
       have HV:Hid (kb=true):=by show _=_;rw[HBAD.out];exact decide_eq_true (.inr (.inr (.inr (.inr c5))))
       clear HBAD c5;go_wp2_with fail;refine HF2'.out.mono ?_;rintro e w4 ⟨rfl,k4⟩;go_wp2_with fail;go_meet;exact⟨by rw[HV.out],HK3.out.trans k4⟩
     ·have q4:(fa != frm)=true:=by simpa using c4
      have HV:Hid (kb=true):=by show _=_;rw[HBAD.out];exact decide_eq_true (.inr (.inr (.inr (.inl c4))))
      clear HBAD c4;go_wp2_with fail;refine HF1'.out.mono ?_;rintro e w3 ⟨rfl,k3⟩;go_wp2_with fail;go_meet;exact⟨by rw[HV.out],HK2.out.trans k3⟩
 case rest=>
  obtain⟨rfl,kc⟩:=hcut;obtain⟨HX2,HB2,HG2,HI2,HC2,HK2,HT2⟩:=hid7 (HX1.out.kp kc) (HB1.out.kp kc) (HG1.out.kp kc) (HI1.out.kp kc) (HC1.out.kp kc) (HK1.out.trans kc) (HT1.out.next kc);clear HX1 HB1 HG1 HI1 HC1 HK1 HT1 HS1 kc p0 p1 p2 p3;obtain⟨p0,p1,p2,p3,_,_,_,_⟩:=HB2.out.four;obtain⟨b0,b1,b2,b3,_,_,_,_⟩:=HC2.out.four;cases kb
  ·have hnb:¬badE x frm tt:=by have:=HKB.out;rw[eq_comm,decide_eq_false_iff_not]at this;exact this
   have hnb2:=hnb;have hxl:=HOK.out.len;unfold badE at hnb2;obtain⟨a,ha⟩:∃a:Nat,frm=a:=⟨frm.toNat,by omega⟩;obtain⟨b,hb⟩:∃b:Nat,tt=b:=⟨tt.toNat,by omega⟩;subst ha hb;have hab:a≤b:=by omega
   have hbl:b≤x.l.length:=by omega
   have hbN:b≤65536:=by omega
   obtain⟨is,his⟩:∃is,zX T x.l a b ins=is:=⟨_,rfl⟩;obtain⟨f0,hf0⟩:∃f0,f0=yG T x.l a:=⟨_,rfl⟩;obtain⟨a0,ha0⟩:∃a0,a0=onL T x.l b:=⟨_,rfl⟩;obtain⟨b0',hb0'⟩:∃b0,b0=yG T x.l a+(midL T x.l a b ins).length:=⟨_,rfl⟩;have hwin:winL T x.l a b ins=⟨f0,a0,b0'⟩:=by
    unfold winL;rw[hf0,ha0,hb0'];congr 1
   have hwok:=winL_ok T x.l ins hab hbl;have hon:=splice_hon T x.l ins hab hbl;rw[hwin,his]at hwok;rw[his,←hf0,←ha0,hf0,←hb0',←hf0]at hon;obtain⟨⟨v1,v2,v3,v4,v5⟩,v6⟩:=hwok;dsimp only at v1 v2 v3 v4 v5 v6;have hfa:f0≤a0:=by omega
   have hfb:f0≤b0':=by omega
   have haN:a0≤x.l.length:=by omega
   have hbi:b0'≤is.length:=by omega
   have hnok:=narrowL_ok (show WinOk x.l is ⟨f0,a0,b0'⟩from⟨v1,v2,v3,v4,v5⟩);have his32:R32ok is:=by
    rw[←his];unfold zX;refine R32ok.app (R32ok.app (HOK.out.r32.sub fun _ h=>List.mem_of_mem_take h) ?_) (HOK.out.r32.sub fun _ h=>List.mem_of_mem_drop h);unfold midL;refine nfcC_32 HT2.out.at_.ok ?_;exact R32ok.app (R32ok.app (HOK.out.r32.sub fun _ h=>List.mem_of_mem_take (List.mem_of_mem_drop h)) H32.out) (HOK.out.r32.sub fun _ h=>List.mem_of_mem_take (List.mem_of_mem_drop h))
   obtain⟨HGD,HNOK,HIS32,HON,HFA,HAB,HAL,HSP⟩:=hid8 (fun(v:Win) (hv:vJ x.l is ⟨f0,a0,b0'⟩=v)=>replaceE_good T hnb hwin his hv) hnok his32 hon (show f0≤a0∧f0≤b0'∧a0≤x.l.length∧b0'≤is.length from⟨hfa,hfb,haN,hbi⟩) (show a≤b∧b≤x.l.length from⟨hab,hbl⟩) (gapAll_any G R x.l wc HG2.out) (fun(wx:World) (A2:Option Addr) (n2 c2:Nat) (kx:Kp wc wx) (hr:Ru wx (From wc.heap.size) A2 n2 c2 x.l)=>splice_any (From wc.heap.size) F g T A2 A n2 c2 n c x.l ins a b wx ((HT2.out.next kx).tab) hr HOK.out.r32 (HI2.out.kp kx) H32.out hab (by have:=hr.len;omega) (by have:=hr.len;omega) hn);rw[hwin,his]at HSP;dsimp only at HSP;clear hnb hnb2 his hf0 ha0 hb0' hwin hon v1 v2 v3 v4 v5 v6 hnok his32 hfa hfb haN hbi HKB hab hbl;go_wp2_with fail;refine HAL.out.mono ?_;rintro e w2 ⟨A2,n2,c2,rfl,hr2,k2⟩;obtain⟨HB3,HX3,HC3,HT3,HK3,HK2S,HSP3,HR2⟩:=hid8 (HB2.out.kp k2) (HX2.out.kp k2) (HC2.out.kp k2) (HT2.out.next k2) (HK2.out.trans k2) HK2.out.size (HSP.out w2 A2 n2 c2 k2 hr2) hr2;clear HAL HB2 HX2 HC2 HT2 HK2 HSP hr2 k2 p0 p1 p2 p3 b0 b1 b2 b3 HG2 HI2;obtain⟨p0,p1,p2,p3,_,_,_,_⟩:=HB3.out.four;go_wp2_with fail;refine HSP3.out.mono ?_;rintro e w3 ⟨A3,n3,c3,ff,rfl,hr3,k3⟩;have hl3:=hr3.len;obtain⟨HB4,HX4,HC4,HT4,HK4,HR4,HZ2⟩:=hid7 (HB3.out.kp k3) (HX3.out.kp k3) (HC3.out.kp k3) (HT3.out.next k3) (HK3.out.trans k3) (HR2.out.kp k3) HK3.out.size;obtain⟨HZ2b,HI4,HLI⟩:=hid3 HK4.out.size hr3 hl3;have hn2:=HR2.out.len;have hn2b:n2≤65536:=by omega
   have HLN2:=hid hn2;clear HB3 HX3 HC3 HT3 HK3 HR2 HSP3 k3 hr3 hn2 hl3 p0 p1 p2 p3;obtain⟨b0,b1,b2,b3,_,_,_,_⟩:=HC4.out.four;have hWlt:=HC4.out.lt;by_cases hbig:65536<n3
   ·have HDE:=hid (show yQ T x a b ins=none by rw[HGD.out _ rfl,if_pos (by have:=HLI.out;omega)])
    have hd:=dT (show(65536:Int)<(n3:Int) by omega);clear HGD;go_wp2_with fail;refine bodyPost_ret (v:=.tuple #[.agg #[.int .i64 0,.slice none 0 0,.slice none 0 0,.int .i64 0],.int .i64 3]) (by simp[results,Tryz.results139,go_sem,b0,b1,b2,b3,hWlt]) rfl ?_;rw[HDE.out];exact⟨3,by omega,rfl,((((HK4.out.setCell (p:=⟨W,0,none⟩) (by rw[HW.out];exact le_) _).setCell (p:=⟨W,1,none⟩) (by rw[HW.out];exact le_) _).setCell (p:=⟨W,2,none⟩) (by rw[HW.out];exact le_) _).setCell (p:=⟨W,3,none⟩) (by rw[HW.out];exact le_) _).alloc _⟩
   ·have hd:decide ((65536:Int)<(n3:Int))=false:=decide_eq_false (by omega)
    have hn3b:n3≤65536:=by omega
    have HGD2:=hid (fun(v:Win) (hv:vJ x.l is ⟨f0,a0,b0'⟩=v)=>(HGD.out v hv).trans (if_neg (show¬65536<is.length by have:=HLI.out;omega)));clear HGD;go_upto_region 9 with fail;have k5:=(Kp.refl w3).alloc (.cells #[.int .i64 (f0:Int),.int .i64 (a0:Int),.int .i64 (b0':Int)] 284);have bw:=Bx.new w3 #[.int .i64 (f0:Int),.int .i64 (a0:Int),.int .i64 (b0':Int)] 284;obtain⟨V,hV⟩:∃V,V=w3.heap.size:=⟨_,rfl⟩;obtain⟨HV,HVL⟩:=hid2 hV hWlt;rw[←hV]at bw⊢;obtain⟨HB5,HX5,HC5,HT5,HK5,HR5,HI5,HV5⟩:=hid8 (HB4.out.kp k5) (HX4.out.kp k5) (HC4.out.kp k5) (HT4.out.next k5) (HK4.out.trans k5) (HR4.out.kp k5) (HI4.out.kp k5) bw;clear HB4 HX4 HC4 HT4 HK4 HR4 HI4 k5 bw hV b0 b1 b2 b3 hWlt;generalize(w3.alloc (.cells #[.int .i64 (f0:Int),.int .i64 (a0:Int),.int .i64 (b0':Int)] 284))=w5 at *;obtain⟨v0,v1,v2,_,_,_⟩:=HV5.out.three;have HVW:=hid (show w.heap.size≤V∧V≠W by
     have h1:=HVL.out;have h2:=HV.out;have h3:=HZ2b.out;omega)
    have HP:=hid (textPut_any (From w2.heap.size) X G R g x T A2 A3 n2 c2 n3 c3 is f0 a0 b0' wT w5 HX5.out HT5.out HI5.out (fun k hk e=>by unfold From at hk;have:=HXW.out k e;have:=HZ2.out;omega) HIS32.out hn3b HFA.out.1 HFA.out.2.1 HFA.out.2.2.1 (by have:=HFA.out.2.2.2;have:=HLI.out;omega) HON.out);go_wp2_with fail;refine HP.out.mono ?_;rintro e w6 ⟨rfl,R',hR',hx6,m6⟩;obtain⟨t,ht⟩:∃t,t=x.put T is ⟨f0,a0,b0'⟩:=⟨_,rfl⟩;rw[←ht]at hx6 HGD2;have htl:t.l=is:=by rw[ht];rfl
    have HTL:=hid htl;have hvm:¬Xb X G R V:=fun e=>by have:=HXW.out V e;have:=HVW.out.1;omega
    have hwm:¬Xb X G R W:=fun e=>by have:=HXW.out W e;have:=HW.out;omega
    obtain⟨HV6,HC6⟩:=hid2 (Mu.bx m6 HV5.out hvm) (Mu.bx m6 HC5.out hwm);have hF2:∀k,From wc.heap.size k→¬Xb X G R k:=fun k hk e=>by unfold From at hk;have:=HXW.out k e;have:=HK2S.out;omega
    have hF3:∀k,From w2.heap.size k→¬Xb X G R k:=fun k hk e=>by unfold From at hk;have:=HXW.out k e;have:=HZ2.out;omega
    obtain⟨HR6,HI6,HM6,HX6⟩:=hid4 (show Ru w6 (From wc.heap.size) A2 n2 c2 x.l from Mu.sl m6 HR5.out hF2) (show Ru w6 (From w2.heap.size) A3 n3 c3 is from Mu.sl m6 HI5.out hF3) ((Mu.of_kp (S:=Xb X G R) HK5.out).trans m6 (fun _ _ h=>h)) hx6;have HRW:=hid (show R'≠W by
     have h1:=HC5.out.lt;have h2:=HXW.out R (.inr (.inr rfl));have h3:=HW.out;rcases hR' with e|e<;>omega)
    obtain⟨HFW,HK5S⟩:=hid2 (show¬NewX w5.heap.size X G R' W from fun e=>by have h1:=HC5.out.lt;have:=e.1;omega) HK5.out.size;have HRX:=hid (show R'=R∨w.heap.size≤R' by
     rcases hR' with e|e
     ·exact .inl e
     ·exact .inr (Nat.le_trans HK5.out.size e))
    obtain⟨A6,n6,c6,hb6,-,hs6,-,-,hok6⟩:=hx6;obtain⟨HB6,HS6⟩:=hid2 hb6 hs6;have hn6:n6≤65536:=by have:=hok6.ix.len;have:=Nu.len hs6;have:=hok6.len;omega
    obtain⟨L,hL⟩:∃L,L=t.l.length:=⟨_,rfl⟩;rw[←hL]at hb6;have HL:=hid hL;clear HP HB5 HX5 HC5 HT5 HK5 HR5 HI5 HV5 m6 hR' hvm hwm hF2 hF3 htl ht hok6 v0 v1 v2 hs6 hL;obtain⟨p0,p1,p2,p3,_,_,_,_⟩:=hb6.four;obtain⟨v0,v1,v2,_,_,_⟩:=HV6.out.three;go_upto_region 10 with fail;obtain⟨y1,hy1⟩:∃y,y=afterW x.l is ⟨f0,a0,b0'⟩ b:=⟨_,rfl⟩;obtain⟨y2,hy2⟩:∃y,y=ceilI t.st L y1:=⟨_,rfl⟩;obtain⟨HAF,HCE⟩:=hid2 (fun(wx:World) (kx:Kp w6 wx)=>after_any (From wc.heap.size) (From w2.heap.size) A2 A3 n2 c2 n3 c3 x.l is f0 a0 b0' b wx (HR6.out.kp kx) (HI6.out.kp kx) HFA.out.2.1 (by have:=HFA.out.2.2.1;have:=HLN2.out;omega) (by have:=HFA.out.2.2.2;have:=HLI.out;omega) (by omega)) (fun(wx:World) (kx:Kp w6 wx)=>ceil_any _ A6 n6 c6 t.st L y1 wx (HS6.out.kp kx) (by omega));rw[←hy1]at HAF;rw[←hy2]at HCE;obtain⟨HY1,HY2⟩:=hid2 hy1 hy2;clear hy1 hy2;have z0:=cell_regrown p2;have z1:=cell_regrown p3;have z2:=cell_regrown v0;have z3:=cell_regrown v1;have z4:=cell_regrown v2;refine wp_region_quiet_below (by kernel_rfl) (by kernel_rfl) ?_;repeat(first|go_big_quiet_step (first|(go_at_call 173;exact Calls.regrown_of (HAF.out _ (below_regrown w6 _ _)))|(go_at_call 172;exact Calls.regrown_of (HCE.out _ (below_regrown w6 _ _)))))
    refine wpQuiet_nil ?_;intro w7 hw';obtain⟨⟨dq,osq⟩,hw''⟩:=hw';have kk:Kp w6 w7:=by rw[hw''];exact below_regrown w6 dq osq
    clear hw'';obtain⟨HV7,HC7,HR7,HI7,HX7,HM7⟩:=hid6 (HV6.out.kp kk) (HC6.out.kp kk) (Sl.kp HR6.out kk) (Sl.kp HI6.out kk) (HX6.out.kp kk) (HM6.out.then_kp kk);clear HV6 HC6 HR6 HI6 HX6 HM6 HB6 HS6 hb6 kk p0 p1 p2 p3 v0 v1 v2 z0 z1 z2 z3 z4 HAF HCE;obtain⟨v0,v1,v2,_,_,_⟩:=HV7.out.three;have HNA:=hid (narrow_any (From wc.heap.size) (From w2.heap.size) A2 A3 n2 c2 n3 c3 x.l is f0 a0 b0' w7 HR7.out HI7.out HFA.out.1 HFA.out.2.1 (by have:=HFA.out.2.2.1;have:=HLN2.out;omega) (by have:=HFA.out.2.2.2;have:=HLI.out;omega));go_wp2_with fail;refine HNA.out.mono ?_;rintro e w8 ⟨f',a',b',hnar,rfl,k8⟩;have hnk:=HNOK.out;rw[hnar]at hnk;obtain⟨u1,u2,u3,u4,u5⟩:=hnk;dsimp only at u1 u2 u3 u4 u5;obtain⟨HGE,HOF,HC8,HX8,HM8⟩:=hid5 (HGD2.out _ hnar) (shiftOf_any (From wc.heap.size) (From w2.heap.size) A2 A3 n2 c2 n3 c3 x.l is f' a' b' w8 (Sl.kp HR7.out k8) (Sl.kp HI7.out k8) (by omega) (by omega) (by have:=HLN2.out;omega) (by have:=HLI.out;omega) (by omega) (by omega)) (HC7.out.kp k8) (HX7.out.kp k8) (HM7.out.then_kp k8);clear HV7 HC7 HR7 HI7 HX7 HM7 HNA hnar k8 v0 v1 v2 u1 u2 u3 u4 u5 HNOK HGD2;go_wp2_with fail;refine HOF.out.mono ?_;rintro e w9 ⟨A8,c8,A9,c9,rfl,hr8,hr9,k9⟩;obtain⟨HC9,HX9,HM9,HR8,HR9,HZ8,HC8L⟩:=hid7 (HC8.out.kp k9) (HX8.out.kp k9) (HM8.out.then_kp k9) hr8 hr9 HM8.out.size HC8.out.lt;have HX8L:=hid (show∀k,Xb X G R' k→k<w8.heap.size by
     obtain⟨_,_,_,hb',hg',-⟩:=HX8.out;obtain⟨_,_,_,_,h',h'',_⟩:=hg';intro k e;rcases e with e|e|e
     ·rw[e];exact hb'.lt
     ·rw[e];exact h'.lt
     ·rw[e];exact h''.lt)
    clear HC8 HX8 HM8 HOF k9 hr8 hr9;obtain⟨b0,b1,b2,b3,_,_,_,_⟩:=HC9.out.four;go_wp2_with fail;refine bodyPost_ret (v:=.tuple #[.agg #[.int .i64 (f':Int),.slice A8 (a' - f') c8,.slice A9 (b' - f') c9,.int .i64 y2],.int .i64 0]) (by simp[results,Tryz.results139,go_sem,b0,b1,b2,b3]) rfl ?_;rw[HGE.out];have hWX:¬Xb X G R' W:=fun e=>by
     have h1:=HW.out;rcases e with e|e|e
     ·have:=HXW.out X (.inl rfl);omega
     ·have:=HXW.out G (.inr (.inl rfl));omega
     ·exact HRW.out e.symm
    have hW8:¬From w8.heap.size W:=fun e=>by unfold From at e;have:=HC8L.out;omega
    have hw8:∀k,From w8.heap.size k→NewX w.heap.size X G R' k:=fun k hk=>by
     unfold From at hk;refine⟨by have:=HZ8.out;omega,fun e=>?_⟩;have:=HX8L.out k e;omega
    refine⟨A8,_,c8,A9,_,c9,R',by rw[←HL.out,←HY1.out,←HY2.out],HRX.out,?_,?_,?_,?_⟩
    ·exact((((HX9.out.far (p:=⟨W,0,none⟩) HFW.out hWX _).far (p:=⟨W,1,none⟩) HFW.out hWX _).far (p:=⟨W,2,none⟩) HFW.out hWX _).far (p:=⟨W,3,none⟩) HFW.out hWX _).weak (fun _ _ h=>⟨Nat.le_trans HK5S.out h.1,h.2⟩)
    ·exact Sl.weak ((((Sl.setCell HR8.out (p:=⟨W,0,none⟩) hW8 _).setCell (p:=⟨W,1,none⟩) hW8 _).setCell (p:=⟨W,2,none⟩) hW8 _).setCell (p:=⟨W,3,none⟩) hW8 _) (fun k _ hk=>hw8 k hk)
    ·exact Sl.weak ((((Sl.setCell HR9.out (p:=⟨W,0,none⟩) hW8 _).setCell (p:=⟨W,1,none⟩) hW8 _).setCell (p:=⟨W,2,none⟩) hW8 _).setCell (p:=⟨W,3,none⟩) hW8 _) (fun k _ hk=>hw8 k hk)
    ·have h5:Mu (fun k=>Xb X G R k∨k=W) w w9:=HM9.out.weak (fun _ _ h=>.inl h)
     have h6:=(((h5.setCell (p:=⟨W,0,none⟩) (.inr rfl) (.int .i64 (f':Int))).setCell (p:=⟨W,1,none⟩) (.inr rfl) (.slice A8 (a' - f') c8)).setCell (p:=⟨W,2,none⟩) (.inr rfl) (.slice A9 (b' - f') c9)).setCell (p:=⟨W,3,none⟩) (.inr rfl) (.int .i64 y2);exact h6.weak (fun k hk e=>by
      rcases e with e|e
      ·exact e
      ·have:=HW.out;omega)
  ·have HDE:=hid (replaceE_bad T ins (of_decide_eq_true HKB.out.symm))
   clear HKB;go_wp2_with fail;refine bodyPost_ret (v:=.tuple #[.agg #[.int .i64 0,.slice none 0 0,.slice none 0 0,.int .i64 0],.int .i64 2]) (by simp[results,Tryz.results139,go_sem,b0,b1,b2,b3]) rfl ?_;rw[HDE.out];exact⟨2,by omega,rfl,(((HK2.out.setCell (p:=⟨W,0,none⟩) (by rw[HW.out];exact le_) _).setCell (p:=⟨W,1,none⟩) (by rw[HW.out];exact le_) _).setCell (p:=⟨W,2,none⟩) (by rw[HW.out];exact le_) _).setCell (p:=⟨W,3,none⟩) (by rw[HW.out];exact le_) _⟩
end Go.Proofs.YtociefdcccokjaaGreat

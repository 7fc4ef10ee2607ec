/-
  Lemmas for TopMacro. Conditions: each states its own.
-/
import Derived.StillTailTactics
import Derived.BigQuiet
import Derived.Test.YtociefdcccokjaaGreatG15
set_option maxHeartbeats 6400000
set_option maxRecDepth 100000
namespace Go.Proofs.YtociefdcccokjaaGreat
open Go.RowKit Go.Lib
theorem RowsAt.three {w:World}{A1 A2 A3:Option Addr}{n1 n2 n3 c1 c2 c3:Nat}{l1 l2 l3:List Int}(h1:Ru w Any A1 n1 c1 l1)(h2:Ru w Any A2 n2 c2 l2)(h3:Ru w Any A3 n3 c3 l3):RowsAt w [.slice A1 n1 c1,.slice A2 n2 c2,.slice A3 n3 c3] [l1,l2,l3]:=
 ⟨rfl,fun k hk=>by
  rcases(show k=0∨k=1∨k=2 by simp at hk;omega)with rfl|rfl|rfl
  ·exact⟨A1,n1,c1,rfl,h1⟩
  ·exact⟨A2,n2,c2,rfl,h2⟩
  ·exact⟨A3,n3,c3,rfl,h3⟩⟩
theorem concat3 (s:Nat)(w w0:World)(A1 A2 A3:Option Addr)(n1 n2 n3 c1 c2 c3:Nat)(l1 l2 l3:List Int)(hb:Bx w0 s #[.slice A1 n1 c1,.slice A2 n2 c2,.slice A3 n3 c3] 41)(k:Kp w w0)(h1:Ru w Any A1 n1 c1 l1)(h2:Ru w Any A2 n2 c2 l2)(h3:Ru w Any A3 n3 c3 l3)
 (hn:n1+n2+n3≤1099511627776):
 Calls Tryz.prog 184 #[.slice (some ⟨s,0,none⟩) 3 3] w0 fun e w'=>∃A n c,e=.returned (.slice A n c)∧Ru w' (From w.heap.size) A n c (l1++l2++l3)∧Kp w w'∧Kp w0 w':=by
 have hs:Sl w0 Any 1 (some ⟨s,0,none⟩) 3 3 [.slice A1 n1 c1,.slice A2 n2 c2,.slice A3 n3 c3]:=
  ⟨le_,by simp[maxLen],rfl,fun _=>⟨_,rfl,trivial,hb.lt,World.news_of_block hb⟩⟩
 have hf:[l1,l2,l3].flatten=l1++l2++l3:=by simp
 have hl:[l1,l2,l3].flatten.length≤1099511627776:=by rw[hf,List.length_append,List.length_append,h1.len,h2.len,h3.len];exact hn
 refine(concat_any Any (some ⟨s,0,none⟩) 3 3 _ [l1,l2,l3] w0 hs (RowsAt.three (h1.kp k) (h2.kp k) (h3.kp k)) (by omega) hl).mono ?_;rintro e w' ⟨A,n,c,rfl,h,k'⟩;rw[hf]at h;exact⟨A,n,c,rfl,h.weak (fun j _ h=>by unfold From at h⊢;have:=k.size;omega),k.trans k',k'⟩
theorem splice_any (F G:Nat→Prop)(g:Nat)(T:TM)(A B:Option Addr)(n c m d:Nat)(l xs:List Int)(a b:Nat)(w:World)(h:TabAt w g T)(hl:Ru w F A n c l)(h32:R32ok l)(hx:Ru w G B m d xs)(hx32:R32ok xs)(hab:a≤b)(hbn:b≤n)(hn:n≤67108864)(hm:m≤67108864):
 Calls Tryz.prog 171 #[.pointer (some ⟨g,0,none⟩),.slice A n c,.int .i64 (a:Int),.int .i64 (b:Int),.slice B m d] w fun e w'=>∃A' n' c' f,e=.returned (.tuple #[.slice A' n' c',.agg #[.int .i64 (winL T l a b xs).frm,.int .i64 (winL T l a b xs).was,.int .i64 (winL T l a b xs).is_],f])∧
  Ru w' (From w.heap.size) A' n' c' (zX T l a b xs)∧Kp w w':=by
 have hle:=hl.le;have hcap:=hl.cap;unfold maxLen at hcap;obtain⟨HT,H32,HX32,HL,HRL,HXL,HP,HQ⟩:=hid8 h h32 hx32 hl.len hl hx (fun(wx:World) (k:Kp w wx)=>back_any F g T A n c l a wx (h.kp k) (hl.kp k) h32 (by omega)) (fun(wx:World) (k:Kp w wx)=>on_any F g T A n c l b wx (h.kp k) (hl.kp k) h32 hbn);have hpa:=backL_le T l a;have hqb:=onL_ge T l b;have hqn:=onL_le T l b (by rw[HL.out];exact hbn);rw[HL.out]at hqn;have HS:Hid (zX T l a b xs=l.take (yG T l a)++nfcC T (cutM l (yG T l a) a++xs++cutM l b (onL T l b))++l.drop (onL T l b)):=rfl;have HW:Hid (winL T l a b xs=⟨yG T l a,onL T l b,yG T l a+(nfcC T (cutM l (yG T l a) a++xs++cutM l b (onL T l b))).length⟩):=rfl;rw[HW.out,HS.out];dsimp only;generalize yG T l a=p at *;generalize onL T l b=q at *;obtain⟨L2,hL2⟩:∃L2,L2=nfcC T (cutM l p a++xs++cutM l b q):=⟨_,rfl⟩;rw[←hL2];have HL2:=hid hL2;clear HS HW h hl h32 hx hx32 hL2;have n1:¬((a:Int)<0):=by omega
 have n2:¬((a:Int)>b):=by omega
 have n3:¬((b:Int)>n):=by omega
 go_enter Tryz.func171,Tryz.ntmps171;go_upto_region 3 with fail;have bw:=Bx.new w #[.int .i64 0,.int .i64 0,.int .i64 0] 284;have k1:=(Kp.refl w).alloc (.cells #[.int .i64 0,.int .i64 0,.int .i64 0] 284);generalize(w.alloc (.cells #[.int .i64 0,.int .i64 0,.int .i64 0] 284))=w1 at *;go_wp2_with fail;refine(HP.out _ k1).mono ?_;rintro e w2 ⟨rfl,k2⟩;have k12:=k1.trans k2;go_wp2_with fail;refine(HQ.out _ k12).mono ?_;rintro e w3 ⟨rfl,k3⟩;have k13:=k12.trans k3;have bw3:=(bw.kp k2).kp k3;clear k1 k2 k12 k3 bw HP HQ;go_upto_region 4 with fail;obtain⟨HB,HK⟩:=hid2 bw3 k13;have hcs:(c=p∧c=q)∨(c≠p∧c=q)∨(c≠p∧c≠q):=by omega
 have h1:=((HRL.out.kp k13).take (k:=a) (by omega)).drop (k:=p) hpa;have h3:=((HRL.out.kp k13).take (k:=q) (by omega)).drop (k:=b) hqb;clear bw3 k13;have hac:a≤c:=by omega
 have hqc:q≤c:=by omega
 have hbig:(a - p)+m+(q - b)≤268435456:=by omega
 obtain⟨LX,LY⟩:=hid2 (cutM_len l p a (by rw[HL.out];omega)) (cutM_len l b q (by rw[HL.out];omega));have HF:∀k,From w.heap.size k∨True:=fun _=>.inr trivial
 clear HF;go_cut [15] (fun v wx=>∃A1 n1 c1,v=.slice A1 n1 c1∧Ru wx (From w3.heap.size) A1 n1 c1 (cutM l p a++xs++cutM l b q)∧Kp w3 wx)
 case first=>
  have h1:Ru w3 Any (if c=p then A else A.map (·.add p)) (a - p) (c - p) (cutM l p a):=h1.any;have h3:Ru w3 Any (if c=b then A else A.map (·.add b)) (q - b) (c - b) (cutM l b q):=h3.any;rcases(show(c=p∧a=p∧b=p∧q=p∧n=p)∨(c≠p∧c=b∧q=b∧n=b)∨(c≠p∧c≠b) by omega)with⟨rfl,rfl,rfl,rfl,rfl⟩|⟨hcp,rfl,rfl,rfl⟩|⟨hcp,hcb⟩
  ·rw[if_pos rfl,Nat.sub_self]at h1
   rw[if_pos rfl,Nat.sub_self]at h3;have HC:=hid (fun(s:Nat) (wx:World) hb (k:Kp w3 wx)=>concat3 s w3 wx A B A _ m _ _ d _ _ xs _ hb k h1 (HXL.out.kp HK.out).any h3 (by omega));clear h1 h3;go_still_tail 9,(by kernel_rfl);change wpList _ _ _ _ _ w3.drew;go_wp2_with fail;refine(HC.out w3.heap.size _ (show Bx (w3.alloc _).drew w3.heap.size _ _ from Bx.new w3 _ _) ((Kp.refl w3).alloc _).drew).mono ?_;rintro e w4 ⟨A1,n1,c1,rfl,h4,k4,_⟩;go_wp2_with fail;go_meet;exact⟨A1,n1,c1,rfl,h4,k4⟩
  ·rw[if_neg hcp]at h1
   rw[if_pos rfl,Nat.sub_self]at h3;have HC:=hid (fun(s:Nat) (wx:World) hb (k:Kp w3 wx)=>concat3 s w3 wx _ B A _ m _ _ d _ _ xs _ hb k h1 (HXL.out.kp HK.out).any h3 (by omega));clear h1 h3;go_still_tail 9,(by kernel_rfl);change wpList _ _ _ _ _ w3.drew;go_wp2_with fail;refine(HC.out w3.heap.size _ (show Bx (w3.alloc _).drew w3.heap.size _ _ from Bx.new w3 _ _) ((Kp.refl w3).alloc _).drew).mono ?_;rintro e w4 ⟨A1,n1,c1,rfl,h4,k4,_⟩;go_wp2_with fail;go_meet;exact⟨A1,n1,c1,rfl,h4,k4⟩
  ·rw[if_neg hcp]at h1
   rw[if_neg hcb]at h3;have HC:=hid (fun(s:Nat) (wx:World) hb (k:Kp w3 wx)=>concat3 s w3 wx _ B _ _ m _ _ d _ _ xs _ hb k h1 (HXL.out.kp HK.out).any h3 (by omega));clear h1 h3;go_still_tail 9,(by kernel_rfl);change wpList _ _ _ _ _ w3.drew;go_wp2_with fail;refine(HC.out w3.heap.size _ (show Bx (w3.alloc _).drew w3.heap.size _ _ from Bx.new w3 _ _) ((Kp.refl w3).alloc _).drew).mono ?_;rintro e w4 ⟨A1,n1,c1,rfl,h4,k4,_⟩;go_wp2_with fail;go_meet;exact⟨A1,n1,c1,rfl,h4,k4⟩
 case rest=>
  obtain⟨A1,n1,c1,rfl,h4,k4⟩:=hcut;have hl4:n1=(a - p)+m+(q - b):=by rw[←h4.len,List.length_append,List.length_append,LX.out,LY.out,HXL.out.len]
  have k04:=HK.out.trans k4;have hbw:=HB.out.kp k4;have hn1:n1≤268435456:=by omega
  have h32x:R32ok (cutM l p a++xs++cutM l b q):=by
   refine R32ok.app (R32ok.app (H32.out.sub ?_) HX32.out) (H32.out.sub ?_)
   ·intro x hx;unfold cutM at hx;exact List.mem_of_mem_take (List.mem_of_mem_drop hx)
   ·intro x hx;unfold cutM at hx;exact List.mem_of_mem_take (List.mem_of_mem_drop hx)
  have hnl:=nfcC_len T (cutM l p a++xs++cutM l b q);rw[h4.len]at hnl;have HNF:=hid (nfc_any _ g T A1 n1 c1 _ wc (HT.out.kp k04) h4 h32x hn1);rw[←HL2.out]at HNF hnl;clear HL2;generalize cutM l p a++xs++cutM l b q=L1 at *;clear hl4 h1 h3 h4 h32x LX LY HX32 H32 HB HXL;go_wp2_with fail;refine HNF.out.mono ?_;rintro e w5 ⟨A5,n5,c5,rfl,h5,k5⟩;have hn5:n5≤768*n1:=by rw[←h5.len];exact hnl
  have k05:=k04.trans k5;have hb5:=hbw.kp k5;clear k04 k4 hbw k5 HNF hnl HK;go_upto_region 6 with fail;have h1:=((HRL.out.kp k05).take (k:=p) (by omega)).any;have h3:=((HRL.out.kp k05).drop (k:=q) hqn).any;have LX:=hid (h5.len);obtain⟨s6,hs6⟩:∃s6,s6=p+n5:=⟨_,rfl⟩;have hw6:(p:Int)+(n5:Int)=(s6:Int):=by omega
  have hb6:s6≤1099511627776:=by omega
  have HS6:=hid hs6;clear hs6;have hpc:p≤c:=by omega
  have hnc:n≤c:=hle;have hsum:p+n5+(n - q)≤1099511627776:=by omega
  have hlt5:=hb5.lt;obtain⟨p0,p1,p2,f0,f1,f2⟩:=hb5.three;rcases(show(c=q∧n=q)∨c≠q by omega)with⟨rfl,rfl⟩|hcq
  ·rw[if_pos rfl,Nat.sub_self]at h3
   have HC:=hid (fun(s:Nat) (wx:World) hb (k:Kp w5 wx)=>concat3 s w5 wx A A5 A _ _ _ _ _ _ _ L2 _ hb k h1 h5.any h3 (by omega));clear h1 h3 h5;go_region_held3 (fun _=>True) (exact trivial) ((go_at_call 184;go_loud (refine(HC.out w5.heap.size _ (show Bx (w5.alloc _).drew w5.heap.size _ _ from Bx.new w5 _ _) ((Kp.refl w5).alloc _).drew).mono ?_);rintro e w7 ⟨A7,n7,c7,rfl,h7,k7,_⟩;have hb7:=hb5.kp k7;obtain⟨q0,q1,q2,g0,g1,g2⟩:=hb7.three))
   all_goals
    have hz7:=hb7.lt;rw[zV (by omega) (by omega)];go_wp2_with fail;refine bodyPost_ret (v:=.tuple #[.slice A7 n7 c7,.agg #[.int .i64 (p:Int),.int .i64 (n:Int),.int .i64 (s6:Int)],.int .i64 0]) (by simp[results,Tryz.results171,go_sem,q0,q1,q2]) rfl ?_;have hs7:(p:Int)+(L2.length:Int)=(s6:Int):=by have:=HS6.out;have:=LX.out;omega
    rw[hs7];refine⟨A7,n7,c7,.int .i64 0,rfl,?_,?_⟩
    ·have hne:¬From w5.heap.size w.heap.size:=by unfold From;omega
     have hr7:=(((Sl.setCell h7 (p:=⟨w.heap.size,0,none⟩) hne (.int .i64 (p:Int))).setCell (p:=⟨w.heap.size,1,none⟩) hne (.int .i64 (n:Int))).setCell (p:=⟨w.heap.size,2,none⟩) hne (.int .i64 (s6:Int)));exact Sl.weak hr7 (fun j _ h=>by unfold From at h⊢;omega)
    ·exact(((k05.trans k7).setCell (p:=⟨w.heap.size,0,none⟩) le_ _).setCell (p:=⟨w.heap.size,1,none⟩) le_ _).setCell (p:=⟨w.heap.size,2,none⟩) le_ _
  ·rw[if_neg hcq]at h3
   have HC:=hid (fun(s:Nat) (wx:World) hb (k:Kp w5 wx)=>concat3 s w5 wx A A5 _ _ _ _ _ _ _ _ L2 _ hb k h1 h5.any h3 (by omega));clear h1 h3 h5;go_region_held3 (fun _=>True) (exact trivial) ((go_at_call 184;go_loud (refine(HC.out w5.heap.size _ (show Bx (w5.alloc _).drew w5.heap.size _ _ from Bx.new w5 _ _) ((Kp.refl w5).alloc _).drew).mono ?_);rintro e w7 ⟨A7,n7,c7,rfl,h7,k7,_⟩;have hb7:=hb5.kp k7;obtain⟨q0,q1,q2,g0,g1,g2⟩:=hb7.three))
   all_goals
    have hz7:=hb7.lt;rw[zV (by omega) (by omega)];go_wp2_with fail;refine bodyPost_ret (v:=.tuple #[.slice A7 n7 c7,.agg #[.int .i64 (p:Int),.int .i64 (q:Int),.int .i64 (s6:Int)],.int .i64 0]) (by simp[results,Tryz.results171,go_sem,q0,q1,q2]) rfl ?_;have hs7:(p:Int)+(L2.length:Int)=(s6:Int):=by have:=HS6.out;have:=LX.out;omega
    rw[hs7];refine⟨A7,n7,c7,.int .i64 0,rfl,?_,?_⟩
    ·have hne:¬From w5.heap.size w.heap.size:=by unfold From;omega
     have hr7:=(((Sl.setCell h7 (p:=⟨w.heap.size,0,none⟩) hne (.int .i64 (p:Int))).setCell (p:=⟨w.heap.size,1,none⟩) hne (.int .i64 (q:Int))).setCell (p:=⟨w.heap.size,2,none⟩) hne (.int .i64 (s6:Int)));exact Sl.weak hr7 (fun j _ h=>by unfold From at h⊢;omega)
    ·exact(((k05.trans k7).setCell (p:=⟨w.heap.size,0,none⟩) le_ _).setCell (p:=⟨w.heap.size,1,none⟩) le_ _).setCell (p:=⟨w.heap.size,2,none⟩) le_ _
theorem narA_yes {was is:List Int}{g f a b:Nat}(h1:f<a)(h2:f<b)(h:gN was f=gN is f):narA was is (g+1) ⟨f,a,b⟩=narA was is g ⟨((f+1:Nat):Int),a,b⟩:=by
 show(if _ then _ else _)=_;rw[if_pos ⟨by show(f:Int)<a;omega,by show(f:Int)<b;omega,h⟩];show narA was is g ⟨(f:Int)+1,a,b⟩=_;rw[show(f:Int)+1=((f+1:Nat):Int) by omega]
theorem narA_no {was is:List Int}{f a b:Nat}(h:¬(f<a∧f<b∧gN was f=gN is f)):∀g,narA was is g ⟨f,a,b⟩=⟨f,a,b⟩
 |0=>rfl
 |g+1=>by
  show(if _ then _ else _)=_;rw[if_neg];rintro⟨h1,h2,h3⟩;exact h ⟨by have :(f:Int)<a:=h1;omega,by have :(f:Int)<b:=h2;omega,h3⟩
theorem narB_yes {was is:List Int}{g f a b:Nat}(h1:f<a+1)(h2:f<b+1)(h:gN was a=gN is b):narB was is (g+1) ⟨f,((a+1:Nat):Int),((b+1:Nat):Int)⟩=narB was is g ⟨f,a,b⟩:=by
 show(if _ then _ else _)=_;have e1:((a+1:Nat):Int) - 1=a:=by omega
 have e2:((b+1:Nat):Int) - 1=b:=by omega
 rw[if_pos]
 ·show narB was is g ⟨f,((a+1:Nat):Int) - 1,((b+1:Nat):Int) - 1⟩=_
  rw[e1,e2]
 ·refine⟨by show(f:Int)<((a+1:Nat):Int);omega,by show(f:Int)<((b+1:Nat):Int);omega,?_⟩
  show gN was (((a+1:Nat):Int) - 1).toNat=gN is (((b+1:Nat):Int) - 1).toNat;rw[e1,e2];exact h
theorem narB_no {was is:List Int}{f a b:Nat}(h:¬(f<a∧f<b∧gN was (a - 1)=gN is (b - 1))):∀g,narB was is g ⟨f,a,b⟩=⟨f,a,b⟩
 |0=>rfl
 |g+1=>by
  show(if _ then _ else _)=_;rw[if_neg];rintro⟨h1,h2,h3⟩;have h1:(f:Int)<a:=h1;have h2:(f:Int)<b:=h2;have h3:gN was ((a:Int) - 1).toNat=gN is ((b:Int) - 1).toNat:=h3;rw[show((a:Int) - 1).toNat=a - 1 by omega,show((b:Int) - 1).toNat=b - 1 by omega]at h3;exact h ⟨by omega,by omega,h3⟩
theorem narrow_any (F G:Nat→Prop)(A B:Option Addr)(n c m d:Nat)(was is:List Int)(f a b:Nat)(w:World)(hl:Ru w F A n c was)(hx:Ru w G B m d is)(h1:f≤a)(h2:f≤b)(h3:a≤n)(h4:b≤m):
 Calls Tryz.prog 175 #[.slice A n c,.slice B m d,.agg #[.int .i64 (f:Int),.int .i64 (a:Int),.int .i64 (b:Int)]] w fun e w'=>∃f' a' b':Nat,vJ was is ⟨f,a,b⟩=⟨f',a',b'⟩∧e=.returned (.agg #[.int .i64 (f':Int),.int .i64 (a':Int),.int .i64 (b':Int)])∧Kp w w':=by
 have hcn:=hl.le;have hcm:=hx.le;have hcap:=hl.cap;have hcap2:=hx.cap;unfold maxLen at hcap hcap2;obtain⟨HRL,HXL,HLA⟩:=hid3 hl hx hl.len;clear hl hx;go_enter Tryz.func175,Tryz.ntmps175;go_upto_region 1 with fail;have b5:=Bx.new w #[.int .i64 (f:Int),.int .i64 (a:Int),.int .i64 (b:Int)] 284;have k1:=(Kp.refl w).alloc (.cells #[.int .i64 (f:Int),.int .i64 (a:Int),.int .i64 (b:Int)] 284);generalize hw1:(w.alloc (.cells #[.int .i64 (f:Int),.int .i64 (a:Int),.int .i64 (b:Int)] 284))=w1 at *;have hz1:w1.heap.size=w.heap.size+1:=by rw[←hw1];simp
 clear hw1;have b6:=Bx.new w1 #[.int .i64 0,.int .i64 0,.int .i64 0] 284;have k2:=k1.alloc (.cells #[.int .i64 0,.int .i64 0,.int .i64 0] 284);have b5':=b5.alloc (.cells #[.int .i64 0,.int .i64 0,.int .i64 0] 284);generalize(w1.alloc (.cells #[.int .i64 0,.int .i64 0,.int .i64 0] 284))=w2 at *;rw[hz1]at b6;obtain⟨HW2,HB5,HB6,HZ⟩:=hid4 k2 b5' b6 hz1;clear k1 k2 b5 b5' b6;have HN0:Hid (narA was is n ⟨f,a,b⟩=narA was is n ⟨f,a,b⟩):=rfl;go_loopg [] n (fun g wr=>∃j:Nat,f≤j∧j≤a∧j≤b∧n≤j+g∧Bx wr w.heap.size #[.int .i64 (j:Int),.int .i64 (a:Int),.int .i64 (b:Int)] 284∧Bx wr (w.heap.size+1) #[.int .i64 0,.int .i64 0,.int .i64 0] 284∧Kp w wr∧
  Hid (narA was is n ⟨f,a,b⟩=narA was is g ⟨j,a,b⟩))
 case atStart=>exact⟨f,le_,h1,h2,by omega,HB5.out,HB6.out,HW2.out,HN0.out⟩
 case round=>
  clear HW2 HB5 HB6 HN0;obtain⟨j,j1,j2,j3,j4,br,bz,kr,hnar⟩:=hrel;obtain⟨p0,p1,p2,f0,f1,f2⟩:=br.three;obtain⟨cb,hcb⟩:∃cb,cb=decide (j<a∧j<b∧gN was j=gN is j):=⟨_,rfl⟩;have HCB:=hid hcb;clear hcb;go_upto_region 1 with fail;go_cut [31] (fun v wx=>v=.bool cb∧Dr wr wx)
  case first=>
   by_cases c1:(j:Int)<(a:Int)
   ·have q1:=dT c1
    by_cases c2:(j:Int)<(b:Int)
    ·have q2:=dT c2
     obtain⟨ad,rfl,u0⟩:=(HRL.out.kp kr).getN (k:=j) (by omega);obtain⟨bd,rfl,u1⟩:=(HXL.out.kp kr).getN (k:=j) (by omega);have HV:Hid (cb=(gN was j==gN is j)):=by
      show _=_;rw[HCB.out,Bool.eq_iff_iff];simp;omega
     have hjn:j<n:=by omega
     have hjm:j<m:=by omega
     clear HCB;generalize gN was j=x at *;generalize gN is j=y at *;go_quiet (fail);go_wp2_with fail;go_meet;exact⟨by rw[HV.out],⟨_,rfl⟩⟩
    ·have q2:=dF c2
     have HV:Hid (cb=false):=by
      show _=_;rw[HCB.out,decide_eq_false (by omega)]
     go_quiet (fail);go_wp2_with fail;go_meet;exact⟨by rw[HV.out],⟨_,rfl⟩⟩
   ·have q1:=dF c1
    have HV:Hid (cb=false):=by
     show _=_;rw[HCB.out,decide_eq_false (by omega)]
    go_quiet (fail);go_wp2_with fail;go_meet;exact⟨by rw[HV.out],⟨_,rfl⟩⟩
  case rest=>
   obtain⟨rfl,hdr⟩:=hcut;have br1:=br.kp hdr.kp;have bz1:=bz.kp hdr.kp;have kr1:=kr.trans hdr.kp;clear br bz kr p0 p1 p2 f0 f1 f2 hdr;have hz1:=bz1.lt;obtain⟨p0,p1,p2,f0,f1,f2⟩:=br1.three;cases cb
   ·have HE:Hid (narA was is n ⟨f,a,b⟩=⟨j,a,b⟩):=by
     have h:=HCB.out;rw[eq_comm,decide_eq_false_iff_not]at h;show _=_;rw[hnar.out,narA_no h]
    clear HCB hnar j4;go_upto_region 3 with fail;go_loopg [] n (fun g wr2=>∃x y:Nat,j≤x∧j≤y∧x≤g∧x≤a∧y≤b∧Bx wr2 w.heap.size #[.int .i64 (j:Int),.int .i64 (x:Int),.int .i64 (y:Int)] 284∧Bx wr2 (w.heap.size+1) #[.int .i64 0,.int .i64 0,.int .i64 0] 284∧Kp w wr2∧
     Hid (narB was is n ⟨j,a,b⟩=narB was is g ⟨j,x,y⟩))
    case atStart=>exact⟨a,b,j2,j3,h3,le_,le_,br1,bz1,kr1,rfl⟩
    case round=>
     clear br1 bz1 kr1 p0 p1 p2 f0 f1 f2 hz1;obtain⟨x,y,x1,y1,xg,x2,y2,br,bz,kr,hnar⟩:=hrel;obtain⟨p0,p1,p2,f0,f1,f2⟩:=br.three;obtain⟨cb,hcb⟩:∃cb,cb=decide (j<x∧j<y∧gN was (x - 1)=gN is (y - 1)):=⟨_,rfl⟩;have HCB:=hid hcb;clear hcb;go_upto_region 3 with fail;go_cut [62] (fun v wx=>v=.bool cb∧Dr wr wx)
     case first=>
      by_cases c1:(x:Int)>(j:Int)
      ·have q1:=dT c1
       by_cases c2:(y:Int)>(j:Int)
       ·have q2:=dT c2
        obtain⟨x',hx'⟩:∃x',x=x'+1:=⟨x - 1,by omega⟩;obtain⟨y',hy'⟩:∃y',y=y'+1:=⟨y - 1,by omega⟩;have i1:(x:Int) - 1=(x':Int):=by omega
        have i2:(y:Int) - 1=(y':Int):=by omega
        obtain⟨ad,rfl,u0⟩:=(HRL.out.kp kr).getN (k:=x') (by omega);obtain⟨bd,rfl,u1⟩:=(HXL.out.kp kr).getN (k:=y') (by omega);have HV:Hid (cb=(gN was x'==gN is y')):=by
         show _=_;rw[HCB.out,Bool.eq_iff_iff,show x - 1=x' by omega,show y - 1=y' by omega];simp;omega
        have hjn:x'<n:=by omega
        have hjm:y'<m:=by omega
        clear HCB hnar hx' hy';generalize gN was x'=u at *;generalize gN is y'=v at *;go_quiet (fail);go_wp2_with fail;go_meet;exact⟨by rw[HV.out],⟨_,rfl⟩⟩
       ·have q2:=dF c2
        have HV:Hid (cb=false):=by
         show _=_;rw[HCB.out,decide_eq_false (by omega)]
        go_quiet (fail);go_wp2_with fail;go_meet;exact⟨by rw[HV.out],⟨_,rfl⟩⟩
      ·have q1:=dF c1
       have HV:Hid (cb=false):=by
        show _=_;rw[HCB.out,decide_eq_false (by omega)]
       go_quiet (fail);go_wp2_with fail;go_meet;exact⟨by rw[HV.out],⟨_,rfl⟩⟩
     case rest=>
      obtain⟨rfl,hdr⟩:=hcut;have br1:=br.kp hdr.kp;have bz1:=bz.kp hdr.kp;have kr1:=kr.trans hdr.kp;clear br bz kr p0 p1 p2 f0 f1 f2 hdr;have hz1:=bz1.lt;obtain⟨p0,p1,p2,f0,f1,f2⟩:=br1.three;cases cb
      ·have HE2:Hid (narB was is n ⟨j,a,b⟩=⟨j,x,y⟩):=by
        have h:=HCB.out;rw[eq_comm,decide_eq_false_iff_not]at h;show _=_;rw[hnar.out,narB_no h]
       have HF:Hid (vJ was is ⟨f,a,b⟩=⟨j,x,y⟩):=by
        show _=_;unfold vJ;rw[HLA.out,HE.out,HE2.out]
       clear HCB hnar xg HE HE2;obtain⟨z0,z1,z2,g0,g1,g2⟩:=bz1.three;go_wp2_with fail;refine bodyPost_ret (v:=.agg #[.int .i64 (j:Int),.int .i64 (x:Int),.int .i64 (y:Int)]) (by simp[results,Tryz.results175,go_sem,z0,z1,z2]) rfl ?_;exact⟨j,x,y,HF.out,rfl,((kr1.setCell (p:=⟨w.heap.size+1,0,none⟩) (Nat.le_succ _) _).setCell (p:=⟨w.heap.size+1,1,none⟩) (Nat.le_succ _) _).setCell (p:=⟨w.heap.size+1,2,none⟩) (Nat.le_succ _) _⟩
      ·have HE:Hid (j<x∧j<y∧gN was (x - 1)=gN is (y - 1)):=by
        have h:=HCB.out;show _∧_;exact of_decide_eq_true h.symm
       obtain⟨e1,e2,e3⟩:=HE.out;obtain⟨x',hx'⟩:∃x',x=x'+1:=⟨x - 1,by omega⟩;obtain⟨y',hy'⟩:∃y',y=y'+1:=⟨y - 1,by omega⟩;have i1:(x:Int) - 1=(x':Int):=by omega
       have i2:(y:Int) - 1=(y':Int):=by omega
       have HG:Hid (narB was is n ⟨j,a,b⟩=narB was is (gk - 1) ⟨j,x',y'⟩):=by
        obtain⟨g',hg'⟩:∃g',gk=g'+1:=⟨gk - 1,by omega⟩;show _=_;rw[hx',hy']at hnar e3;rw[hnar.out,hg',narB_yes (by omega) (by omega) (by simpa using e3)];rfl
       obtain⟨HX,HY⟩:=hid2 hx' hy';clear HCB hnar e3 hx' hy';go_wp2_with fail;go_roundg (gk - 1)
       case measure=>have:=HX.out;omega
       case rel=>
        have hx':=HX.out;have hy':=HY.out;have hb:=(br1.set 1 (.int .i64 (x':Int))).set 2 (.int .i64 (y':Int));have hne:w.heap.size+1≠w.heap.size:=by omega
        refine⟨x',y',by omega,by omega,by omega,by omega,by omega,hb,?_,?_,HG.out⟩
        ·exact(bz1.far (p:=⟨w.heap.size,1,none⟩) hne _).far (p:=⟨w.heap.size,2,none⟩) hne _
        ·exact(kr1.setCell (p:=⟨w.heap.size,1,none⟩) le_ _).setCell (p:=⟨w.heap.size,2,none⟩) le_ _
   ·have HE:Hid (j<a∧j<b∧gN was j=gN is j):=by
     have h:=HCB.out;show _∧_;exact of_decide_eq_true h.symm
    obtain⟨e1,e2,e3⟩:=HE.out;have HG:Hid (narA was is n ⟨f,a,b⟩=narA was is (gk - 1) ⟨((j+1:Nat):Int),a,b⟩):=by
     obtain⟨g',hg'⟩:∃g',gk=g'+1:=⟨gk - 1,by omega⟩;show _=_;rw[hnar.out,hg',narA_yes e1 e2 e3];rfl
    clear HCB hnar e3 HE;go_wp2_with fail;go_roundg (gk - 1)
    case measure=>omega
    case rel=>
     have hb:=br1.set 0 (.int .i64 ((j+1:Nat):Int));refine⟨j+1,by omega,by omega,by omega,by omega,?_,?_,?_,HG.out⟩
     ·exact hb
     ·exact bz1.far (p:=⟨w.heap.size,0,none⟩) (by show w.heap.size+1≠w.heap.size;omega) _
     ·exact kr1.setCell (p:=⟨w.heap.size,0,none⟩) le_ _
theorem keep_any (f a b at_:Int)(w:World)(hf: -1099511627776≤f∧f≤1099511627776)(ha: -1099511627776≤a∧a≤1099511627776)(hb: -1099511627776≤b∧b≤1099511627776)(ht: -1099511627776≤at_∧at_≤1099511627776):
 Calls Tryz.prog 154 #[.agg #[.int .i64 f,.int .i64 a,.int .i64 b],.int .i64 at_] w fun e w'=>e=.returned (.int .i64 (keepW ⟨f,a,b⟩ at_))∧Kp w w':=by
 obtain⟨v,hv⟩:∃v,v=keepW ⟨f,a,b⟩ at_:=⟨_,rfl⟩;rw[←hv];unfold keepW at hv;dsimp only at hv;have HV:=hid hv;clear hv;obtain⟨hf1,hf2⟩:=hf;obtain⟨ha1,ha2⟩:=ha;obtain⟨hb1,hb2⟩:=hb;obtain⟨ht1,ht2⟩:=ht;go_enter Tryz.func154,Tryz.ntmps154;go_upto_region 1 with fail;have bw:=Bx.new w #[.int .i64 f,.int .i64 a,.int .i64 b] 284;have k1:=(Kp.refl w).alloc (.cells #[.int .i64 f,.int .i64 a,.int .i64 b] 284);generalize(w.alloc (.cells #[.int .i64 f,.int .i64 a,.int .i64 b] 284))=w1 at *;obtain⟨p0,p1,p2,f0,f1,f2⟩:=bw.three;by_cases c1:at_≤f
 ·have HN:Hid (v=at_):=by show _=_;rw[HV.out,if_pos c1]
  have q1:=dT c1;clear HV;go_wp2_with fail;go_ret;exact⟨zC HN.out.symm,k1⟩
 ·have q1:=dF c1
  by_cases c2:at_≥a
  ·have HN:Hid (v=at_ - a+b):=by show _=_;rw[HV.out,if_neg c1,if_pos c2]
   have q2:=dT c2;clear HV;go_wp2_with fail;go_ret;exact⟨zC HN.out.symm,k1⟩
  ·have HN:Hid (v=f):=by show _=_;rw[HV.out,if_neg c1,if_neg c2]
   have q2:=dF c2;clear HV;go_wp2_with fail;go_ret;exact⟨zC HN.out.symm,k1⟩
theorem editBack_any (a:Int)(A B:Option Addr)(n c m d:Nat)(w:World):Calls Tryz.prog 115 #[.agg #[.int .i64 a,.slice A n c,.slice B m d]] w fun e w'=>e=.returned (.agg #[.int .i64 a,.slice B m d,.slice A n c])∧Kp w w':=by
 go_enter Tryz.func115,Tryz.ntmps115;go_wp2;refine bodyPost_ret (v:=.agg #[.int .i64 a,.slice B m d,.slice A n c]) (by simp[results,Tryz.results115,go_sem]) rfl ?_;exact⟨rfl,by repeat(first|assumption|exact Kp.refl _|refine Kp.alloc ?_ _|refine Kp.drewN ?_ _|refine Kp.drew ?_|refine Kp.setCell ?_ (by simp) _)⟩
theorem window_any (a:Int)(A B:Option Addr)(n c m d:Nat)(w:World)(ha: -1099511627776≤a∧a≤1099511627776)(hn:n≤1099511627776)(hm:m≤1099511627776):
 Calls Tryz.prog 153 #[.agg #[.int .i64 a,.slice A n c,.slice B m d]] w fun e w'=>e=.returned (.agg #[.int .i64 a,.int .i64 (a+n),.int .i64 (a+m)])∧Kp w w':=by
 obtain⟨s,hs⟩:∃s,s=a+(n:Int):=⟨_,rfl⟩;obtain⟨t,ht⟩:∃t,t=a+(m:Int):=⟨_,rfl⟩;have hs1: -1099511627776≤s∧s≤2199023255552:=by omega
 have ht1: -1099511627776≤t∧t≤2199023255552:=by omega
 have e1:wrap64 (a+(n:Int))=s:=by rw[IntWalk.wrap64_in _ (by omega)];omega
 have e2:wrap64 (a+(m:Int))=t:=by rw[IntWalk.wrap64_in _ (by omega)];omega
 rw[←hs,←ht];obtain⟨HS,HT⟩:=hid2 hs ht;clear hs ht hs1 ht1;go_enter Tryz.func153,Tryz.ntmps153;go_wp2_with fail;refine bodyPost_ret (v:=.agg #[.int .i64 a,.int .i64 s,.int .i64 t]) (by simp[results,Tryz.results153,go_sem];exact⟨HS.out.symm,HT.out.symm⟩) rfl ?_;exact⟨rfl,by repeat(first|assumption|exact Kp.refl _|refine Kp.alloc ?_ _|refine Kp.drewN ?_ _|refine Kp.drew ?_|refine Kp.setCell ?_ (by simp) _)⟩
theorem afterM_yes {was is:List Int}{g t f x y:Nat}(h1:t<x+1)(h2:f<y+1)(h:gN was x=gN is y):afterM was is t f (g+1) ((x+1:Nat):Int) ((y+1:Nat):Int)=afterM was is t f g x y:=by
 show(if _ then _ else _)=_;have e1:((x+1:Nat):Int) - 1=x:=by omega
 have e2:((y+1:Nat):Int) - 1=y:=by omega
 rw[e1,e2,if_pos ⟨by omega,by omega,h⟩]
theorem afterM_no {was is:List Int}{t f x y:Nat}(h:¬(t<x∧f<y∧gN was (x - 1)=gN is (y - 1))):∀g,afterM was is t f g x y=y
 |0=>rfl
 |g+1=>by
  show(if _ then _ else _)=_;rw[if_neg];rintro⟨h1,h2,h3⟩;rw[show((x:Int) - 1).toNat=x - 1 by omega,show((y:Int) - 1).toNat=y - 1 by omega]at h3;exact h ⟨by omega,by omega,h3⟩
theorem after_any (F G:Nat→Prop)(A B:Option Addr)(n c m d:Nat)(was is:List Int)(f a b t:Nat)(w:World)(hl:Ru w F A n c was)(hx:Ru w G B m d is)(h2:f≤b)(h3:a≤n)(h4:b≤m)(ht:t≤9223372036854775807):
 Calls Tryz.prog 173 #[.slice A n c,.slice B m d,.agg #[.int .i64 (f:Int),.int .i64 (a:Int),.int .i64 (b:Int)],.int .i64 (t:Int)] w fun e w'=>e=.returned (.int .i64 (afterW was is ⟨f,a,b⟩ t))∧Kp w w':=by
 have hcn:=hl.le;have hcm:=hx.le;have hcap:=hl.cap;have hcap2:=hx.cap;unfold maxLen at hcap hcap2;obtain⟨HRL,HXL,HLA⟩:=hid3 hl hx hl.len;clear hl hx;obtain⟨v,hv⟩:∃v,v=afterW was is ⟨f,a,b⟩ t:=⟨_,rfl⟩;rw[←hv];have HV:Hid (v=afterM was is t f n a b):=by show _=_;rw[hv,←HLA.out];rfl
 clear hv;go_enter Tryz.func173,Tryz.ntmps173;go_upto_region 1 with fail;have b6:=Bx.new w #[.int .i64 (f:Int),.int .i64 (a:Int),.int .i64 (b:Int)] 284;have k1:=(Kp.refl w).alloc (.cells #[.int .i64 (f:Int),.int .i64 (a:Int),.int .i64 (b:Int)] 284);generalize(w.alloc (.cells #[.int .i64 (f:Int),.int .i64 (a:Int),.int .i64 (b:Int)] 284))=w1 at *;obtain⟨p0,p1,p2,f0,f1,f2⟩:=b6.three;go_quiet (fail);go_wp2_with fail;obtain⟨HB,HK⟩:=hid2 b6 k1;clear p0 p1 p2 f0 f1 f2 b6 k1;go_loopg [9,10] n (fun g u1 u2 wr=>∃x y:Nat,u1=.int .i64 x∧u2=.int .i64 y∧f≤y∧x≤g∧x≤a∧y≤b∧Bx wr w.heap.size #[.int .i64 (f:Int),.int .i64 (a:Int),.int .i64 (b:Int)] 284∧Kp w wr∧
  Hid (v=afterM was is t f g x y))
 case atStart=>exact⟨a,b,rfl,rfl,h2,h3,le_,le_,by first|exact HB.out|exact HB.out.drewN _,by first|exact HK.out|exact HK.out.drewN _,HV.out⟩
 case round=>
  clear HV HB HK;obtain⟨x,y,rfl,rfl,y1,xg,x2,y2,br,kr,haft⟩:=hrel;obtain⟨p0,p1,p2,f0,f1,f2⟩:=br.three;obtain⟨cb,hcb⟩:∃cb,cb=decide (t<x∧f<y∧gN was (x - 1)=gN is (y - 1)):=⟨_,rfl⟩;have HCB:=hid hcb;clear hcb;go_upto_region 2 with fail;go_cut [36] (fun v wx=>v=.bool cb∧Dr wr wx)
  case first=>
   by_cases c1:(x:Int)>(t:Int)
   ·have q1:=dT c1
    by_cases c2:(y:Int)>(f:Int)
    ·have q2:=dT c2
     obtain⟨x',hx'⟩:∃x',x=x'+1:=⟨x - 1,by omega⟩;obtain⟨y',hy'⟩:∃y',y=y'+1:=⟨y - 1,by omega⟩;have i1:(x:Int) - 1=(x':Int):=by omega
     have i2:(y:Int) - 1=(y':Int):=by omega
     obtain⟨ad,rfl,u0⟩:=(HRL.out.kp kr).getN (k:=x') (by omega);obtain⟨bd,rfl,u1⟩:=(HXL.out.kp kr).getN (k:=y') (by omega);have HV:Hid (cb=(gN was x'==gN is y')):=by
      show _=_;rw[HCB.out,Bool.eq_iff_iff,show x - 1=x' by omega,show y - 1=y' by omega];simp;omega
     have hjn:x'<n:=by omega
     have hjm:y'<m:=by omega
     clear HCB haft hx' hy';generalize gN was x'=u at *;generalize gN is y'=v at *;go_quiet (fail);go_wp2_with fail;go_meet;exact⟨by rw[HV.out],⟨_,rfl⟩⟩
    ·have q2:=dF c2
     have HV:Hid (cb=false):=by
      show _=_;rw[HCB.out,decide_eq_false (by omega)]
     go_quiet (fail);go_wp2_with fail;go_meet;exact⟨by rw[HV.out],⟨_,rfl⟩⟩
   ·have q1:=dF c1
    have HV:Hid (cb=false):=by
     show _=_;rw[HCB.out,decide_eq_false (by omega)]
    go_quiet (fail);go_wp2_with fail;go_meet;exact⟨by rw[HV.out],⟨_,rfl⟩⟩
  case rest=>
   obtain⟨rfl,hdr⟩:=hcut;have br1:=br.kp hdr.kp;have kr1:=kr.trans hdr.kp;clear br kr p0 p1 p2 f0 f1 f2 hdr;obtain⟨p0,p1,p2,f0,f1,f2⟩:=br1.three;cases cb
   ·have HF:Hid (v=y):=by
     have h:=HCB.out;rw[eq_comm,decide_eq_false_iff_not]at h;show _=_;rw[haft.out,afterM_no h]
    clear HCB haft xg;go_wp2_with fail;go_ret;exact⟨zC HF.out.symm,kr1⟩
   ·have HE:Hid (t<x∧f<y∧gN was (x - 1)=gN is (y - 1)):=by
     have h:=HCB.out;show _∧_;exact of_decide_eq_true h.symm
    obtain⟨e1,e2,e3⟩:=HE.out;obtain⟨x',hx'⟩:∃x',x=x'+1:=⟨x - 1,by omega⟩;obtain⟨y',hy'⟩:∃y',y=y'+1:=⟨y - 1,by omega⟩;have i1:(x:Int) - 1=(x':Int):=by omega
    have i2:(y:Int) - 1=(y':Int):=by omega
    have HG:Hid (v=afterM was is t f (gk - 1) x' y'):=by
     obtain⟨g',hg'⟩:∃g',gk=g'+1:=⟨gk - 1,by omega⟩;show _=_;rw[hx',hy']at haft e3;rw[haft.out,hg',afterM_yes (by omega) (by omega) (by simpa using e3)];rfl
    obtain⟨HX,HY⟩:=hid2 hx' hy';clear HCB haft e3 hx' hy';go_wp2_with fail;go_roundg (gk - 1)
    case measure=>have:=HX.out;omega
    case rel=>
     have hx':=HX.out;have hy':=HY.out;exact⟨x',y',rfl,rfl,by omega,by omega,by omega,by omega,br1,kr1,HG.out⟩
end Go.Proofs.YtociefdcccokjaaGreat

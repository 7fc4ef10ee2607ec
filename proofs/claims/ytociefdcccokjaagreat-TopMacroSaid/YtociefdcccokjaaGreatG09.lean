/-
  Lemmas for TopMacro. Conditions: each states its own.
-/
import Derived.WalkSpells
import Derived.StillTailTactics
import Derived.Test.YtociefdcccokjaaGreatG08
set_option maxHeartbeats 6400000
set_option maxRecDepth 100000
namespace Go.Proofs.YtociefdcccokjaaGreat
open Go.RowKit Go.Lib
theorem yF:(Tryz.prog.info? 21).map (fun i=>(i.zero,i.size,i.bytes))=some (some (.int .i32 0),1,4):=by kernel_rfl
theorem vC:(Tryz.prog.info? 41).map (fun i=>(i.zero,i.size,i.bytes))=some (some (.slice none 0 0),1,24):=by kernel_rfl
def RetSl (t:TypeId)(vs:List Value)(w:World)(e:Ending)(w':World):Prop:=∃A n c,e=.returned (.slice A n c)∧Own w' w.heap.size t 1 A n c vs∧Kp w w'
def RetRu (xs:List Int)(w:World)(e:Ending)(w':World):Prop:=∃A n c,e=.returned (.slice A n c)∧Ru w' (From w.heap.size) A n c xs∧Kp w w'
theorem vE (F:Nat→Prop)(A:Option Addr)(n c:Nat)(vs:List Value)(w:World)(h:Sl w F 1 A n c vs)(h1:∀u∈vs,u.oneCell'=true)(hn:n≤1099511627776):
 Calls Tryz.prog 41 #[.slice A n c] w (RetSl 21 vs w):=by
 have heq:=fun(wx:World) (a:Option Addr) (l d:Nat)=>Lib.run_eql_slice_nil (P:=Tryz.prog) wx 41 21 a l d 0 0 Tryz.underlying41
 have hcap:=h.cap;rcases A with _|ad
 ·have h0:n=0:=by
   rcases Nat.eq_zero_or_pos n with h0|h0
   ·exact h0
   ·obtain⟨ad,e,_⟩:=h.at_ h0
    cases e
  have hv:vs=[]:=List.eq_nil_of_length_eq_zero (by rw[h.len,h0]);subst hv;subst h0;go_enter Tryz.func41,Tryz.ntmps41;go_wp2;go_ret;exact⟨none,0,0,rfl,Own.nil _ _ _ _,Kp.refl _⟩
 ·have H1:=hid h1
  clear h1;go_enter Tryz.func41,Tryz.ntmps41;go_wp2_with (at_builtin;refine zA _ rfl _ _ _ rfl w.heap.size 21 _ 1 4 Tryz.underlying41 yF rfl (by omega) (some ⟨w.heap.size,0,none⟩) 0 0 [] rfl (World.ownsRow_made _ _ _ le_ (by simp[maxLen]) rfl) F (some ad) n c vs rfl (h.alloc _) H1.out (by simp only[maxLen];omega) (by omega) (by simp) ?_;intro A' c' w1 hown hg hat);go_wp2;go_ret;have hk:Kp w w1:=((Kp.refl w).alloc _).grown hg (by simp[zB]);exact⟨A',0+n,c',by simp,by simpa using hown,hk⟩
theorem vD (F:Nat→Prop)(A:Option Addr)(n c:Nat)(vs:List Value)(w:World)(h:Sl w F 1 A n c vs)(h1:∀u∈vs,u.oneCell'=true)(hn:n≤1099511627776):
 Calls Tryz.prog 183 #[.slice A n c] w (RetSl 41 vs w):=by
 have heq:=fun(wx:World) (a:Option Addr) (l d:Nat)=>Lib.run_eql_slice_nil (P:=Tryz.prog) wx 37 41 a l d 0 0 Tryz.underlying37
 have hcap:=h.cap;rcases A with _|ad
 ·have h0:n=0:=by
   rcases Nat.eq_zero_or_pos n with h0|h0
   ·exact h0
   ·obtain⟨ad,e,_⟩:=h.at_ h0
    cases e
  have hv:vs=[]:=List.eq_nil_of_length_eq_zero (by rw[h.len,h0]);subst hv;subst h0;go_enter Tryz.func183,Tryz.ntmps183;go_wp2;go_ret;exact⟨none,0,0,rfl,Own.nil _ _ _ _,Kp.refl _⟩
 ·have H1:=hid h1
  clear h1;go_enter Tryz.func183,Tryz.ntmps183;go_wp2_with (at_builtin;refine zA _ rfl _ _ _ rfl w.heap.size 41 _ 1 24 Tryz.underlying37 vC rfl (by omega) (some ⟨w.heap.size,0,none⟩) 0 0 [] rfl (World.ownsRow_made _ _ _ le_ (by simp[maxLen]) rfl) F (some ad) n c vs rfl (h.alloc _) H1.out (by simp only[maxLen];omega) (by omega) (by simp) ?_;intro A' c' w1 hown hg hat);go_wp2;go_ret;have hk:Kp w w1:=((Kp.refl w).alloc _).grown hg (by simp[zB]);exact⟨A',0+n,c',by simp,by simpa using hown,hk⟩
theorem zH (F:Nat→Prop)(A:Option Addr)(n c:Nat)(xs:List Int)(w:World)(h:Ru w F A n c xs)(hn:n≤1099511627776):
 Calls Tryz.prog 41 #[.slice A n c] w (RetRu xs w):=
 (vE F A n c (R32 xs) w h (zQ xs) hn).mono fun _ _ ⟨A',n',c',he,ho,hk⟩=>⟨A',n',c',he,ho.sl,hk⟩
theorem equal_any (F G:Nat→Prop)(A B:Option Addr)(n c m d:Nat)(xs ys:List Int)(w:World)(ha:Ru w F A n c xs)(hb:Ru w G B m d ys):
 Calls Tryz.prog 188 #[.slice A n c,.slice B m d] w fun e w'=>e=.returned (.bool (sameB xs ys))∧Dr w w':=by
 have hxl:=ha.len;have hyl:=hb.len;have hcx:=ha.cap;have hlx:=ha.le;have hcy:=hb.cap;have hly:=hb.le;unfold maxLen at hcx hcy;obtain⟨HX,HY⟩:=hid2 hxl hyl;clear hxl hyl;by_cases hnm:n=m
 ·subst hnm
  go_enter Tryz.func188,Tryz.ntmps188;go_wp2;go_loopw [13] (fun i wr=>∃k:Nat,k≤n∧i=.int .i64 k∧Dr w wr∧Hid (xs.take k=ys.take k)) (fun i _=>n - (intOf i).toNat)
  case atStart=>exact⟨0,Nat.zero_le _,rfl,Dr.refl _,rfl⟩
  case round=>
   obtain⟨k,hk,rfl,hdr,htk⟩:=hrel;by_cases hlt:k<n
   ·obtain⟨ad,rfl,hc1⟩:=(ha.kp hdr.kp).get hlt
    obtain⟨bd,rfl,hc2⟩:=(hb.kp hdr.kp).get hlt;by_cases hxy:xs[k]?.getD 0=ys[k]?.getD 0
    ·have HT:Hid (xs.take (k+1)=ys.take (k+1)):=take_eq_of (by rw[HX.out];exact hlt) (by rw[HY.out];exact hlt) htk.out hxy
     generalize xs[k]?.getD 0=u at *;generalize ys[k]?.getD 0=v at *;subst hxy;go_wp2;go_quiet (fail);go_wp2;go_roundw
     case rel=>exact⟨k+1,by omega,by go_num,hdr.drewN _,HT⟩
     case measure=>simp[intOf];omega
    ·have hB:(xs[k]?.getD 0 != ys[k]?.getD 0)=true:=by rw[bne_iff_ne];exact hxy
     have HN:=hid (sameB_no (ne_of_get hxy));generalize xs[k]?.getD 0=u at *;generalize ys[k]?.getD 0=v at *;go_wp2;go_quiet (fail);go_wp2;go_ret;exact⟨zD HN.out.symm,hdr.drewN _⟩
   ·have HE:Hid (sameB xs ys=true):=(xX _ _).2 (by
     have h:=htk.out;rwa[List.take_of_length_le (by rw[HX.out];omega),List.take_of_length_le (by rw[HY.out];omega)]at h)
    go_wp2;go_ret;exact⟨zD HE.out.symm,hdr⟩
 ·have HN:Hid (sameB xs ys=false):=sameB_no (by rintro rfl;exact hnm (HX.out.symm.trans HY.out))
  have hB:((n:Int) != (m:Int))=true:=by rw[bne_iff_ne];omega
  go_enter Tryz.func188,Tryz.ntmps188;go_wp2;go_ret;exact⟨zD HN.out.symm,Dr.refl _⟩
def GapP (w:World)(G R:Nat)(x z y:List Int):Prop:=
 Bx w G #[.slice (some ⟨R,0,none⟩) (x.length+z.length+y.length) (x.length+z.length+y.length),.int .i64 (x.length:Int),.int .i64 ((x.length+z.length:Nat):Int)] 216∧
  Bx w R (R32 (x++z++y)).toArray 21∧G≠R∧x.length+z.length+y.length≤1048576
def GapAt (w:World)(G R:Nat)(l:List Int):Prop:=∃x z y,l=x++y∧GapP w G R x z y
theorem GapP.kp {w w':World}{G R:Nat}{x z y:List Int}(h:GapP w G R x z y)(k:Kp w w'):GapP w' G R x z y:=⟨h.1.kp k,h.2.1.kp k,h.2.2⟩
theorem GapAt.kp {w w':World}{G R:Nat}{l:List Int}(h:GapAt w G R l)(k:Kp w w'):GapAt w' G R l:=by
 obtain⟨x,z,y,h1,h2⟩:=h;exact⟨x,z,y,h1,h2.kp k⟩
theorem GapP.row {w:World}{G R:Nat}{x z y:List Int}(h:GapP w G R x z y):Ru w (fun k=>k=R) (some ⟨R,0,none⟩) (x.length+z.length+y.length) (x.length+z.length+y.length) (x++z++y):=
 ⟨le_,by simp only[maxLen];have:=h.2.2.2;omega,by rw[zG];simp;omega,fun _=>⟨_,rfl,rfl,h.2.1.lt,by
  have h2:=World.news_of_block h.2.1;simpa using h2⟩⟩
theorem xI (G R:Nat)(l:List Int)(w:World)(h:GapAt w G R l):
 Calls Tryz.prog 124 #[.pointer (some ⟨G,0,none⟩)] w fun e w'=>e=.returned (.int .i64 (l.length:Int))∧Kp w w':=by
 obtain⟨x,z,y,rfl,hb,_,_,hn⟩:=h;obtain⟨p0,p1,p2,f0,f1,f2⟩:=hb.three;clear hb;go_enter Tryz.func124,Tryz.ntmps124;go_upto_region 3 with fail;go_quiet (fail);go_wp2_with fail;go_ret;exact⟨zC (by rw[List.length_append];omega),by first|exact Kp.refl _|exact(Kp.refl _).drewN _⟩
theorem cut_low {x z y:List Int}{a b:Nat}(h:b≤x.length):cutM (x++z++y) a b=cutM (x++y) a b:=by
 unfold cutM;rw[List.append_assoc,List.take_append_of_le_length h,List.take_append_of_le_length h]
theorem cut_high {x z y:List Int}{a b:Nat}(h:x.length≤a):cutM (x++z++y) (a+z.length) (b+z.length)=cutM (x++y) a b:=by
 unfold cutM;apply List.ext_getElem?;intro i;rw[List.getElem?_drop,List.getElem?_drop,List.getElem?_take,List.getElem?_take];by_cases hi:a+i<b
 ·rw[if_pos (by omega),if_pos hi,List.getElem?_append_right (by rw[List.length_append];omega),List.getElem?_append_right (by omega),List.length_append]
  congr 1
  omega
 ·rw[if_neg (by omega),if_neg hi]
theorem cut_join {l:List Int}{a m b:Nat}(h1:a≤m)(h2:m≤b):cutM l a m++cutM l m b=cutM l a b:=by
 unfold cutM;apply List.ext_getElem?;intro i;by_cases hm:m≤l.length
 ·have hl:((l.take m).drop a).length=m - a:=by rw[List.length_drop,List.length_take];omega
  by_cases hi:i<m - a
  ·rw[List.getElem?_append_left (by omega),List.getElem?_drop,List.getElem?_drop,List.getElem?_take,List.getElem?_take,if_pos (by omega),if_pos (by omega)]
  ·rw[List.getElem?_append_right (by omega),hl,List.getElem?_drop,List.getElem?_drop,show m+(i - (m - a))=a+i by omega]
 ·rw[List.drop_eq_nil_of_le (by rw[List.length_take];omega:(l.take b).length≤m),List.append_nil,List.take_of_length_le (by omega),List.take_of_length_le (by omega)]
def RetOw (xs:List Int)(w:World)(e:Ending)(w':World):Prop:=∃A n c,e=.returned (.slice A n c)∧Own w' w.heap.size 21 1 A n c (R32 xs)∧Kp w w'
theorem RetOw.ru {xs:List Int}{w:World}{e:Ending}{w':World}(h:RetOw xs w e w'):RetRu xs w e w':=by
 obtain⟨A,n,c,h1,h2,h3⟩:=h;exact⟨A,n,c,h1,h2.sl,h3⟩
theorem gapSlice_own (G R a b:Nat)(l:List Int)(w:World)(h:GapAt w G R l)(hab:a<b)(hbl:b≤l.length):
 Calls Tryz.prog 123 #[.pointer (some ⟨G,0,none⟩),.int .i64 (a:Int),.int .i64 (b:Int)] w (RetOw (cutM l a b) w):=by
 have HLN:=hid (xI G R l w h);obtain⟨x,z,y,hl,hg⟩:=h;obtain⟨HG,HL⟩:=hid2 hg hl;have hlen:l.length=x.length+y.length:=by rw[hl,List.length_append]
 obtain⟨f,hf⟩:∃f,f=x.length:=⟨_,rfl⟩;obtain⟨t,ht⟩:∃t,t=x.length+z.length:=⟨_,rfl⟩;obtain⟨N,hN⟩:∃N,N=x.length+z.length+y.length:=⟨_,rfl⟩;obtain⟨v,hv⟩:∃v,v=l.length:=⟨_,rfl⟩;obtain⟨dz,hdz⟩:∃dz,dz=z.length:=⟨_,rfl⟩;obtain⟨HB,HR⟩:=hid2 (show Bx w G #[.slice (some ⟨R,0,none⟩) N N,.int .i64 (f:Int),.int .i64 (t:Int)] 216 by rw[hf,ht,hN];exact hg.1) (show Ru w (fun k=>k=R) (some ⟨R,0,none⟩) N N (x++z++y) by rw[hN];exact hg.row);have hNb:N≤1048576:=by rw[hN];exact hg.2.2.2
 rw[←hv]at HLN hbl hlen;have h1:v=f+(N - t):=by omega
 have h2:t=f+dz:=by omega
 have h3:t≤N:=by omega
 obtain⟨HF,HDZ,HV2,HT2⟩:=hid4 hf hdz h1 h2;have hvN:v+dz=N:=by omega
 have HVN:=hid hvN;have hbv:¬((v:Int)<(b:Int)):=by omega
 have hvb:v≤N:=by omega
 have hft:f≤t:=by omega
 have ht1:(t:Int) - (f:Int)=(dz:Int):=by omega
 clear hg hl hlen hf ht hN hv hdz h1 h2 hvN;go_enter Tryz.func123,Tryz.ntmps123;go_wp2_with fail;refine HLN.out.mono ?_;rintro e w1 ⟨rfl,k1⟩;have b1:=HB.out.kp k1;have r1:=(HR.out.kp k1);clear HLN HB HR;obtain⟨p0,p1,p2,_,_,_⟩:=b1.three;by_cases c1:(a:Int)<(f:Int)
 ·by_cases c2:(b:Int)>(f:Int)
  ·have q2:=dT c2
   have hfb:(f:Int)<(b:Int):=c2;have hfb2:f<b:=by omega
   have haf2:a≤f:=by omega
   have haf3:a<f:=by omega
   have hfN:f≤N:=by omega
   obtain⟨sb,hsb⟩:∃sb,sb=b+dz:=⟨_,rfl⟩;have e2:(b:Int)+(dz:Int)=(sb:Int):=by omega
   have e3:(f:Int)+(dz:Int)=(t:Int):=by have:=HT2.out;omega
   have hsbN:sb≤N:=by have:=HVN.out;omega
   have htsb:t≤sb:=by have:=HT2.out;omega
   have htN:¬(N=t):=by have:=HT2.out;have:=HVN.out;omega
   have haN:¬(N=a):=by omega
   have hta:=((r1.take (k:=f) (by omega)).drop (k:=a) (by omega)).any;rw[if_neg haN,show(some (⟨R,0,none⟩:Addr)).map (·.add a)=some ⟨R,a,none⟩from by simp[Addr.add];omega]at hta;have HE:Hid (((x++z++y).take f).drop a++((x++z++y).take sb).drop t=cutM l a b):=by
    show cutM (x++z++y) a f++cutM (x++z++y) t sb=_;rw[cut_low (by rw[←HF.out];omega),HT2.out,hsb,HDZ.out,cut_high (by rw[←HF.out];omega),←HL.out,cut_join haf2 (by omega)]
   have HR1:=hid r1;have hz:=k1.size;clear r1 hsb;generalize(x++z++y)=row at *;go_upto_region 6 with fail;go_still_tail 13,(by kernel_rfl);change wpList _ _ _ _ _ w1.drew;go_upto_region 7 with(at_builtin;refine zA _ rfl _ _ _ rfl w.heap.size 21 _ 1 4 Tryz.underlying41 yF rfl (by omega) none 0 0 [] rfl (Own.nil _ _ _ _) Any _ _ _ (R32 ((row.take f).drop a)) rfl (Sl.drew hta) (zQ _) (by simp only[maxLen];omega) (by omega) hz ?_;intro A5 c5 w5 hown5 hg5 hat5);rw[List.nil_append,Nat.zero_add]at hown5;have k5:=(k1.drew).grown hg5 (by simp[zB]);have b5:=(Bx.drew b1).grown hg5 (by simp[zB]);have kk5:Kp w1 w5:=(Kp.refl w1).drew.grown hg5 (by simp[zB]);have hta5:=((HR1.out.kp kk5).take (k:=sb) hsbN).drop (k:=t) htsb;have hta5:=Sl.any hta5;rw[if_neg htN,show(some (⟨R,0,none⟩:Addr)).map (·.add t)=some ⟨R,t,none⟩from by simp[Addr.add];omega]at hta5;clear p0 p1 p2 b1 hta hg5 hat5 kk5 HR1 hz k1;obtain⟨p0,p1,p2,_,_,_⟩:=b5.three;go_upto_region 8 with fail;go_quiet (fail);go_upto_region 9 with fail;have kd:Kp w5 (w5.drewN nq):=(Kp.refl w5).drewN nq;have b6:=b5.kp kd;have hta6:=Sl.kp hta5 kd;have hown6:=hown5.kp kd;have k6:=k5.trans kd;clear kd b5 hta5 hown5 k5 p0 p1 p2;generalize(w5.drewN nq)=w6 at *;have hz:=k6.size;obtain⟨p0,p1,p2,_,_,_⟩:=b6.three;have hwa:IntKind.i64.wrap (t:Int)=(t:Int):=zV (by omega) (by omega);have hwb:IntKind.i64.wrap (sb:Int)=(sb:Int):=zV (by omega) (by omega);have hlo:∀j,zB A5=some j→w.heap.size≤j:=fun j h=>(hown6.lt j h).1
   go_still_tail 17,(by kernel_rfl);change wpList _ _ _ _ _ w6.drew;go_upto_region 10 with(at_builtin;refine zA _ rfl _ _ _ rfl w.heap.size 21 _ 1 4 Tryz.underlying41 yF rfl (by omega) A5 (f - a) c5 (R32 ((row.take f).drop a)) rfl (Own.drew hown6) Any _ _ _ (R32 ((row.take sb).drop t)) rfl (Sl.drew hta6) (zQ _) (by simp only[maxLen];omega) (by omega) hz ?_;intro A7 c7 w7 hown7 hg7 hat7);rw[zM,HE.out]at hown7;have k7:=(k6.drew).grown hg7 hlo;clear p0 p1 p2 b6 hta6 hg7 hat7;go_wp2_with fail;go_ret;exact⟨A7,_,c7,rfl,hown7,k7⟩
  ·have hfb:¬((f:Int)<(b:Int)):=by omega
   have hfb2:¬(f<b):=by omega
   have hab2:a≤b:=by omega
   have hta:=((r1.take (k:=b) (by omega)).drop (k:=a) (by omega)).any;have haN:¬(N=a):=by omega
   rw[if_neg haN,show(some (⟨R,0,none⟩:Addr)).map (·.add a)=some ⟨R,a,none⟩from by simp[Addr.add];omega]at hta;have HE:Hid (((x++z++y).take b).drop a=cutM l a b):=by
    show cutM (x++z++y) a b=_;rw[cut_low (by rw[←HF.out];omega),HL.out]
   rw[HE.out]at hta;have hz:=k1.size;clear r1 HE;go_upto_region 6 with fail;have hbN:b≤N:=by omega
   go_still_tail 13,(by kernel_rfl);change wpList _ _ _ _ _ w1.drew;go_upto_region 7 with(at_builtin;refine zA _ rfl _ _ _ rfl w.heap.size 21 _ 1 4 Tryz.underlying41 yF rfl (by omega) none 0 0 [] rfl (Own.nil _ _ _ _) Any _ _ _ (R32 (cutM l a b)) rfl (Sl.drew hta) (zQ _) (by simp only[maxLen];omega) (by omega) hz ?_;intro A5 c5 w5 hown5 hg5 hat5);rw[List.nil_append,Nat.zero_add]at hown5;have k5:=(k1.drew).grown hg5 (by simp[zB]);have b5:=(Bx.drew b1).grown hg5 (by simp[zB]);clear p0 p1 p2 b1 hta hg5 hat5;obtain⟨p0,p1,p2,_,_,_⟩:=b5.three;go_wp2_with fail;go_ret;exact⟨A5,b - a,c5,rfl,hown5,k5⟩
 ·have q1:=dF c1
  have c2:(b:Int)>(f:Int):=by omega
  have q2:=dT c2;have haf:¬(a<f):=by omega
  have haf2:¬((a:Int)<(f:Int)):=c1;obtain⟨sa,hsa⟩:∃sa,sa=a+dz:=⟨_,rfl⟩;obtain⟨sb,hsb⟩:∃sb,sb=b+dz:=⟨_,rfl⟩;have e1:(a:Int)+(dz:Int)=(sa:Int):=by omega
  have e2:(b:Int)+(dz:Int)=(sb:Int):=by omega
  have hsab:sa≤sb:=by omega
  have hsbN:sb≤N:=by have:=HVN.out;omega
  have hta:=((r1.take (k:=sb) hsbN).drop (k:=sa) hsab).any;rw[if_neg (by omega),show(some (⟨R,0,none⟩:Addr)).map (·.add sa)=some ⟨R,sa,none⟩from by simp[Addr.add];omega]at hta;have HE:Hid (((x++z++y).take sb).drop sa=cutM l a b):=by
   show cutM (x++z++y) sa sb=_;rw[hsa,hsb,HDZ.out,cut_high (by rw[←HF.out];omega),HL.out]
  rw[HE.out]at hta;have hz:=k1.size;clear r1 HE hsa hsb;go_upto_region 8 with fail;go_quiet (fail);go_upto_region 9 with fail;have kd:Kp w1 (w1.drewN nq):=(Kp.refl w1).drewN nq;have b2:=b1.kp kd;have hta2:=Sl.kp hta kd;have k2:=k1.trans kd;clear kd b1 hta k1 p0 p1 p2 hz;generalize(w1.drewN nq)=w2 at *;have hz:=k2.size;obtain⟨p0,p1,p2,_,_,_⟩:=b2.three;have hNsa:¬(N=sa):=by omega
  have hwa:IntKind.i64.wrap (sa:Int)=(sa:Int):=zV (by omega) (by omega);have hwb:IntKind.i64.wrap (sb:Int)=(sb:Int):=zV (by omega) (by omega);go_still_tail 17,(by kernel_rfl);change wpList _ _ _ _ _ w2.drew;go_upto_region 10 with(at_builtin;refine zA _ rfl _ _ _ rfl w.heap.size 21 _ 1 4 Tryz.underlying41 yF rfl (by omega) none 0 0 [] rfl (Own.nil _ _ _ _) Any _ _ _ (R32 (cutM l a b)) rfl (Sl.drew hta2) (zQ _) (by simp only[maxLen];omega) (by omega) hz ?_;intro A5 c5 w5 hown5 hg5 hat5);rw[List.nil_append,Nat.zero_add]at hown5;have k5:=(k2.drew).grown hg5 (by simp[zB]);clear p0 p1 p2 b2 hta2 hg5 hat5;go_wp2_with fail;go_ret;exact⟨A5,_,c5,rfl,hown5,k5⟩
theorem gapSlice_any (G R a b:Nat)(l:List Int)(w:World)(h:GapAt w G R l)(hab:a<b)(hbl:b≤l.length):
 Calls Tryz.prog 123 #[.pointer (some ⟨G,0,none⟩),.int .i64 (a:Int),.int .i64 (b:Int)] w (RetRu (cutM l a b) w):=
 (gapSlice_own G R a b l w h hab hbl).mono fun _ _ h=>h.ru
def patD (T:TM)(l:List Int):List Bool:=l.map fun r=>decide (T.cls r≠0)
theorem vG (T:TM)(l:List Int):(patD T l).length=l.length:=by simp[patD]
def rzZ (zs:List Bool)(i:Nat):Nat:=((zs.drop i).takeWhile id).length
def mkZ (zs:List Bool):Nat→Nat→List (Nat×Nat)
 |0,_=>[]
 |k+1,i=>if i<zs.length then(if 1<rzZ zs i then[(i,i+rzZ zs i)]else[])++mkZ zs k (i+rzZ zs i+1)else[]
def xL (T:TM)(l:List Int)(p:Nat×Nat):List Int:=l.take p.1++zS T.cls (cutM l p.1 p.2)++l.drop p.2
theorem takeWhile_map_len {α:Type}(p:α→Bool)(l:List α):((l.map p).takeWhile id).length=(l.takeWhile p).length:=by
 induction l with
 |nil=>rfl
 |cons a l ih=>
  rw[List.map_cons,List.takeWhile_cons,List.takeWhile_cons];cases h:p a<;>simp[ih]
theorem runD_take (T:TM)(l:List Int):runD T l=l.take (runD T l).length:=List.prefix_iff_eq_take.1 (List.takeWhile_prefix _)
theorem patD_drop (T:TM)(l:List Int)(k:Nat):(patD T l).drop k=patD T (l.drop k):=by simp[patD]
theorem order_go (T:TM)(zs:List Bool):∀(k i:Nat) (dn rest:List Int),zs.drop i=patD T rest→(rest=[]∨dn.length=i)→(mkZ zs k i).foldl (xL T) (dn++rest)=dn++ordD T k rest
 |0,_,_,_,_,_=>rfl
 |k+1,i,dn,rest,hz,hd=>by
  by_cases he:rest=[]
  ·subst he
   have h1:zs.length≤i:=by
    have:=congrArg List.length hz;simp[patD]at this;omega
   unfold mkZ ordD;rw[if_neg (by omega),if_pos rfl];rfl
  ·have hdi:dn.length=i:=by rcases hd with h|h;exact absurd h he;exact h
   have hil:i<zs.length:=by
    have:=congrArg List.length hz;rw[List.length_drop,vG]at this;have :0<rest.length:=by cases rest with|nil=>exact absurd rfl he|cons a r=>simp
    omega
   have hr:rzZ zs i=(runD T rest).length:=by
    unfold rzZ;rw[hz];exact takeWhile_map_len _ _
   have hle:=runD_le T rest;have hrun:=runD_take T rest;unfold mkZ ordD;rw[if_pos hil,if_neg he,hr,List.foldl_append];have hz2:zs.drop (i+(runD T rest).length+1)=patD T (rest.drop ((runD T rest).length+1)):=by
    rw[←patD_drop,←hz,List.drop_drop]
    congr 1
   have hs:((if 1<(runD T rest).length then[(i,i+(runD T rest).length)]else[]).foldl (xL T) (dn++rest))=(dn++sortD T (runD T rest)++(rest.drop (runD T rest).length).take 1)++rest.drop ((runD T rest).length+1):=by
    have hsplit:rest.drop (runD T rest).length=(rest.drop (runD T rest).length).take 1++rest.drop ((runD T rest).length+1):=by
     rw[←List.drop_drop];exact(List.take_append_drop 1 _).symm
    by_cases h1:1<(runD T rest).length
    ·rw[if_pos h1]
     show xL T (dn++rest) (i,i+(runD T rest).length)=_;have e1:(dn++rest).take i=dn:=by rw[←hdi];simp
     have e2:cutM (dn++rest) i (i+(runD T rest).length)=runD T rest:=by
      unfold cutM;rw[List.drop_take,←hdi,List.drop_left,Nat.add_sub_cancel_left];exact hrun.symm
     have e3:(dn++rest).drop (i+(runD T rest).length)=rest.drop (runD T rest).length:=by
      rw[←List.drop_drop,←hdi,List.drop_left]
     unfold xL sortD;dsimp only;rw[if_pos h1,e1,e2,e3];generalize(rest.drop (runD T rest).length)=q at *;generalize q.take 1=q1 at *;rw[hsplit];simp only[List.append_assoc]
    ·rw[if_neg h1]
     show dn++rest=_;unfold sortD;rw[if_neg h1];have h3:rest=runD T rest++rest.drop (runD T rest).length:=by
      have h4:=List.take_append_drop (runD T rest).length rest;rw[←hrun]at h4;exact h4.symm
     calc dn++rest=dn++(runD T rest++((rest.drop (runD T rest).length).take 1++rest.drop ((runD T rest).length+1))):=by rw[←hsplit,←h3]
      _=_:=by simp only[List.append_assoc]
   rw[hs,order_go T zs k _ _ _ hz2]
   ·simp only[List.append_assoc]
   ·by_cases hf:rest.length≤(runD T rest).length
    ·left;rw[List.drop_of_length_le (by omega)]
    ·right
     simp only[List.length_append,sortD_len,List.length_take,List.length_drop];omega
theorem order_eq (T:TM)(l:List Int):(mkZ (patD T l) l.length 0).foldl (xL T) l=orderD T l:=by
 have:=order_go T (patD T l) l.length 0 [] l (by simp) (.inr rfl);simpa[orderD]using this
theorem mkZ_len (zs:List Bool):∀(k i:Nat),(mkZ zs k i).length≤k
 |0,_=>le_
 |k+1,i=>by
  have:=mkZ_len zs k (i+rzZ zs i+1);unfold mkZ
  split
  ·rw[List.length_append];split<;>simp <;>omega
  ·simp
def SubL (l' l:List Int):Prop:=l'.length=l.length∧∀x∈l',x∈l
theorem SubL.refl (l:List Int):SubL l l:=⟨rfl,fun _ h=>h⟩
theorem gN_mem {l:List Int}{i:Nat}(h:i<l.length):gN l i∈l:=by unfold gN;rw[List.getElem?_eq_getElem h];exact List.getElem_mem h
theorem SubL.swap {l' l:List Int}(h:SubL l' l){i j:Nat}(hi:i<l.length)(hj:j<l.length):SubL (yS l' i j) l:=by
 refine⟨by rw[yN];exact h.1,fun x hx=>?_⟩;unfold yS at hx;rcases List.mem_or_eq_of_mem_set hx with hx|rfl
 ·rcases List.mem_or_eq_of_mem_set hx with hx|rfl
  ·exact h.2 x hx
  ·exact h.2 _ (gN_mem (by rw[h.1];exact hj))
 ·exact h.2 _ (gN_mem (by rw[h.1];exact hi))
section
variable (f:Int→Int){l:List Int}
theorem SubL.insJ (a:Nat):∀(j:Nat) {l':List Int},j<l.length→SubL l' l→SubL (insJ f a j l') l
 |0,_,_,h=>h
 |j+1,l',hj,h=>by
  show SubL (if _ then _ else _) l
  split
  ·exact SubL.insJ a j (by omega) (h.swap hj (by omega))
  ·exact h
theorem SubL.insL (a b:Nat)(hb:b≤l.length):∀(k i:Nat) {l':List Int},SubL l' l→SubL (insL f a b k i l') l
 |0,_,_,h=>h
 |k+1,i,l',h=>by
  show SubL (if _ then _ else _) l
  split
  ·exact SubL.insL a b hb k (i+1) (SubL.insJ f a i (by omega) h)
  ·exact h
theorem SubL.swR (a b:Nat):∀(k i:Nat) {l':List Int},a+i+k≤l.length→b+i+k≤l.length→SubL l' l→SubL (swR a b k i l') l
 |0,_,_,_,_,h=>h
 |k+1,i,l',h1,h2,h=>SubL.swR a b k (i+1) (by omega) (by omega) (h.swap (by omega) (by omega))
theorem SubL.rotW (m:Nat):∀(k i j:Nat) {l':List Int},i≤m→m+j≤l.length→SubL l' l→SubL (rotW m k i j l') l
 |0,_,_,_,_,_,h=>h
 |k+1,i,j,l',h1,h2,h=>by
  show SubL (if _ then _ else if _ then _ else _) l
  split
  ·exact SubL.swR _ _ _ _ (by omega) (by omega) h
  ·split
   ·exact SubL.rotW m k _ _ (by omega) h2 (SubL.swR _ _ _ _ (by omega) (by omega) h)
   ·exact SubL.rotW m k _ _ h1 (by omega) (SubL.swR _ _ _ _ (by omega) (by omega) h)
theorem SubL.upM (i:Nat)(hi:i≤l.length):∀(c k:Nat) {l':List Int},SubL l' l→SubL (upM i c k l') l
 |0,_,_,h=>h
 |c+1,k,l',h=>by
  show SubL (if _ then _ else _) l
  split
  ·exact SubL.upM i hi c (k+1) (h.swap (by omega) (by omega))
  ·exact h
theorem SubL.downM (i:Nat):∀(k:Nat) {l':List Int},k<l.length→SubL l' l→SubL (downM i k l') l
 |0,_,_,h=>h
 |k+1,l',hk,h=>by
  show SubL (if _ then _ else _) l
  split
  ·exact SubL.downM i k (by omega) (h.swap hk (by omega))
  ·exact h
theorem SubL.symM:∀(k a m b:Nat) {l':List Int},a<m→m<b→b≤l.length→SubL l' l→SubL (symM f k a m b l') l
 |0,_,_,_,_,_,_,_,h=>h
 |k+1,a,m,b,l',h1,h2,h3,h=>by
  have hs:=symS_in f l' h1 h2;have hrot:SubL (if symS f l' a m b<m∧m<(a+b) / 2+m - symS f l' a m b then rotM (symS f l' a m b) m ((a+b) / 2+m - symS f l' a m b) l' else l') l:=by
   split
   ·exact SubL.rotW _ _ _ _ (by omega) (by omega) h
   ·exact h
  show SubL (if _ then _ else if _ then _ else _) l
  split
  ·have:=bsP_in (fun h=>decide (f (gN l' h)<f (gN l' a))) (b - m) m b (by omega)
   exact SubL.upM _ (by omega) _ _ h
  ·split
   ·exact SubL.downM _ _ (by omega) h
   ·dsimp only
    generalize(if symS f l' a m b<m∧m<(a+b) / 2+m - symS f l' a m b then rotM (symS f l' a m b) m ((a+b) / 2+m - symS f l' a m b) l' else l')=l2 at *;have h4:SubL (if a<symS f l' a m b∧symS f l' a m b<(a+b) / 2 then Go.Proofs.YtociefdcccokjaaGreat.symM f k a (symS f l' a m b) ((a+b) / 2) l2 else l2) l:=by
     split
     ·rename_i hc;exact SubL.symM k _ _ _ hc.1 hc.2 (by omega) hrot
     ·exact hrot
    split
    ·rename_i hc;exact SubL.symM k _ _ _ hc.1 hc.2 h3 h4
    ·exact h4
theorem SubL.stA:∀(k a:Nat) {l':List Int},SubL l' l→SubL (stA f l.length k a l').1 l
 |0,_,_,h=>h
 |k+1,a,l',h=>by
  unfold Go.Proofs.YtociefdcccokjaaGreat.stA
  split
  ·rename_i hc;exact SubL.stA k _ (SubL.insL f _ _ hc _ _ h)
  ·exact h
theorem SubL.stM (bs:Nat)(hb:0<bs):∀(k a:Nat) {l':List Int},SubL l' l→SubL (stM f l.length bs k a l').1 l
 |0,_,_,h=>h
 |k+1,a,l',h=>by
  unfold Go.Proofs.YtociefdcccokjaaGreat.stM
  split
  ·rename_i hc;exact SubL.stM bs hb k _ (SubL.symM f _ _ _ _ (by omega) (by omega) hc h)
  ·exact h
theorem SubL.stB:∀(k bs:Nat) {l':List Int},0<bs→SubL l' l→SubL (stB f l.length k bs l') l
 |0,_,_,_,h=>h
 |k+1,bs,l',hb,h=>by
  unfold Go.Proofs.YtociefdcccokjaaGreat.stB
  split
  ·refine SubL.stB k _ (by omega) ?_
   unfold stR
   split
   ·rename_i hc;exact SubL.symM f _ _ _ _ (by omega) hc le_ (SubL.stM f bs hb _ _ h)
   ·exact SubL.stM f bs hb _ _ h
  ·exact h
theorem SubL.stable (l:List Int):SubL (zS f l) l:=SubL.stB f _ _ (by omega) (SubL.insL f _ _ le_ _ _ (SubL.stA f _ _ (SubL.refl l)))
end
theorem patD_sort (T:TM){l:List Int}{p:Nat×Nat}(h1:p.1<p.2)(h2:p.2≤l.length)(h3:∀k,p.1≤k→k<p.2→(patD T l)[k]? =some true):patD T (xL T l p)=patD T l:=by
 have hlen:(cutM l p.1 p.2).length=p.2 - p.1:=cutM_len l p.1 p.2 h2;have hall:∀x∈cutM l p.1 p.2,T.cls x≠0:=by
  intro x hx;obtain⟨i,hi,rfl⟩:=List.getElem_of_mem hx;have h4:=h3 (p.1+i) (by omega) (by omega);unfold patD at h4;rw[List.getElem?_map,List.getElem?_eq_getElem (by omega)]at h4;have e:(cutM l p.1 p.2)[i]=l[p.1+i]'(by omega):=by simp[cutM]
  rw[e];simpa using h4
 have hsub:=SubL.stable T.cls (cutM l p.1 p.2);have e1:patD T (zS T.cls (cutM l p.1 p.2))=List.replicate (p.2 - p.1) true:=by
  rw[List.eq_replicate_iff];refine⟨by rw[vG,hsub.1,hlen],fun b hb=>?_⟩;obtain⟨x,hx,rfl⟩:=List.mem_map.1 hb;simpa using hall x (hsub.2 x hx)
 have e2:patD T (cutM l p.1 p.2)=List.replicate (p.2 - p.1) true:=by
  rw[List.eq_replicate_iff];refine⟨by rw[vG,hlen],fun b hb=>?_⟩;obtain⟨x,hx,rfl⟩:=List.mem_map.1 hb;simpa using hall x hx
 have e3:l=l.take p.1++cutM l p.1 p.2++l.drop p.2:=by
  unfold cutM;rw[List.append_assoc,List.drop_take];have h5:l.drop p.1=(l.drop p.1).take (p.2 - p.1)++l.drop p.2:=by
   have h6:=(List.take_append_drop (p.2 - p.1) (l.drop p.1)).symm;rw[List.drop_drop,show p.1+(p.2 - p.1)=p.2 by omega]at h6;exact h6
  rw[←h5,List.take_append_drop]
 have e4:patD T l=patD T (l.take p.1)++patD T (cutM l p.1 p.2)++patD T (l.drop p.2):=by
  conv=>lhs;rw[e3]
  unfold patD;rw[List.map_append,List.map_append]
 rw[e4,e2,←e1];unfold xL patD;rw[List.map_append,List.map_append]
def Tk (w0 w:World)(B g:Nat)(xs:List Int):Prop:=
 ∃A n c,Bx w B #[.pointer (some ⟨g,0,none⟩),.slice A n c] 261∧Own w w0.heap.size 21 1 A n c (R32 xs)∧zB A≠some B∧Kp w0 w∧w0.heap.size≤B
theorem Tk.kp {w0 w w':World}{B g:Nat}{xs:List Int}(h:Tk w0 w B g xs)(k:Kp w w'):Tk w0 w' B g xs:=by
 obtain⟨A,n,c,h1,h2,h3,h4,h5⟩:=h;exact⟨A,n,c,h1.kp k,h2.kp k,h3,h4.trans k,h5⟩
theorem Tk.app {w0 w w':World}{B g n c n' c':Nat}{A A':Option Addr}{xs ys:List Int}(hb:Bx w B #[.pointer (some ⟨g,0,none⟩),.slice A n c] 261)(h3:zB A≠some B)(hA:∀k,zB A=some k→w0.heap.size≤k)(h4:Kp w0 w)(h5:w0.heap.size≤B)
 (ho:Own w' w0.heap.size 21 1 A' n' c' (R32 (xs++ys)))(hg:w.grownBy w' (zB A))(hat:zB A'=zB A∨zB A'=some w.heap.size):
 Tk w0 (w'.setCell ⟨B,1,none⟩ (.slice A' n' c')) B g (xs++ys):=by
 have hne:zB A'≠some B:=by
  rcases hat with h|h
  ·rw[h];exact h3
  ·rw[h];intro e;have:=hb.lt;injection e with e;omega
 exact⟨A',n',c',(hb.grown hg h3).set 1 _,ho.setCell (p:=⟨B,1,none⟩) hne _,hne,(h4.grown hg hA).setCell (p:=⟨B,1,none⟩) h5 _,h5⟩
theorem takeD_syl (T:TM){r:Int}(h:sylB r=true):∀d,yE T d r=yD r
 |0=>by unfold yE;rw[if_pos h]
 |d+1=>by unfold yE;rw[if_pos h]
theorem takeD_leaf (T:TM){r:Int}(h:sylB r=false):∀d,(T.pairOk r=false∨d=0)→yE T d r=[r]
 |0,_=>by unfold yE;rw[if_neg (by simp[h])]
 |d+1,h2=>by unfold yE;rw[if_neg (by simp[h]),if_neg (by rcases h2 with h2|h2;simp[h2];omega)]
theorem takeD_pair (T:TM){r:Int}(h:sylB r=false)(h2:T.pairOk r=true)(d:Nat):yE T (d+1) r=yE T d (T.pr r).1++(if(T.pr r).2=0 then[]else yE T d (T.pr r).2):=by
 show(if sylB r=true then _ else if T.pairOk r=true then _ else _)=_;rw[if_neg (by simp[h]),if_pos h2]
def RetTk (w0:World)(B g:Nat)(xs:List Int)(e:Ending)(w':World):Prop:=e=.returned (.tuple #[])∧Tk w0 w' B g xs
theorem take_syl (g:Nat)(T:TM)(w0:World)(B:Nat)(d:Nat)(r:Int)(xs:List Int)(w:World)(hr:r32 r)(hl:xs.length+3≤1099511627776)(hk:Tk w0 w B g xs)(hs:sylB r=true):
 Calls Tryz.prog 136 #[.pointer (some ⟨B,0,none⟩),.int .i32 r,.int .i64 (d:Int)] w (RetTk w0 B g (xs++yE T d r)):=by
 rw[takeD_syl T hs];have heq:=fun(wx:World) (a:Addr) (l d:Nat)=>(run_neq_slice_nil_any (P:=Tryz.prog) wx 41 21 (some a) l d 0 0 Tryz.underlying41:_=Result.ok (Value.bool true) wx)
 obtain⟨HNE,HSL,HS,HX⟩:=hid4 (splitH_ne hs) (splitH_len r) hs hl;clear hs hl;go_enter Tryz.func136,Tryz.ntmps136;go_wp2_with fail;refine(split_any r _ hr).mono ?_;rintro e w1 ⟨A1,n1,c1,rfl,h1,k1,hn1⟩;rcases A1 with _|a1
 ·exact absurd (hn1.1 rfl) HNE.out
 ·clear hn1
  have hk1:=hk.kp k1;obtain⟨A,n,c,hb,ho,hrA,hkp,hB⟩:=hk1;obtain⟨b0,b1,_,f1⟩:=hb.two;have hlx:xs.length=n:=by have:=ho.len;rw[zG]at this;omega
  have hl1:(yD r).length=n1:=h1.len;have hnb:n+n1≤1099511627776:=by have:=HX.out;have:=HSL.out;omega
  have hz:=hkp.size;clear hlx hl1;go_wp2_with (at_builtin;refine zA _ rfl _ _ _ rfl w0.heap.size 21 _ 1 4 Tryz.underlying41 yF rfl (by omega) A n c (R32 xs) rfl ho (From w.heap.size) _ n1 c1 (R32 (yD r)) rfl h1 (zQ _) (by simp only[maxLen];omega) (by omega) hz ?_;intro A4 c4 w4 hown4 hg4 hat4;have bB4:=hb.grown hg4 hrA;obtain⟨p0,p1,g0,g1⟩:=bB4.two);go_end0;rw[zM]at hown4;exact⟨rfl,Tk.app hb hrA (fun k h=>(ho.lt k h).1) hkp hB hown4 hg4 hat4⟩
theorem take_leaf (g:Nat)(T:TM)(w0:World)(B:Nat)(d:Nat)(r:Int)(xs:List Int)(w:World)(hT:TabAt w0 g T)(hr:r32 r)(hl:xs.length+3≤1099511627776)(hk:Tk w0 w B g xs)(hs:sylB r=false)(hp:T.pairOk r=false∨d=0):
 Calls Tryz.prog 136 #[.pointer (some ⟨B,0,none⟩),.int .i32 r,.int .i64 (d:Int)] w (RetTk w0 B g (xs++yE T d r)):=by
 rw[takeD_leaf T hs d hp];have heq:=fun(wx:World) (l d:Nat)=>(run_neq_slice_nil_any (P:=Tryz.prog) wx 41 21 none l d 0 0 Tryz.underlying41:_=Result.ok (Value.bool false) wx)
 have HSP:Hid (yD r=[]):=by show _=_;unfold yD;rw[hs];rfl
 obtain⟨HT,HX⟩:=hid2 hT hl;have hp':T.pairOk r=false∨(T.pairOk r=true∧(((d:Nat):Int)==0)=true):=by
  rcases hq:T.pairOk r with _|_
  ·exact .inl rfl
  ·rcases hp with h|h
   ·rw[hq]at h;cases h
   ·exact .inr ⟨rfl,by simpa using h⟩
 clear hs hl hT hp;go_enter Tryz.func136,Tryz.ntmps136;go_wp2_with fail;refine(split_any r _ hr).mono ?_;rintro e w1 ⟨A1,n1,c1,rfl,h1,k1,hn1⟩;rcases A1 with _|a1
 rotate_left
 ·exact absurd (hn1.2 HSP.out) (by simp)
 ·have hn0:n1=0:=by rw[←h1.len,HSP.out];rfl
  subst hn0;clear hn1;have hk1:=hk.kp k1;obtain⟨A,n,c,hb,ho,hrA,hkp,hB⟩:=hk1;obtain⟨b0,b1,_,f1⟩:=hb.two;go_wp2_with fail;refine(xT g T r _ (HT.out.kp hkp) hr).mono ?_;rintro e w2 ⟨rfl,k2⟩;have hb2:=hb.kp k2;have ho2:=ho.kp k2;have hkp2:=hkp.trans k2;clear hb ho hkp b0 b1 f1;obtain⟨b0,b1,_,f1⟩:=hb2.two;have hlx:xs.length=n:=by have:=ho2.len;rw[zG]at this;omega
  have hnb:n+1≤1099511627776:=by have:=HX.out;omega
  have hz:=hkp2.size;clear hlx;have hown5:=ho2.alloc (.cells #[.int .i32 r] 21);have hb3:=hb2.alloc (.cells #[.int .i32 r] 21);rcases hp' with hp|⟨hp,hd0⟩
  all_goals
   rw[hp];clear hp;go_wp2_with (at_builtin;refine zA _ rfl _ _ _ rfl w0.heap.size 21 _ 1 4 Tryz.underlying41 yF rfl (by omega) A n c (R32 xs) rfl hown5 Any _ 1 1 [.int .i32 r] rfl (Sl.new_ w2 #[.int .i32 r] _ 1 1 _ rfl trivial rfl (by omega)) (by simp[Value.oneCell']) (by simp only[maxLen];omega) (by omega) (by simp;omega) ?_;intro A4 c4 w4 hown4 hg4 hat4;have bB4:=hb3.grown hg4 hrA;obtain⟨p0,p1,g0,g1⟩:=bB4.two);go_end0;have hown4':Own w4 w0.heap.size 21 1 A4 (n+1) c4 (R32 (xs++[r])):=by rw[←zM];exact hown4
   exact⟨rfl,Tk.app hb3 hrA (fun k h=>(hown5.lt k h).1) (hkp2.alloc _) hB hown4' hg4 hat4⟩
theorem take_any (g:Nat)(T:TM)(w0:World)(B:Nat)(hT:TabAt w0 g T):∀(d:Nat) (r:Int) (xs:List Int) (w:World),r32 r→d≤8→xs.length+3*2 ^ d≤1099511627776→Tk w0 w B g xs→
 Calls Tryz.prog 136 #[.pointer (some ⟨B,0,none⟩),.int .i32 r,.int .i64 (d:Int)] w (RetTk w0 B g (xs++yE T d r)):=by
 intro d
 induction d with
 |zero=>
  intro r xs w hr hd hl hk;rcases hs:sylB r with _|_
  ·exact take_leaf g T w0 B 0 r xs w hT hr (by simpa using hl) hk hs (.inr rfl)
  ·exact take_syl g T w0 B 0 r xs w hr (by simpa using hl) hk hs
 |succ d ih=>
  intro r xs w hr hd hl hk;have hpw:2 ^ (d+1)=2*2 ^ d:=by rw[Nat.pow_succ];omega
  have hp1:1≤2 ^ d:=Nat.one_le_two_pow;have hl3:xs.length+3≤1099511627776:=by omega
  rcases hs:sylB r with _|_
  ·rcases hp:T.pairOk r with _|_
   ·exact take_leaf g T w0 B (d+1) r xs w hT hr hl3 hk hs (.inl hp)
   ·rw[takeD_pair T hs hp]
    have h1:=fun(wx:World) (h:Tk w0 wx B g xs)=>ih (T.pr r).1 xs wx (hT.ok.pr32 r).1 (by omega) (by omega) h
    have hlen:=takeD_len T d (T.pr r).1;have h2:=fun(wx:World) (h:Tk w0 wx B g (xs++yE T d (T.pr r).1))=>ih (T.pr r).2 (xs++yE T d (T.pr r).1) wx (hT.ok.pr32 r).2 (by omega) (by rw[List.length_append];omega) h
    obtain⟨H1,H2⟩:=hid2 h1 h2;have hnil:=fun(wx:World) (l d:Nat)=>(run_neq_slice_nil_any (P:=Tryz.prog) wx 41 21 none l d 0 0 Tryz.underlying41:_=Result.ok (Value.bool false) wx)
    have HSP:Hid (yD r=[]):=by show _=_;unfold yD;rw[hs];rfl
    have HT:=hid hT;have hd0:(((d+1:Nat):Int)==0)=false:=by simp;omega
    have hd1:((d+1:Nat):Int) - 1=(d:Int):=by omega
    obtain⟨HP,HL⟩:=hid2 hp hl;clear hl hs hT hp ih h1 h2 hlen hpw hp1 hl3 HL;by_cases hq:(T.pr r).2=0
    ·have hq0:((T.pr r).2 != 0)=false:=by simpa using hq
     have HE:Hid ((xs++(yE T d (T.pr r).1++(if(T.pr r).2=0 then[]else yE T d (T.pr r).2)))=xs++yE T d (T.pr r).1):=by show _=_;rw[if_pos hq,List.append_nil]
     rw[HE.out];clear hq;go_enter Tryz.func136,Tryz.ntmps136;go_wp2_with fail;refine(split_any r _ hr).mono ?_;rintro e w1 ⟨A1,n1,c1,rfl,h1,k1,hn1⟩;obtain rfl:A1=none:=hn1.2 HSP.out;have hk1:=hk.kp k1;obtain⟨A,n,c,hb,ho,hrA,hkp,hB⟩:=hk1;obtain⟨b0,b1,_,f1⟩:=hb.two;clear hn1;go_wp2_with fail;refine(xT g T r _ (HT.out.kp hkp) hr).mono ?_;rintro e w2 ⟨rfl,k2⟩;rw[HP.out];have HK2:=hid (show Tk w0 w2 B g xs from⟨A,n,c,hb.kp k2,ho.kp k2,hrA,hkp.trans k2,hB⟩);clear hb ho hkp b0 b1 f1;go_wp2_with fail;refine(H1.out _ HK2.out).mono ?_;rintro e w3 ⟨rfl,hk3⟩;have HK3:=hid hk3;clear hk3;go_wp2_with fail;go_end0;exact⟨rfl,HK3.out⟩
    ·have hq0:((T.pr r).2 != 0)=true:=by simpa using hq
     have HE:Hid ((xs++(yE T d (T.pr r).1++(if(T.pr r).2=0 then[]else yE T d (T.pr r).2)))=xs++yE T d (T.pr r).1++yE T d (T.pr r).2):=by show _=_;rw[if_neg hq,List.append_assoc]
     rw[HE.out];clear hq;go_enter Tryz.func136,Tryz.ntmps136;go_wp2_with fail;refine(split_any r _ hr).mono ?_;rintro e w1 ⟨A1,n1,c1,rfl,h1,k1,hn1⟩;obtain rfl:A1=none:=hn1.2 HSP.out;have hk1:=hk.kp k1;obtain⟨A,n,c,hb,ho,hrA,hkp,hB⟩:=hk1;obtain⟨b0,b1,_,f1⟩:=hb.two;clear hn1;go_wp2_with fail;refine(xT g T r _ (HT.out.kp hkp) hr).mono ?_;rintro e w2 ⟨rfl,k2⟩;rw[HP.out];have HK2:=hid (show Tk w0 w2 B g xs from⟨A,n,c,hb.kp k2,ho.kp k2,hrA,hkp.trans k2,hB⟩);clear hb ho hkp b0 b1 f1;go_wp2_with fail;refine(H1.out _ HK2.out).mono ?_;rintro e w3 ⟨rfl,hk3⟩;have HK3:=hid hk3;clear hk3;go_wp2_with fail;refine(H2.out _ HK3.out).mono ?_;rintro e w4 ⟨rfl,hk4⟩;have HK4:=hid hk4;clear hk4;go_wp2_with fail;go_end0;exact⟨rfl,HK4.out⟩
  ·exact take_syl g T w0 B (d+1) r xs w hr hl3 hk hs
theorem full_any (g:Nat)(T:TM)(r:Int)(w:World)(hT:TabAt w g T)(hr:r32 r):
 Calls Tryz.prog 197 #[.pointer (some ⟨g,0,none⟩),.int .i32 r] w (RetRu (yM T r) w):=by
 have HT:=hid hT;clear hT;go_enter Tryz.func197,Tryz.ntmps197;go_wp2_with fail;have hk:Tk w (w.alloc (.cells #[.pointer (some ⟨g,0,none⟩),.slice none 0 0] 261)) w.heap.size g []:=⟨none,0,0,Bx.new _ _ _,Own.nil _ _ _ _,by simp[zB],(Kp.refl w).alloc _,le_⟩;refine(take_any g T w w.heap.size HT.out 8 r [] _ hr le_ (by simp) hk).mono ?_;rintro e w1 ⟨rfl,hk1⟩;rw[List.nil_append]at hk1;obtain⟨A,n,c,hb,ho,hrA,hkp,hB⟩:=hk1;obtain⟨b0,b1,_,f1⟩:=hb.two;go_wp2_with fail;go_ret;exact⟨A,n,c,rfl,ho.sl,hkp⟩
theorem Own.store {w:World}{base:Nat}{e:TypeId}{n c k:Nat}{A:Option Addr}{xs:List Value}(h:Own w base e 1 A n c xs)(hk:k<n):
 ∃g,A=some ⟨g,0,none⟩∧base≤g∧g<w.heap.size∧w.cell? ⟨g,k,none⟩=xs[k]?∧w.frozen? ⟨g,k,none⟩=false∧∀v,Own (w.setCell ⟨g,k,none⟩ v) base e 1 A n c (xs.set k v):=by
 rcases h.2 with⟨_,h0⟩|⟨g,cap,cur,hv,h1,h2,h3,h4,h5,h6⟩
 ·omega
 ·cases hv
  have hb:Bx w g cur e:=h2;rw[Nat.mul_one]at h5 h6;refine⟨g,rfl,h1,hb.lt,?_,hb.frozen k,fun v=>⟨by rw[List.length_set];exact h.1,.inr ⟨g,_,cur.setIfInBounds k v,rfl,h1,hb.set k v,h3,h4,by simp[h5],?_⟩⟩⟩
  ·rw[hb.cell,←h6,List.getElem?_take_of_lt hk]
   simp
  ·rw[Nat.mul_one,Array.toList_setIfInBounds,List.take_set,h6]
theorem R32_set (ys:List Int)(k:Nat)(x:Int):(R32 ys).set k (.int .i32 x)=R32 (ys.set k x):=by unfold R32;rw[List.map_set]
theorem pairC_some {T:TM}{a b c:Int}(h:joinH a b=some c):pairC T a b=some c:=by unfold pairC;rw[h]
theorem pairC_none {T:TM}{a b:Int}(h:joinH a b=none):pairC T a b=T.comp a b:=by unfold pairC;rw[h]
theorem cpair_any (g:Nat)(T:TM)(a b:Int)(w:World)(h:TabAt w g T)(ha:r32 a)(hb:r32 b):
 Calls Tryz.prog 135 #[.pointer (some ⟨g,0,none⟩),.int .i32 a,.int .i32 b] w fun e w'=>e=.returned (.tuple #[.int .i32 ((pairC T a b).getD 0),.bool (pairC T a b).isSome])∧Kp w w':=by
 obtain⟨HT,HA,HB,HJ⟩:=hid4 h ha hb (join_any a b w ha hb);clear h ha hb;rcases hj:joinH a b with _|c
 ·rw[pairC_none hj]
  rw[hj]at HJ;clear hj;go_enter Tryz.func135,Tryz.ntmps135;go_wp2_with fail;refine HJ.out.mono ?_;rintro e w1 ⟨rfl,k1⟩;simp only[Option.isSome_none,Option.getD_none];go_wp2_with fail;refine(compose_any g T a b _ (HT.out.kp k1) HA.out HB.out).mono ?_;rintro e w2 ⟨rfl,k2⟩;go_wp2_with fail;go_ret2;exact⟨rfl,k1.trans k2⟩
 ·rw[pairC_some hj]
  rw[hj]at HJ;clear hj;go_enter Tryz.func135,Tryz.ntmps135;go_wp2_with fail;refine HJ.out.mono ?_;rintro e w1 ⟨rfl,k1⟩;simp only[Option.isSome_some,Option.getD_some];go_wp2_with fail;go_ret2;exact⟨rfl,k1⟩
theorem joinH_32 {a b c:Int}(h:joinH a b=some c)(ha:r32 a)(hb:r32 b):r32 c:=by
 unfold r32 at *;unfold joinH at h
 split at h
 ·injection h with h;omega
 ·split at h
  ·rename_i h2
   obtain⟨h3,_,h4,h5⟩:=h2;have :44032≤a∧a<55204:=by unfold sylB at h3;simpa using h3
   injection h with h
   omega
  ·cases h
theorem pairC_32 {T:TM}(hT:T.Ok){a b c:Int}(h:pairC T a b=some c)(ha:r32 a)(hb:r32 b):r32 c:=by
 rcases hj:joinH a b with _|d
 ·rw[pairC_none hj]at h
  unfold TM.comp at h
  split at h
  ·cases h
  ·exact hT.made32 a b c h
 ·rw[pairC_some hj]at h
  injection h with h
  subst h;exact joinH_32 hj ha hb
theorem R32ok.set {l:List Int}(h:R32ok l)(k:Nat){x:Int}(hx:r32 x):R32ok (l.set k x):=fun y hy=>by
 rcases List.mem_or_eq_of_mem_set hy with hy|rfl
 ·exact h y hy
 ·exact hx
theorem stepC_32 {T:TM}(hT:T.Ok){s:CSt}{r:Int}(h:R32ok s.out)(hr:r32 r):R32ok (xO T s r).out:=by
 unfold xO
 split
 ·rename_i c hc
  refine h.set _ ?_
  split at hc
  ·exact pairC_32 hT hc h.get hr
  ·cases hc
 ·exact h.app (fun x hx=>by rw[List.mem_singleton]at hx;subst hx;exact hr)
theorem runC_32 {T:TM}(hT:T.Ok){l:List Int}(h:R32ok l):R32ok (runC T l).out:=by
 have hg:∀(l:List Int) (s:CSt),R32ok l→R32ok s.out→R32ok (l.foldl (xO T) s).out:=by
  intro l
  induction l with
  |nil=>intro s _ h;exact h
  |cons r l ih=>intro s h1 h2;exact ih _ (fun x hx=>h1 x (by simp[hx])) (stepC_32 hT h2 (h1 r (by simp)))
 exact hg l _ h R32ok.nil
theorem runC_snoc (T:TM){l:List Int}{k:Nat}(h:k<l.length):runC T (l.take (k+1))=xO T (runC T (l.take k)) (gN l k):=by
 unfold runC;rw[take_snoc h,List.foldl_append];rfl
theorem stepC_join {T:TM}{s:CSt}{r c:Int}(h:freeC T s r=true)(h2:pairC T (gN s.out s.starter.toNat) r=some c):xO T s r=⟨s.out.set s.starter.toNat c,s.starter,s.last⟩:=by
 unfold xO;rw[if_pos h];unfold gN at h2;rw[h2]
theorem stepC_app {T:TM}{s:CSt}{r:Int}(h:freeC T s r=false∨pairC T (gN s.out s.starter.toNat) r=none):xO T s r=⟨s.out++[r],if T.cls r=0 then(s.out.length:Int)else s.starter,T.cls r⟩:=by
 unfold xO;by_cases hf:freeC T s r=true
 ·rw[if_pos hf]
  rcases h with h|h
  ·rw[h]at hf;cases hf
  ·unfold gN at h
   rw[h]
 ·rw[if_neg hf]
theorem composeT_any (F:Nat→Prop)(g:Nat)(T:TM)(A:Option Addr)(n c:Nat)(l:List Int)(w:World)(h:TabAt w g T)(hl:Ru w F A n c l)(h32:R32ok l)(hn:n≤1099511627776):
 Calls Tryz.prog 98 #[.pointer (some ⟨g,0,none⟩),.slice A n c] w (RetRu (composeC T l) w):=by
 have hlen:=hl.len;have hle:=hl.le;have hcap:=hl.cap;unfold maxLen at hcap;obtain⟨HT,H32,HL,HRL⟩:=hid4 h h32 hlen hl;clear h h32 hlen hl;go_enter Tryz.func98,Tryz.ntmps98;go_wp2_with fail;go_loopw [16,5,6,7] (fun v u x y wr=>∃(k m cc:Nat) (A1:Option Addr) (s:CSt),v=.int .i64 k∧u=.slice A1 m cc∧x=.int .i64 s.starter∧y=.int .i64 s.last∧k≤n∧m≤k∧ -1≤s.starter∧s.starter<(m:Int)∧Kp w wr∧
  Own wr w.heap.size 21 1 A1 m cc (R32 s.out)∧Hid (runC T (l.take k)=s)) (fun v _ _ _ _=>n - (intOf v).toNat)
 case atStart=>exact⟨0,0,0,none,⟨[],-1,0⟩,rfl,rfl,rfl,rfl,Nat.zero_le _,le_,by decide,by decide,Kp.refl _,Own.nil _ _ _ _,rfl⟩
 case round=>
  obtain⟨k,m,cc,A1,s,rfl,rfl,rfl,rfl,hkn,hmk,hs1,hs2,kr,ho,hfo⟩:=hrel;have hom:s.out.length=m:=by have:=ho.len;rw[zG]at this;omega
  by_cases hlt:k<n
  ·obtain⟨ad,rfl,hck⟩:=(HRL.out.kp kr).getN hlt
   have hx32:r32 (gN l k):=H32.out.get;have hsn:=runC_snoc T (l:=l) (k:=k) (by rw[HL.out];exact hlt);have hso:R32ok s.out:=by rw[←hfo.out];exact runC_32 HT.out.ok (H32.out.sub fun x hx=>List.mem_of_mem_take hx)
   rw[hfo.out]at hsn;obtain⟨HSN,HSO,HX,HOM,HTR⟩:=hid5 hsn hso hx32 hom (HT.out.kp kr);clear hsn hso hx32 hom hfo;generalize gN l k=x at *;obtain⟨ys,st,la⟩:=s;dsimp only at hs1 hs2 ho HOM HSO⊢;go_upto_region 8 with(go_at_call 61;refine(xD g T x _ HTR.out HX.out).mono ?_;rintro e w2 ⟨rfl,k2⟩);have k3:=kr.trans k2;have ho2:=ho.kp k2;clear kr ho hck k2;obtain⟨fb,hfb⟩:∃fb,fb=freeC T ⟨ys,st,la⟩ x:=⟨_,rfl⟩;have HFB:=hid hfb;clear hfb;go_cut [11] (fun v wx=>v=.bool fb∧wx=w2)
   case first=>
    have hf0:fb=(decide (0≤st)&&(decide (st=(m:Int) - 1)||(decide (la≠0)&&decide (la<T.cls x)))):=by rw[HFB.out];unfold freeC;dsimp only;rw[HOM.out]
    have HF0:=hid hf0;clear hf0;by_cases h0:0≤st
    ·by_cases h1:st=(m:Int) - 1
     ·have q1:(st==(m:Int) - 1)=true:=by simpa using h1
      have HV:Hid (fb=true):=by show _=_;rw[HF0.out,decide_eq_true h0,decide_eq_true h1];rfl
      clear h1;go_wp2_with fail;go_meet;exact⟨by rw[HV.out],rfl⟩
     ·have q1:(st==(m:Int) - 1)=false:=by simpa using h1
      by_cases h2:la=0
      ·have q2:(la != 0)=false:=by simpa using h2
       have HV:Hid (fb=false):=by show _=_;rw[HF0.out];simp[h1,h2]
       clear h1 h2;go_wp2_with fail;go_meet;exact⟨by rw[HV.out],rfl⟩
      ·have q2:(la != 0)=true:=by simpa using h2
       have HV:Hid (fb=decide (la<T.cls x)):=by show _=_;rw[HF0.out];simp[h0,h1,h2]
       clear h1 h2;go_wp2_with fail;go_meet;exact⟨by rw[HV.out],rfl⟩
    ·have HV:Hid (fb=false):=by show _=_;rw[HF0.out];simp[h0]
     have q0:=dF h0;go_wp2_with fail;go_meet;exact⟨by rw[HV.out],rfl⟩
   case rest=>
    obtain⟨rfl,hwx⟩:=hcut;subst wc;have hz2:=k3.size;have HT2:=hid (HT.out.kp k3);go_upto_if 41 with fail;go_cut [] (fun wx=>Kp w wx∧Own wx w.heap.size 21 1 A1 m cc (R32 ys)∧Hid (fb=false∨pairC T (gN ys st.toNat) x=none))
    case first=>
     cases fb
     ·go_wp2_with fail
      go_meet;refine⟨k3,ho2,?_⟩;first|exact .inl rfl|exact .inl trivial
     ·have hst0:0≤st:=by
       have h:=HFB.out;unfold freeC at h;dsimp only at h;by_cases h0:0≤st
       ·exact h0
       ·rw[decide_eq_false h0]at h;cases h
      obtain⟨j,rfl⟩:=Int.eq_ofNat_of_zero_le hst0;have hjm:j<m:=by omega
      obtain⟨gr,rfl,hgr1,hgr2,hgc,hgf,hgs⟩:=ho2.store hjm;have hgc':w2.cell? ⟨gr,j,none⟩=some (.int .i32 (gN ys j)):=by
       rw[hgc,R32_get];unfold gN;rw[List.getElem?_eq_getElem (by rw[HOM.out];exact hjm)];rfl
      have hy32:r32 (gN ys j):=HSO.out.get;have HCP:=hid (cpair_any g T (gN ys j) x w2 HT2.out hy32 HX.out);clear hgc;rcases hpc:pairC T (gN ys j) x with _|cv
      ·have HPC:=hid hpc
       rw[hpc]at HCP;clear hpc;go_wp2_with fail;refine HCP.out.mono ?_;rintro e w3 ⟨rfl,kc⟩;simp only[Option.isSome_none,Option.getD_none];go_wp2_with fail;go_meet;refine⟨k3.trans kc,ho2.kp kc,?_⟩;have h:=HPC.out;rw[Int.toNat_natCast];first|exact .inr h|exact h
      ·have HSX:Hid (runC T (l.take (k+1))=⟨ys.set j cv,(j:Int),la⟩):=by
        show _=_;rw[HSN.out,stepC_join HFB.out.symm (c:=cv) (by rw[Int.toNat_natCast];exact hpc),Int.toNat_natCast]
       rw[hpc]at HCP;clear hpc hgs hgf;go_wp2_with fail;refine HCP.out.mono ?_;rintro e w3 ⟨rfl,kc⟩;simp only[Option.isSome_some,Option.getD_some];have ho3:=ho2.kp kc;obtain⟨gr2,e2,hg1,hg2,hg3,hg4,hg5⟩:=ho3.store hjm;obtain rfl:gr=gr2:=by injection e2 with e2;injection e2
       have hgi:w3.cell? ⟨gr,j,none⟩=some (.int .i32 (gN ys j)):=zE kc hgc';have HG5:=hid hg5;have k5:=k3.trans kc;clear hg5 hg3 hgc' e2;go_wp2_with fail;have hown5:Own (w3.setCell ⟨gr,j,none⟩ (.int .i32 cv)) w.heap.size 21 1 (some ⟨gr,0,none⟩) m cc (R32 (ys.set j cv)):=by rw[←R32_set];exact HG5.out _
       go_roundw
       case rel=>exact⟨k+1,m,cc,some ⟨gr,0,none⟩,⟨ys.set j cv,(j:Int),la⟩,by go_num,rfl,rfl,rfl,by omega,by omega,by dsimp only;omega,by dsimp only;omega,k5.setCell (p:=⟨gr,j,none⟩) hgr1 _,hown5,HSX.out⟩
       case measure=>simp[intOf];omega
    case rest=>
     obtain⟨k4,ho4,hap⟩:=hcut;have hsx:xO T ⟨ys,st,la⟩ x=⟨ys++[x],if T.cls x=0 then(m:Int)else st,T.cls x⟩:=by
      have h:=stepC_app (T:=T) (s:=⟨ys,st,la⟩) (r:=x) (by
       rcases hap.out with h|h
       ·exact .inl (by rw[←HFB.out];exact h)
       ·exact .inr h)
      dsimp only at h;rw[HOM.out]at h;exact h
     have HSX:Hid (runC T (l.take (k+1))=⟨ys++[x],if T.cls x=0 then(m:Int)else st,T.cls x⟩):=by show _=_;rw[HSN.out];exact hsx
     obtain⟨w4,hw4⟩:∃w4,w4=wc:=⟨_,rfl⟩;subst hw4;have hz4:=k4.size;clear k3 ho2 hap hsx;by_cases hc0:T.cls x=0
     ·have hcq:(T.cls x==0)=true:=by simpa using hc0
      have HSY:Hid (runC T (l.take (k+1))=⟨ys++[x],(m:Int),T.cls x⟩):=by show _=_;rw[HSX.out,if_pos hc0]
      clear hc0 HSX;go_wp2_with (at_builtin;refine zA _ rfl _ _ _ rfl w.heap.size 21 _ 1 4 Tryz.underlying41 yF rfl (by omega) A1 m cc (R32 ys) rfl (ho4.alloc _) Any _ 1 1 [.int .i32 x] rfl (Sl.new_ w4 #[.int .i32 x] _ 1 1 _ rfl trivial rfl (by omega)) (by simp[Value.oneCell']) (by simp only[maxLen];omega) (by omega) (by simp;omega) ?_;intro A4 c4 w5 hown4 hg4 hat4);have hown5:Own w5 w.heap.size 21 1 A4 (m+1) c4 (R32 (ys++[x])):=by rw[←zM];exact hown4
      have k5:=Kp.grown (k4.alloc (.cells #[.int .i32 x] 21)) hg4 (fun j e=>(ho4.lt j e).1);go_roundw
      case rel=>exact⟨k+1,m+1,c4,A4,⟨ys++[x],(m:Int),T.cls x⟩,by go_num,rfl,rfl,rfl,by omega,by omega,by dsimp only;omega,by dsimp only;omega,k5,hown5,HSY.out⟩
      case measure=>simp[intOf];omega
     ·have hcq:(T.cls x==0)=false:=by simpa using hc0
      have HSY:Hid (runC T (l.take (k+1))=⟨ys++[x],st,T.cls x⟩):=by show _=_;rw[HSX.out,if_neg hc0]
      clear hc0 HSX;go_wp2_with (at_builtin;refine zA _ rfl _ _ _ rfl w.heap.size 21 _ 1 4 Tryz.underlying41 yF rfl (by omega) A1 m cc (R32 ys) rfl (ho4.alloc _) Any _ 1 1 [.int .i32 x] rfl (Sl.new_ w4 #[.int .i32 x] _ 1 1 _ rfl trivial rfl (by omega)) (by simp[Value.oneCell']) (by simp only[maxLen];omega) (by omega) (by simp;omega) ?_;intro A4 c4 w5 hown4 hg4 hat4);have hown5:Own w5 w.heap.size 21 1 A4 (m+1) c4 (R32 (ys++[x])):=by rw[←zM];exact hown4
      have k5:=Kp.grown (k4.alloc (.cells #[.int .i32 x] 21)) hg4 (fun j e=>(ho4.lt j e).1);go_roundw
      case rel=>exact⟨k+1,m+1,c4,A4,⟨ys++[x],st,T.cls x⟩,by go_num,rfl,rfl,rfl,by omega,by omega,hs1,by dsimp only;omega,k5,hown5,HSY.out⟩
      case measure=>simp[intOf];omega
  ·have HE:Hid (composeC T l=s.out):=by
    show _=_;have h:=hfo.out;rw[List.take_of_length_le (by rw[HL.out];omega)]at h;unfold composeC;rw[h]
   go_wp2_with fail;go_ret;rw[HE.out];exact⟨A1,m,cc,rfl,ho.sl,kr⟩
end Go.Proofs.YtociefdcccokjaaGreat

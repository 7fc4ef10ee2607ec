/-
  Lemmas for TopMacro. Conditions: each states its own.
-/
import Derived.Deep.RegionHeld3
import Derived.Test.YtociefdcccokjaaGreatG10
import Derived.Test.YtociefdcccokjaaGreatG16
set_option maxHeartbeats 6400000
set_option maxRecDepth 100000
namespace Go.Proofs.YtociefdcccokjaaGreat
open Go.RowKit Go.Lib
theorem shiftOf_any (F G:Nat→Prop)(A B:Option Addr)(n c m d:Nat)(was is:List Int)(f a b:Nat)(w:World)(hl:Ru w F A n c was)(hx:Ru w G B m d is)(h1:f≤a)(h2:f≤b)(h3:a≤n)(h4:b≤m)(hn:n≤1099511627776)(hm:m≤1099511627776):
 Calls Tryz.prog 174 #[.slice A n c,.slice B m d,.agg #[.int .i64 (f:Int),.int .i64 (a:Int),.int .i64 (b:Int)]] w fun e w'=>∃A1 c1 A2 c2,e=.returned (.agg #[.int .i64 (f:Int),.slice A1 (a - f) c1,.slice A2 (b - f) c2])∧
  Ru w' (From w.heap.size) A1 (a - f) c1 (cutM was f a)∧Ru w' (From w.heap.size) A2 (b - f) c2 (cutM is f b)∧Kp w w':=by
 have hcn:=hl.le;have hcm:=hx.le;have hcap:=hl.cap;have hcap2:=hx.cap;unfold maxLen at hcap hcap2;go_enter Tryz.func174,Tryz.ntmps174;go_upto_region 1 with fail;have b5:=Bx.new w #[.int .i64 (f:Int),.int .i64 (a:Int),.int .i64 (b:Int)] 284;have k1:=(Kp.refl w).alloc (.cells #[.int .i64 (f:Int),.int .i64 (a:Int),.int .i64 (b:Int)] 284);generalize hw1:(w.alloc (.cells #[.int .i64 (f:Int),.int .i64 (a:Int),.int .i64 (b:Int)] 284))=w1 at *;have hz1:w1.heap.size=w.heap.size+1:=by rw[←hw1];simp
 clear hw1;have b6:=Bx.new w1 #[.int .i64 0,.slice none 0 0,.slice none 0 0] 239;have k2:=k1.alloc (.cells #[.int .i64 0,.slice none 0 0,.slice none 0 0] 239);have b5':=b5.alloc (.cells #[.int .i64 0,.slice none 0 0,.slice none 0 0] 239);generalize hw2:(w1.alloc (.cells #[.int .i64 0,.slice none 0 0,.slice none 0 0] 239))=w2 at *;have hz2:w2.heap.size=w.heap.size+2:=by rw[←hw2];simp[hz1]
 rw[hz1]at b6;obtain⟨HZ1,HZ2⟩:=hid2 hz1 (show w.heap.size+2≤w2.heap.size by omega);have s1:=((hl.kp k2).take (k:=a) h3).drop (k:=f) h1;have s2:=((hx.kp k2).take (k:=b) h4).drop (k:=f) h2;have hac:a≤c:=by omega
 have hbd:b≤d:=by omega
 clear k1 b5 hz1 hw2 hz2 hl hx;have s1:Ru w2 Any (if c=f then A else A.map (·.add f)) (a - f) (c - f) (cutM was f a):=s1.any;have s2:Ru w2 Any (if d=f then B else B.map (·.add f)) (b - f) (d - f) (cutM is f b):=s2.any;obtain⟨p0,p1,p2,f0,f1,f2⟩:=b5'.three;generalize hL1:cutM was f a=L1 at *;generalize hL2:cutM is f b=L2 at *;go_region_held3 (fun w'=>w'.cell? ⟨w.heap.size,0,none⟩=some (.int .i64 (f:Int))∧w'.cell? ⟨w.heap.size,1,none⟩=some (.int .i64 (a:Int))∧w'.cell? ⟨w.heap.size,2,none⟩=some (.int .i64 (b:Int)))
  (first|(with_reducible exact⟨p0,p1,p2⟩)|(with_reducible exact⟨q0,q1,q2⟩)|(with_reducible exact⟨r0,r1,r2⟩)|go_keep)
  (first|(refine zJ _ (by rfl) _ _ _ (by rfl) (w.heap.size+2) 21 _ 1 4 Tryz.underlying41 yF rfl (by omega) none 0 0 [] (by rfl) (Own.nil _ _ _ _) Any _ _ _ (R32 L1) (by rfl) (by first|exact s1|exact Sl.drew s1|exact s1') (zQ _) (by simp only[maxLen];omega) (by omega) (by first|exact HZ2.out|exact z5) ?_;intro A4 c4 w4 hown4 hg4 hat4;have bb4:=Bx.grown (by first|exact Bx.drew b5'|exact b5'|exact b5x) hg4 (by simp[zB]);have bz4:=Bx.grown (by first|exact Bx.drew b6|exact b6|exact b6x) hg4 (by simp[zB]);have kk4:=Kp.grown (by first|exact Kp.drew k2|exact k2|exact k5) hg4 (by simp[zB]);have z4:w.heap.size+2≤w4.heap.size:=Nat.le_trans (by first|exact HZ2.out|exact z5) hg4.size;obtain⟨q0,q1,q2,g0,g1,g2⟩:=bb4.three;obtain⟨y0,y1,y2,x0,x1,x2⟩:=bz4.three;(first|(have o5:=Own.grown hown5 hg4 (by simp[zB]))|(have s2':=Sl.grown (Sl.drew s2) hg4 (by simp[zB]))))|(refine zJ _ (by rfl) _ _ _ (by rfl) (w.heap.size+2) 21 _ 1 4 Tryz.underlying41 yF rfl (by omega) none 0 0 [] (by rfl) (Own.nil _ _ _ _) Any _ _ _ (R32 L2) (by rfl) (by first|exact s2|exact Sl.drew s2|exact s2') (zQ _) (by simp only[maxLen];omega) (by omega) (by first|exact HZ2.out|exact z4) ?_;intro A5 c5 w5 hown5 hg5 hat5;have b5x:=Bx.grown (by first|exact Bx.drew b5'|exact b5'|exact bb4) hg5 (by simp[zB]);have b6x:=Bx.grown (by first|exact Bx.drew b6|exact b6|exact bz4) hg5 (by simp[zB]);have k5:=Kp.grown (by first|exact Kp.drew k2|exact k2|exact kk4) hg5 (by simp[zB]);have z5:w.heap.size+2≤w5.heap.size:=Nat.le_trans (by first|exact HZ2.out|exact z4) hg5.size;obtain⟨r0,r1,r2,g0,g1,g2⟩:=b5x.three;obtain⟨y0,y1,y2,x0,x1,x2⟩:=b6x.three;(first|(have o4:=Own.grown hown4 hg5 (by simp[zB]))|(have s1':=Sl.grown (Sl.drew s1) hg5 (by simp[zB])))))
 all_goals
  first
   |(have ho4:=o4;have ho5:=hown5;have hk:=k5)
   |(have ho4:=hown4;have ho5:=o5;have hk:=kk4)
  rw[List.nil_append,Nat.zero_add]at ho4 ho5;go_wp2_with fail
  all_goals
   refine bodyPost_ret (v:=.agg #[.int .i64 (f:Int),.slice A4 (a - f) c4,.slice A5 (b - f) c5]) (by simp[results,Tryz.results174,go_sem,y0,y1,y2]) rfl ?_;have hne:¬From (w.heap.size+2) (w.heap.size+1):=by unfold From;omega
   refine⟨A4,c4,A5,c5,rfl,?_,?_,?_⟩
   ·(try rw[hL1]);exact Sl.weak (((ho4.sl.setCell (p:=⟨w.heap.size+1,0,none⟩) hne _).setCell (p:=⟨w.heap.size+1,1,none⟩) hne _).setCell (p:=⟨w.heap.size+1,2,none⟩) hne _) (fun j _ h=>by unfold From at h⊢;omega)
   ·(try rw[hL2]);exact Sl.weak (((ho5.sl.setCell (p:=⟨w.heap.size+1,0,none⟩) hne _).setCell (p:=⟨w.heap.size+1,1,none⟩) hne _).setCell (p:=⟨w.heap.size+1,2,none⟩) hne _) (fun j _ h=>by unfold From at h⊢;omega)
   ·exact((hk.setCell (p:=⟨w.heap.size+1,0,none⟩) (Nat.le_succ _) _).setCell (p:=⟨w.heap.size+1,1,none⟩) (Nat.le_succ _) _).setCell (p:=⟨w.heap.size+1,2,none⟩) (Nat.le_succ _) _
def RetLine (o:Option (List Int))(w:World)(e:Ending)(w':World):Prop:=
 match o with
 |some l=>∃A n c,e=.returned (.tuple #[.slice A n c,.bool true])∧Ru w' (From w.heap.size) A n c l∧Kp w w'
 |none=>e=.returned (.tuple #[.slice none 0 0,.bool false])∧Kp w w'
theorem doM_neg {e:Ed}{l:List Int}(h:e.at_<0):doM e l=none:=by unfold doM;rw[if_neg];omega
theorem doM_far {e:Ed}{l:List Int}(h:(l.length:Int)<e.at_+e.old.length):doM e l=none:=by unfold doM;rw[if_neg];omega
theorem doM_no {a:Nat}{o nw l:List Int}(h:(l.drop a).take o.length≠o):doM ⟨a,o,nw⟩ l=none:=by unfold doM;rw[if_neg];rintro⟨_,_,h3⟩;exact h h3
theorem doM_yes {a:Nat}{o nw l:List Int}(h:a+o.length≤l.length)(h2:(l.drop a).take o.length=o):doM ⟨a,o,nw⟩ l=some (l.take a++nw++l.drop (a+o.length)):=by
 unfold doM;rw[if_pos]
 ·rfl
 ·exact⟨by simp,by simp;omega,h2⟩
theorem drop_getD (l:List Int)(a k:Nat):(l.drop a)[k]?.getD 0=l[a+k]?.getD 0:=by rw[List.getElem?_drop]
theorem take_ne {xs ys:List Int}{k:Nat}(hy:k<ys.length)(h:xs[k]?.getD 0≠ys[k]?.getD 0):xs.take ys.length≠ys:=by
 intro e;apply h;have h2:(xs.take ys.length)[k]? =xs[k]? :=List.getElem?_take_of_lt hy;rw[←h2,e]
theorem do_fail_neg (at_:Int)(A B C:Option Addr)(n c m d p q:Nat)(w:World)(hat:at_<0):
 Calls Tryz.prog 151 #[.agg #[.int .i64 at_,.slice A n c,.slice B m d],.slice C p q] w fun e w'=>e=.returned (.tuple #[.slice none 0 0,.bool false])∧Kp w w':=by
 go_enter Tryz.func151,Tryz.ntmps151;go_wp2;refine bodyPost_ret (v:=.tuple #[.slice none 0 0,.bool false]) (by simp[results,Tryz.results151,go_sem]) rfl ?_;exact⟨rfl,(Kp.refl _).alloc _⟩
theorem do_fail_end (at_ v:Int)(A B C:Option Addr)(n c m d p q:Nat)(w:World)(hat:¬at_<0)(hv:wrap64 (at_+n)=v)(hf:v<0∨(p:Int)<v):
 Calls Tryz.prog 151 #[.agg #[.int .i64 at_,.slice A n c,.slice B m d],.slice C p q] w fun e w'=>e=.returned (.tuple #[.slice none 0 0,.bool false])∧Kp w w':=by
 by_cases h0:v<0
 ·clear hf
  go_enter Tryz.func151,Tryz.ntmps151;go_wp2;refine bodyPost_ret (v:=.tuple #[.slice none 0 0,.bool false]) (by simp[results,Tryz.results151,go_sem]) rfl ?_;exact⟨rfl,(Kp.refl _).alloc _⟩
 ·have h1:(p:Int)<v:=by omega
  clear hf;go_enter Tryz.func151,Tryz.ntmps151;go_wp2;refine bodyPost_ret (v:=.tuple #[.slice none 0 0,.bool false]) (by simp[results,Tryz.results151,go_sem]) rfl ?_;exact⟨rfl,(Kp.refl _).alloc _⟩
theorem do_fit (a:Nat)(A B C:Option Addr)(n c m d p q:Nat)(xs ys l:List Int)(w:World)(hx:Ru w Any A n c xs)(hy:Ru w Any B m d ys)(hl:Ru w Any C p q l)(hn:n≤1000000000)(hm:m≤1000000000)(hp:p≤1000000000)(hfit:a+n≤p):
 Calls Tryz.prog 151 #[.agg #[.int .i64 (a:Int),.slice A n c,.slice B m d],.slice C p q] w (RetLine (doM ⟨a,xs,ys⟩ l) w):=by
 have hxl:=hx.len;have hll:=hl.len;have hcx:=hx.cap;have hlx:=hx.le;have hcl:=hl.cap;have hlel:=hl.le;have hcy:=hy.cap;have hly:=hy.le;unfold maxLen at hcx hcl hcy;obtain⟨HX,HL⟩:=hid2 hxl hll;clear hxl hll;go_enter Tryz.func151,Tryz.ntmps151;go_upto_region 1 with fail;have ka:=(Kp.refl w).alloc (.cells #[.int .i64 (a:Int),.slice A n c,.slice B m d] 239);have b1:=Bx.new w #[.int .i64 (a:Int),.slice A n c,.slice B m d] 239;have hx1:=hx.kp ka;have hy1:=hy.kp ka;have hl1:=hl.kp ka;clear hx hy hl;generalize(w.alloc (.cells #[.int .i64 (a:Int),.slice A n c,.slice B m d] 239))=w1 at *;obtain⟨b0,b1',b2,_,_,_⟩:=b1.three;have hwr:wrap64 ((a:Int)+n)=((a+n:Nat):Int):=by rw[IntWalk.wrap64_in _ (by omega)];omega
 have hgt:¬(p:Int)<((a+n:Nat):Int):=by omega
 obtain⟨en,hen⟩:∃en,en=a+n:=⟨_,rfl⟩;rw[←hen]at hwr hgt;have HEN:=hid hen;clear hen;go_wp2_with fail;go_loopw [32] (fun i wr=>∃k:Nat,k≤n∧i=.int .i64 k∧wr=w1∧Hid ((l.drop a).take k=xs.take k)) (fun i _=>n - (intOf i).toNat)
 case atStart=>exact⟨0,Nat.zero_le _,rfl,rfl,rfl⟩
 case round=>
  obtain⟨k,hk,rfl,rfl,htk⟩:=hrel;by_cases hlt:k<n
  ·obtain⟨ad,rfl,hc1⟩:=hx1.get hlt
   obtain⟨bd,rfl,hc2⟩:=hl1.get (k:=a+k) (by omega);have hak:(a:Int)+k=((a+k:Nat):Int):=by omega
   have hak2:a+k<p:=by omega
   by_cases hxy:(l.drop a)[k]?.getD 0=xs[k]?.getD 0
   ·have HT:Hid ((l.drop a).take (k+1)=xs.take (k+1)):=take_eq_of (by rw[List.length_drop,HL.out];omega) (by rw[HX.out];exact hlt) htk.out hxy
    rw[drop_getD]at hxy;generalize l[a+k]?.getD 0=u at *;generalize xs[k]?.getD 0=v at *;subst hxy;generalize a+k=ak at *;go_wp2;exact⟨⟨k+1,by omega,by go_num,trivial,HT⟩,by simp[intOf];omega⟩
   ·have hB:((l[a+k]?.getD 0) != (xs[k]?.getD 0))=true:=by rw[bne_iff_ne,←drop_getD];exact hxy
    have HN:Hid (doM ⟨a,xs,ys⟩ l=none):=doM_no (take_ne (by rw[HX.out];exact hlt) hxy);rw[drop_getD]at hxy;generalize l[a+k]?.getD 0=u at *;generalize xs[k]?.getD 0=v at *;generalize a+k=ak at *;go_wp2;refine bodyPost_ret (v:=.tuple #[.slice none 0 0,.bool false]) (by simp[results,Tryz.results151,go_sem]) rfl ?_;rw[HN.out];exact⟨rfl,ka⟩
  ·have HY:Hid (doM ⟨a,xs,ys⟩ l=some (l.take a++ys++l.drop (a+n))):=by
    show _=_;have hkn:k=n:=by omega
    subst hkn;have h1:=htk.out;rw[←HX.out,List.take_of_length_le (Nat.le_refl xs.length)]at h1;have:=doM_yes (nw:=ys) (by rw[HX.out,HL.out];exact hfit) h1;rw[HX.out]at this;exact this
   have hta:=hl1.take (k:=a) (by omega);have htd:Ru wr (To wr.heap.size) (if q=a+n then C else C.map (·.add (a+n))) (p - (a+n)) (q - (a+n)) (l.drop (a+n)):=Sl.weak (hl1.drop (k:=a+n) hfit) fun k hk _=>hk
   rw[←HEN.out]at htd;have hal:a≤p:=by omega
   have hel:en≤p:=by have:=HEN.out;omega
   have hkd:Hid (k=k):=rfl;clear hl1 htk hk;go_upto_region 11 with(at_builtin;refine zA _ rfl _ _ _ rfl wr.heap.size 21 _ 1 4 Tryz.underlying41 yF rfl (by omega) none 0 0 [] rfl (Own.nil _ _ _ _) Any C a q (R32 (l.take a)) rfl hta (zQ _) (by simp only[maxLen];omega) (by omega) (by omega) ?_;intro A3 c3 w3 hown hg3 hat3);rw[List.nil_append,Nat.zero_add]at hown;have k3:=ka.grown hg3 (by simp[zB]);have b3:=b1.grown hg3 (by simp[zB]);have hy3:=Sl.grown hy1 hg3 (by simp[zB]);have hd3:=Sl.grown htd hg3 (by simp[zB]);have hz3:=hg3.size;have hzk:=ka.size;clear hy1 htd hta hx1 b1 ka hg3 hat3 b0 b1' b2 hwr;generalize wr.heap.size=bs at *;obtain⟨b0,b1,b2,_,_,_⟩:=b3.three;go_upto_region 12 with(at_builtin;refine zA _ rfl _ _ _ rfl bs 21 _ 1 4 Tryz.underlying41 yF rfl (by omega) A3 a c3 (R32 (l.take a)) rfl hown Any B m d (R32 ys) rfl hy3 (zQ _) (by simp only[maxLen];omega) (by omega) (by omega) ?_;intro A4 c4 w4 hown4 hg4 hat4);have hrow:∀g,zB A3=some g→bs≤g:=fun g h=>(hown.lt g h).1
   have hbl:=b3.lt;have k4:=k3.grown hg4 (fun g h=>by have:=hrow g h;omega);have hd4:Ru w4 Any (if q=en then C else C.map (·.add en)) (p - en) (q - en) (l.drop en):=by
    have h1:Sl w3 (To bs) 1 (if q=en then C else C.map (·.add en)) (p - en) (q - en) (R32 (l.drop en)):=hd3;exact(Sl.grown h1 hg4 fun g h hF=>by have:=hrow g h;unfold To at hF;omega).any
   have hz4:bs≤w4.heap.size:=Nat.le_trans hz3 hg4.size;have hen3:(a:Int)+n=(en:Int):=by have:=HEN.out;omega
   clear hown hg4 hat4 hrow hd3 hy3 b3 b0 b1 b2 hz3 k3;have hcs:q=en∨q≠en:=by omega
   rcases hcs with hc|hc
   rw[if_pos hc]at hd4;have e0:q - en=0:=by omega
   rw[e0]at hd4
   rotate_left
   rw[if_neg hc]at hd4
   all_goals
    go_wp2_with (at_builtin;refine zA _ rfl _ _ _ rfl bs 21 _ 1 4 Tryz.underlying41 yF rfl (by omega) A4 (a+m) c4 (R32 (l.take a)++R32 ys) rfl hown4 Any _ _ _ (R32 (l.drop en)) rfl hd4 (zQ _) (by simp only[maxLen];omega) (by omega) (by omega) ?_;intro A5 c5 w5 hown5 hg5 hat5);have hrow:∀g,zB A4=some g→bs≤g:=fun g h=>(hown4.lt g h).1
    refine bodyPost_ret (v:=.tuple #[.slice A5 (a+m+(p - en)) c5,.bool true]) (by simp[results,Tryz.results151,go_sem]) rfl ?_;rw[HY.out,←HEN.out];have o5:=hown5.sl;rw[zM,zM]at o5;have o5:Ru w5 (From w.heap.size) A5 (a+m+(p - en)) c5 (l.take a++ys++l.drop en):=Sl.weak o5 fun k _ h=>by unfold From at h⊢;omega
    exact⟨_,_,_,rfl,o5,k4.grown hg5 (fun g h=>by have:=hrow g h;omega)⟩
theorem do_any (ed:Ed)(A B C:Option Addr)(n c m d p q:Nat)(l:List Int)(w:World)(hx:Ru w Any A n c ed.old)(hy:Ru w Any B m d ed.new)(hl:Ru w Any C p q l)(hn:n≤1000000000)(hm:m≤1000000000)(hp:p≤1000000000)
 (hat:ed.at_≤9223372036854775807):
 Calls Tryz.prog 151 #[.agg #[.int .i64 ed.at_,.slice A n c,.slice B m d],.slice C p q] w (RetLine (doM ed l) w):=by
 obtain⟨at_,xs,ys⟩:=ed;dsimp only at hx hy hat⊢;by_cases h0:at_<0
 ·have h1:=do_fail_neg at_ A B C n c m d p q w h0
  rw[doM_neg (show(Ed.mk at_ xs ys).at_<0 from h0)];exact h1
 ·by_cases hf:at_+n≤p
  ·obtain⟨a,rfl⟩:∃a:Nat,at_=a:=⟨at_.toNat,by omega⟩
   exact do_fit a A B C n c m d p q xs ys l w hx hy hl hn hm hp (by omega)
  ·have h2:doM ⟨at_,xs,ys⟩ l=none:=doM_far (by show(l.length:Int)<at_+xs.length;rw[hx.len,hl.len];omega)
   rw[h2];by_cases ho:at_+n≤9223372036854775807
   ·exact do_fail_end at_ (at_+n) A B C n c m d p q w h0 (IntWalk.wrap64_in _ (by omega)) (.inr (by omega))
   ·exact do_fail_end at_ (at_+n - 18446744073709551616) A B C n c m d p q w h0 (by rw[←IntWalk.i64_left,IntKind.wrap_i64];omega) (.inl (by omega))
theorem ahead_any (F:Nat→Prop)(A:Option Addr)(n c:Nat)(st:List Int)(len x:Int)(w:World)(hl:Nu w F A n c st)(hn:n≤1099511627776):
 Calls Tryz.prog 196 #[.agg #[.slice A n c,.int .i64 len],.int .i64 x] w fun e w'=>e=.returned (.int .i64 (bsI st x:Int))∧Kp w w':=by
 have HL:=hid hl;clear hl;go_enter Tryz.func196,Tryz.ntmps196;go_wp2_with fail;refine(bs_any F A n c st x _ (HL.out.alloc _) hn).mono ?_;rintro e w1 ⟨rfl,hw⟩;have k1:Kp w w1:=by rw[hw];exact(Kp.refl w).alloc _
 clear hw;go_wp2_with fail;go_ret;exact⟨rfl,k1⟩
theorem start_any (F:Nat→Prop)(A:Option Addr)(n c:Nat)(st:List Int)(len i:Int)(w:World)(hl:Nu w F A n c st):
 Calls Tryz.prog 195 #[.agg #[.slice A n c,.int .i64 len],.int .i64 i] w fun e w'=>e=.returned (.int .i64 (startI st len i))∧Kp w w':=by
 obtain⟨v,hv⟩:∃v,v=startI st len i:=⟨_,rfl⟩;rw[←hv];unfold startI at hv;rw[hl.len]at hv;obtain⟨HV,HL⟩:=hid2 hv hl;have hle:=hl.le;have hcap:=hl.cap;unfold maxLen at hcap;clear hv hl;by_cases c1:i<0
 ·have HN:Hid (v=len):=by show _=_;rw[HV.out,if_pos (.inl c1)]
  have q1:=dT c1;clear HV;go_enter Tryz.func195,Tryz.ntmps195;go_wp2_with fail;go_ret;exact⟨zC HN.out.symm,(Kp.refl w).alloc _⟩
 ·have q1:=dF c1
  by_cases c2:i≥(n:Int)
  ·have HN:Hid (v=len):=by show _=_;rw[HV.out,if_pos (.inr c2)]
   have q2:=dT c2;clear HV;go_enter Tryz.func195,Tryz.ntmps195;go_wp2_with fail;go_ret;exact⟨zC HN.out.symm,(Kp.refl w).alloc _⟩
  ·have q2:=dF c2
   obtain⟨k,rfl⟩:∃k:Nat,i=k:=⟨i.toNat,by omega⟩;have HN:Hid (v=gN st k):=by show _=_;rw[HV.out,if_neg (by omega)];rfl
   have hlt:k<n:=by omega
   obtain⟨ad,rfl,hck⟩:=(show Nu (w.alloc (.cells #[.slice A n c,.int .i64 len] 166)) F A n c st from HL.out.alloc _).get hlt;clear HV;generalize gN st k=x at *;go_enter Tryz.func195,Tryz.ntmps195;go_wp2_with fail;go_ret;exact⟨zC HN.out.symm,(Kp.refl w).alloc _⟩
theorem floor_any (F:Nat→Prop)(A:Option Addr)(n c:Nat)(st:List Int)(len x:Int)(w:World)(hl:Nu w F A n c st)(hn:n≤1099511627776):
 Calls Tryz.prog 109 #[.agg #[.slice A n c,.int .i64 len],.int .i64 x] w fun e w'=>e=.returned (.int .i64 (xF st len x))∧Kp w w':=by
 obtain⟨v,hv⟩:∃v,v=xF st len x:=⟨_,rfl⟩;rw[←hv];unfold xF at hv;obtain⟨HV,HL⟩:=hid2 hv hl;have hle:=hl.le;have hcap:=hl.cap;unfold maxLen at hcap;have hb:=bsI_le st x;rw[hl.len]at hb;clear hv hl;go_enter Tryz.func109,Tryz.ntmps109;go_upto_region 1 with fail;have b2:=Bx.new w #[.slice A n c,.int .i64 len] 166;have k1:=(Kp.refl w).alloc (.cells #[.slice A n c,.int .i64 len] 166);have hl1:=HL.out.alloc (.cells #[.slice A n c,.int .i64 len] 166);generalize(w.alloc (.cells #[.slice A n c,.int .i64 len] 166))=w1 at *;obtain⟨p0,p1,f0,f1⟩:=b2.two;have HL1:Hid (Nu w1 F A n c st):=hl1;clear hl1;go_wp2_with fail;refine(bs_any F A n c st x _ (by first|exact HL1.out|exact Sl.drew HL1.out) hn).mono ?_;rintro e w2 ⟨rfl,hw⟩;have k2:Kp w1 w2:=by rw[hw];first|exact Kp.refl _|exact(Kp.refl _).drew
 have b22:=b2.kp k2;have k12:=k1.trans k2;have HL2:=hid (HL1.out.kp k2);clear hw b2 k1 k2 p0 p1 f0 f1 HL1;obtain⟨p0,p1,f0,f1⟩:=b22.two;generalize bsI st x=k at *;generalize bsOk st x=ok at *;by_cases c1:x≥len
 ·have HN:Hid (v=len):=by show _=_;rw[HV.out,if_pos c1]
  have q1:=dT c1;clear HV;go_wp2_with fail;go_ret;exact⟨zC HN.out.symm,k12⟩
 ·have q1:=dF c1
  cases ok
  ·by_cases c2:((k:Int)==0)=true
   ·have HN:Hid (v=0):=by
     have h0:k=0:=by simp at c2;exact c2
     show _=_;rw[HV.out,if_neg c1,if_neg (by simp),if_pos h0]
    clear HV;go_wp2_with fail;go_ret;exact⟨zC HN.out.symm,k12⟩
   ·have c2':((k:Int)==0)=false:=by simpa using c2
    obtain⟨j,hj⟩:∃j,k=j+1:=⟨k - 1,by simp at c2;omega⟩;have hj1:(k:Int) - 1=(j:Int):=by omega
    have HN:Hid (v=gN st j):=by
     show _=_;rw[HV.out,if_neg c1,if_neg (by simp),if_neg (by omega),hj];rfl
    have hlt:j<n:=by omega
    obtain⟨ad,rfl,hck⟩:=HL2.out.get hlt;clear HV c2 hj;generalize gN st j=y at *;go_wp2_with fail;go_ret;exact⟨zC HN.out.symm,k12⟩
  ·have HN:Hid (v=x):=by
    show _=_;rw[HV.out,if_neg c1,if_pos rfl]
   clear HV;go_wp2_with fail;go_ret;exact⟨zC HN.out.symm,k12⟩
theorem ceil_any (F:Nat→Prop)(A:Option Addr)(n c:Nat)(st:List Int)(len x:Int)(w:World)(hl:Nu w F A n c st)(hn:n≤1099511627776):
 Calls Tryz.prog 172 #[.agg #[.slice A n c,.int .i64 len],.int .i64 x] w fun e w'=>e=.returned (.int .i64 (ceilI st len x))∧Kp w w':=by
 obtain⟨v,hv⟩:∃v,v=ceilI st len x:=⟨_,rfl⟩;rw[←hv];unfold ceilI at hv;obtain⟨HV,HL⟩:=hid2 hv hl;clear hv hl;by_cases c1:x≤0
 ·have HN:Hid (v=0):=by show _=_;rw[HV.out,if_pos c1]
  have q1:=dT c1;clear HV;go_enter Tryz.func172,Tryz.ntmps172;go_wp2_with fail;go_ret;exact⟨zC HN.out.symm,(Kp.refl w).alloc _⟩
 ·have q1:=dF c1
  have HN:Hid (v=startI st len (bsI st x)):=by show _=_;rw[HV.out,if_neg c1]
  clear HV;go_enter Tryz.func172,Tryz.ntmps172;go_upto_region 3 with fail;have b2:=Bx.new w #[.slice A n c,.int .i64 len] 166;have k1:=(Kp.refl w).alloc (.cells #[.slice A n c,.int .i64 len] 166);have hl1:=HL.out.alloc (.cells #[.slice A n c,.int .i64 len] 166);generalize(w.alloc (.cells #[.slice A n c,.int .i64 len] 166))=w1 at *;obtain⟨p0,p1,f0,f1⟩:=b2.two;have HL1:Hid (Nu w1 F A n c st):=hl1;clear hl1;have z0:=cell_regrown p0;have z1:=cell_regrown p1;refine wp_region_quiet_below (by kernel_rfl) (by kernel_rfl) ?_;repeat(first|go_big_quiet_step (first|(go_at_call 196;exact Calls.regrown_of (ahead_any F A n c st len x _ (HL1.out.kp (below_regrown w1 _ _)) hn))|(go_at_call 195;exact Calls.regrown_of (start_any F A n c st len _ _ (HL1.out.kp (below_regrown w1 _ _))))))
  refine wpQuiet_nil ?_;intro _ hw';obtain⟨⟨dq,osq⟩,hw''⟩:=hw';subst hw'';have k2:=k1.trans (below_regrown w1 dq osq);go_wp2_with fail;go_ret;exact⟨zC HN.out.symm,k2⟩
theorem indexOn_any (F:Nat→Prop)(A:Option Addr)(n c:Nat)(st:List Int)(len x y:Int)(w:World)(hl:Nu w F A n c st)(hn:n≤1099511627776):
 Calls Tryz.prog 181 #[.agg #[.slice A n c,.int .i64 len],.int .i64 x,.int .i64 y] w fun e w'=>e=.returned (.int .i64 (onI st len x y))∧Kp w w':=by
 obtain⟨v,hv⟩:∃v,v=onI st len x y:=⟨_,rfl⟩;rw[←hv];unfold onI at hv;have hb:=bsI_le st (xF st len x);rw[hl.len]at hb;rw[hl.len]at hv;have HL:=hid hl;obtain⟨k,hk⟩:∃k,k=bsI st (xF st len x):=⟨_,rfl⟩;rw[←hk]at hv hb;have HK:=hid hk;obtain⟨d,hd⟩:∃d,d=min (max y (-(k:Int))) ((n:Int) - k):=⟨_,rfl⟩;rw[←hd]at hv;have hd1: -(k:Int)≤d:=by omega
 have hd2:d≤(n:Int) - k:=by omega
 have HD:=hid hd;have HN:Hid (v=startI st len (k+d)):=hv;clear hv hl hk hd;go_enter Tryz.func181,Tryz.ntmps181;go_upto_region 1 with fail;have b2:=Bx.new w #[.slice A n c,.int .i64 len] 166;have k1:=(Kp.refl w).alloc (.cells #[.slice A n c,.int .i64 len] 166);have hl1:=HL.out.alloc (.cells #[.slice A n c,.int .i64 len] 166);generalize(w.alloc (.cells #[.slice A n c,.int .i64 len] 166))=w1 at *;obtain⟨p0,p1,f0,f1⟩:=b2.two;have HL1:Hid (Nu w1 F A n c st):=hl1;clear hl1;have z0:=cell_regrown p0;have z1:=cell_regrown p1;refine wp_region_quiet_below (by kernel_rfl) (by kernel_rfl) ?_;repeat(first|go_big_quiet_step (first|(go_at_call 109;exact Calls.regrown_of (floor_any F A n c st len x _ (HL1.out.kp (below_regrown w1 _ _)) hn))|(go_at_call 196;exact Calls.regrown_of (ahead_any F A n c st len _ _ (HL1.out.kp (below_regrown w1 _ _)) hn))))
 refine wpQuiet_nil ?_;intro w2 hw';obtain⟨⟨dq,osq⟩,hw''⟩:=hw';have kk:Kp w1 w2:=by rw[hw''];exact below_regrown w1 dq osq
 clear hw'';rw[←HK.out];have k2:=k1.trans kk;have b3:=b2.kp kk;have HL2:=hid (HL1.out.kp kk);clear b2 z0 z1 p0 p1 f0 f1 k1 kk;obtain⟨p0,p1,f0,f1⟩:=b3.two;go_upto_region 3 with fail;rw[show(if(n:Int) - (k:Int)<(if y< -(k:Int)then -(k:Int)else y)then(n:Int) - (k:Int)else(if y< -(k:Int)then -(k:Int)else y))=d from by rw[HD.out];(repeat' split)<;>omega];generalize(if y< -(k:Int)then -(k:Int)else y)=dead;obtain⟨s,hs⟩:∃s,s=(k:Int)+d:=⟨_,rfl⟩;have hs1: -9223372036854775808≤(k:Int)+d:=by omega
 have hs2:(k:Int)+d≤9223372036854775807:=by omega
 have e1:(k:Int)+d=s:=hs.symm;have HS:=hid hs;clear hs;go_wp2_with fail;refine(start_any F A n c st len s _ HL2.out).mono ?_;rintro e w3 ⟨rfl,k3⟩;go_wp2_with fail;go_ret;exact⟨zC (by rw[HN.out,←HS.out]),k2.trans k3⟩
def RetIx (xs:List Int)(m:Nat)(w:World)(e:Ending)(w':World):Prop:=∃A n c,e=.returned (.agg #[.slice A n c,.int .i64 (m:Int)])∧Nu w' (From w.heap.size) A n c xs∧Kp w w'
theorem indexOf_any (F:Nat→Prop)(g:Nat)(T:TM)(A:Option Addr)(n c:Nat)(l:List Int)(w:World)(h:TabAt w g T)(hl:Ru w F A n c l)(h32:R32ok l)(hn:n≤1099511627776):
 Calls Tryz.prog 64 #[.pointer (some ⟨g,0,none⟩),.slice A n c] w (RetIx (startsS T l).1 n w):=by
 have HS:=hid (fun(wx:World) (k:Kp w wx)=>starts_any F g T A n c l wx (h.kp k) (hl.kp k) h32 hn);have hle:=hl.le;have hcap:=hl.cap;unfold maxLen at hcap;clear h hl h32;go_enter Tryz.func64,Tryz.ntmps64;go_upto_region 1 with fail;have b4:=Bx.new w #[.slice none 0 0,.int .i64 0] 166;have k1:=(Kp.refl w).alloc (.cells #[.slice none 0 0,.int .i64 0] 166);generalize(w.alloc (.cells #[.slice none 0 0,.int .i64 0] 166))=w1 at *;go_wp2_with fail;refine(HS.out _ k1).mono ?_;rintro e w2 ⟨A2,n2,c2,rfl,h2,k2⟩;have b5:=b4.kp k2;have hlt:=b4.lt;have k3:=k1.trans k2;obtain⟨p0,p1,f0,f1⟩:=b5.two;go_wp2_with fail;refine bodyPost_ret (v:=.agg #[.slice A2 n2 c2,.int .i64 (n:Int)]) (by simp[results,Tryz.results64,go_sem,p0,p1]) rfl ?_;have hne:¬From w1.heap.size w.heap.size:=by unfold From;omega
 refine⟨A2,n2,c2,rfl,?_,(k3.setCell (p:=⟨w.heap.size,0,none⟩) le_ _).setCell (p:=⟨w.heap.size,1,none⟩) le_ _⟩;exact Sl.weak ((Sl.setCell h2 (p:=⟨w.heap.size,0,none⟩) hne _).setCell (p:=⟨w.heap.size,1,none⟩) hne _) (fun j _ h=>by unfold From at h⊢;omega)
def Cx (w0 w:World)(Y:Nat)(A:Option Addr)(n c len m f a b:Nat)(ys:List Int):Prop:=
 ∃A1 n1 c1,Bx w w0.heap.size #[.slice A n c,.int .i64 (len:Int)] 166∧Bx w (w0.heap.size+1) #[.int .i64 (f:Int),.int .i64 (a:Int),.int .i64 (b:Int)] 284∧Bx w (w0.heap.size+2) #[.slice none 0 0,.int .i64 0] 166∧
  Bx w Y #[.slice A1 n1 c1,.int .i64 (m:Int)] 166∧Own w (w0.heap.size+3) 3 1 A1 n1 c1 (R64 ys)∧zB A1≠some Y∧w0.heap.size+3≤Y∧Kp w0 w
theorem Cx.kp {w0 w w':World}{Y:Nat}{A:Option Addr}{n c len m f a b:Nat}{ys:List Int}(h:Cx w0 w Y A n c len m f a b ys)(k:Kp w w'):Cx w0 w' Y A n c len m f a b ys:=by
 obtain⟨A1,n1,c1,d0,d1,d2,d3,d4,d5,d6,d7⟩:=h;exact⟨A1,n1,c1,d0.kp k,d1.kp k,d2.kp k,d3.kp k,d4.kp k,d5,d6,d7.trans k⟩
theorem Cx.lt {w0 w:World}{Y:Nat}{A:Option Addr}{n c len m f a b:Nat}{ys:List Int}(h:Cx w0 w Y A n c len m f a b ys):w0.heap.size+3≤Y∧Y<w.heap.size:=by
 obtain⟨A1,n1,c1,d0,d1,d2,d3,d4,d5,d6,d7⟩:=h;exact⟨d6,d3.lt⟩
theorem Cx.app {w0 w w':World}{Y n1 c1 n' c':Nat}{A A1 A':Option Addr}{n c len m f a b:Nat}{ys zs:List Int}(d0:Bx w w0.heap.size #[.slice A n c,.int .i64 (len:Int)] 166)(d1:Bx w (w0.heap.size+1) #[.int .i64 (f:Int),.int .i64 (a:Int),.int .i64 (b:Int)] 284)
 (d2:Bx w (w0.heap.size+2) #[.slice none 0 0,.int .i64 0] 166)(d3:Bx w Y #[.slice A1 n1 c1,.int .i64 (m:Int)] 166)(d4:Own w (w0.heap.size+3) 3 1 A1 n1 c1 (R64 ys))(d5:zB A1≠some Y)(d6:w0.heap.size+3≤Y)(d7:Kp w0 w)
 (ho:Own w' (w0.heap.size+3) 3 1 A' n' c' (R64 (ys++zs)))(hg:w.grownBy w' (zB A1))(hat:zB A'=zB A1∨zB A'=some w.heap.size):
 Cx w0 (w'.setCell ⟨Y,0,none⟩ (.slice A' n' c')) Y A n c len m f a b (ys++zs):=by
 have hlo:∀j,zB A1=some j→w0.heap.size+3≤j:=fun j h=>(d4.lt j h).1
 have hne:zB A'≠some Y:=by
  rcases hat with h|h
  ·rw[h];exact d5
  ·rw[h];intro e;have:=d3.lt;injection e with e;omega
 refine⟨A',n',c',?_,?_,?_,(d3.grown hg d5).set 0 _,ho.setCell (p:=⟨Y,0,none⟩) hne _,hne,d6,(d7.grown hg (fun j h=>by have:=hlo j h;omega)).setCell (p:=⟨Y,0,none⟩) (by show w0.heap.size≤Y;omega) _⟩
 ·exact(d0.grown hg (fun e=>by have:=hlo _ e;omega)).far (p:=⟨Y,0,none⟩) (by show w0.heap.size≠Y;omega) _
 ·exact(d1.grown hg (fun e=>by have:=hlo _ e;omega)).far (p:=⟨Y,0,none⟩) (by show w0.heap.size+1≠Y;omega) _
 ·exact(d2.grown hg (fun e=>by have:=hlo _ e;omega)).far (p:=⟨Y,0,none⟩) (by show w0.heap.size+2≠Y;omega) _
theorem skipX_yes {st:List Int}{sh at_:Int}{k o:Nat}(h1:o<st.length)(h2:gN st o+sh<at_):skipX st sh at_ (k+1) o=skipX st sh at_ k (o+1):=by
 conv=>lhs;unfold skipX
 rw[if_pos ⟨h1,h2⟩]
theorem skipX_no {st:List Int}{sh at_:Int}{o:Nat}(h:¬(o<st.length∧gN st o+sh<at_)):∀k,skipX st sh at_ k o=o
 |0=>rfl
 |k+1=>by unfold skipX;rw[if_neg h]
theorem loopX_end {T:TM}{st l:List Int}{sh is_:Int}{s:XSt}(h:¬s.at_<l.length):∀k,yB T st l sh is_ k s=s
 |0=>rfl
 |k+1=>by unfold yB;rw[if_neg h]
theorem loopX_meet {T:TM}{st l:List Int}{sh is_:Int}{s:XSt}{k:Nat}(h:s.at_<l.length)(h2:meetX st sh is_ s.at_ s.old=true):yB T st l sh is_ (k+1) s=⟨s.at_,oldX st sh is_ s.at_ s.old,s.y⟩:=by
 conv=>lhs;unfold yB
 rw[if_pos h,if_pos h2]
theorem loopX_on {T:TM}{st l:List Int}{sh is_:Int}{s:XSt}{k:Nat}(h:s.at_<l.length)(h2:meetX st sh is_ s.at_ s.old=false):yB T st l sh is_ (k+1) s=yB T st l sh is_ k ⟨zP T l s.at_,oldX st sh is_ s.at_ s.old,s.y++[s.at_]⟩:=by
 conv=>lhs;unfold yB
 rw[if_pos h,if_neg (by simp[h2])]
theorem map_snoc {st:List Int}{sh:Int}{j i:Nat}(h:j+i<st.length):((st.drop j).take (i+1)).map (·+sh)=((st.drop j).take i).map (·+sh)++[gN st (j+i)+sh]:=by
 rw[List.take_succ_eq_append_getElem (by rw[List.length_drop];omega),List.map_append];simp[gN,List.getElem?_eq_getElem h]
theorem change_any (F G:Nat→Prop)(g:Nat)(T:TM)(A B:Option Addr)(n c m d len:Nat)(st l:List Int)(f a b:Nat)(w:World)(h:TabAt w g T)(hl:Nu w F A n c st)(hx:Ru w G B m d l)(h32:R32ok l)
 (hn:n≤1099511627776)(hm:m≤1099511627776)(hst:∀k,k<n→0≤gN st k∧gN st k≤1099511627776)(ha:a≤1099511627776)(hb:b≤1099511627776):
 Calls Tryz.prog 187 #[.agg #[.slice A n c,.int .i64 (len:Int)],.pointer (some ⟨g,0,none⟩),.slice B m d,.agg #[.int .i64 (f:Int),.int .i64 (a:Int),.int .i64 (b:Int)]] w (RetIx (xV T st l ⟨f,a,b⟩) m w):=by
 obtain⟨HT,H32,HL,HX,HST,HLL,HXL⟩:=hid7 h h32 hl hx hst hl.len hx.len;have hle:=hl.le;have hcap:=hl.cap;have hxe:=hx.le;have hxc:=hx.cap;unfold maxLen at hcap hxc;have hbf:=bsI_le st f;have hba:=bsI_le st a;rw[hl.len]at hbf hba;clear h h32 hl hx hst;go_enter Tryz.func187,Tryz.ntmps187;go_upto_region 1 with fail;go_step3;have b0:=((Bx.new w #[.slice A n c,.int .i64 (len:Int)] 166).alloc (.cells #[.int .i64 (f:Int),.int .i64 (a:Int),.int .i64 (b:Int)] 284)).alloc (.cells #[.slice none 0 0,.int .i64 0] 166);have b1:=(Bx.new (w.alloc (.cells #[.slice A n c,.int .i64 (len:Int)] 166)) #[.int .i64 (f:Int),.int .i64 (a:Int),.int .i64 (b:Int)] 284).alloc (.cells #[.slice none 0 0,.int .i64 0] 166);have b2:=Bx.new ((w.alloc (.cells #[.slice A n c,.int .i64 (len:Int)] 166)).alloc (.cells #[.int .i64 (f:Int),.int .i64 (a:Int),.int .i64 (b:Int)] 284)) #[.slice none 0 0,.int .i64 0] 166;have k3:=(((Kp.refl w).alloc (.cells #[.slice A n c,.int .i64 (len:Int)] 166)).alloc (.cells #[.int .i64 (f:Int),.int .i64 (a:Int),.int .i64 (b:Int)] 284)).alloc (.cells #[.slice none 0 0,.int .i64 0] 166);rw[show(w.alloc (.cells #[.slice A n c,.int .i64 (len:Int)] 166)).heap.size=w.heap.size+1 by simp]at b1;rw[show((w.alloc (.cells #[.slice A n c,.int .i64 (len:Int)] 166)).alloc (.cells #[.int .i64 (f:Int),.int .i64 (a:Int),.int .i64 (b:Int)] 284)).heap.size=w.heap.size+2 by simp]at b2;generalize(((w.alloc (.cells #[.slice A n c,.int .i64 (len:Int)] 166)).alloc (.cells #[.int .i64 (f:Int),.int .i64 (a:Int),.int .i64 (b:Int)] 284)).alloc (.cells #[.slice none 0 0,.int .i64 0] 166))=w3 at *;obtain⟨p0,p1,_,_⟩:=b0.two;obtain⟨q0,q1,q2,_,_,_⟩:=b1.three;go_upto_region 1 with fail;go_wp2_with fail;refine(ahead_any F A n c st len f _ (by first|exact HL.out.kp k3|exact HL.out.kp k3.drew) hn).mono ?_;rintro e w4 ⟨rfl,k4⟩;have k4':Kp w3 w4:=k4;have bb0:=b0.kp k4';have bb1:=b1.kp k4';have bb2:=b2.kp k4';have k5:=k3.trans k4';clear b0 b1 b2 p0 p1 q0 q1 q2 k4 k4' k3;obtain⟨p0,p1,_,_⟩:=bb0.two;obtain⟨q0,q1,q2,_,_,_⟩:=bb1.three;obtain⟨k,hk⟩:∃k,k=kX st f:=⟨_,rfl⟩;have HK:=hid hk;have hkn:k≤n:=by rw[hk];unfold kX;omega
 clear hk;go_upto_region 3 with fail;rw[show(if((bsI st (f:Int):Nat):Int) - 1<0 then(0:Int)else((bsI st (f:Int):Nat):Int) - 1)=(k:Int)from by rw[HK.out];unfold kX;split<;>omega];obtain⟨at0,hat0⟩:∃at0:Nat,(at0:Int)=if k<n then gN st k else 0:=by
  by_cases hkk:k<n
  ·exact⟨(gN st k).toNat,by have:=(HST.out k hkk).1;rw[if_pos hkk];omega⟩
  ·exact⟨0,by rw[if_neg hkk];rfl⟩
 have HA0:=hid hat0;clear hat0;generalize(((bsI st (f:Int):Nat):Int) - 1)=dead1;generalize bsI st (f:Int)=dead2 at *;go_upto_if 27 with fail;go_cut [10] (fun v wx=>v=.int .i64 (at0:Int)∧Dr w4 wx)
 case first=>
  by_cases hkk:k<n
  ·have hv:=HA0.out
   rw[if_pos hkk]at hv;obtain⟨ad,rfl,hck⟩:=(HL.out.kp k5).get hkk;rw[←hv]at hck;clear hv HA0;go_wp2_with fail;go_meet;exact⟨rfl,by first|exact Dr.refl _|exact⟨_,rfl⟩⟩
  ·have hv:at0=0:=by have:=HA0.out;rw[if_neg hkk]at this;omega
   clear HA0;subst hv;go_wp2_with fail;go_meet;exact⟨rfl,by first|exact Dr.refl _|exact⟨_,rfl⟩⟩
 case rest=>
  obtain⟨rfl,hdr⟩:=hcut;have bb0:=bb0.kp hdr.kp;have bb1:=bb1.kp hdr.kp;have bb2:=bb2.kp hdr.kp;have k5:=k5.trans hdr.kp;clear p0 p1 q0 q1 q2 hdr;obtain⟨p0,p1,_,_⟩:=bb0.two;obtain⟨q0,q1,q2,_,_,_⟩:=bb1.three;go_upto_region 5 with fail;have hmin:¬((n:Int)<(k:Int)):=by omega
  have hta:=(HL.out.kp k5).take (k:=k) hkn;have hz5:w.heap.size+3≤wc.heap.size:=by have:=bb2.lt;omega
  have hmm:w.heap.size+1+1=w.heap.size+2:=rfl;go_upto_region 6 with(at_builtin;refine zA _ rfl _ _ _ rfl (w.heap.size+3) 3 _ 1 8 Tryz.underlying126 infoInt rfl (by omega) none 0 0 [] rfl (Own.nil _ _ _ _) F A k c (R64 (st.take k)) rfl hta (R64_one _) (by simp only[maxLen];omega) (by omega) hz5 ?_;intro A1 c1 w5 hown hg5 hat5);have hcx:Cx w (w5.alloc (.cells #[.slice A1 k c1,.int .i64 (m:Int)] 166)) w5.heap.size A n c len m f a b (st.take k):=by
   rw[List.nil_append,Nat.zero_add]at hown;refine⟨A1,k,c1,(bb0.grown hg5 (by simp[zB])).alloc _,(bb1.grown hg5 (by simp[zB])).alloc _,(bb2.grown hg5 (by simp[zB])).alloc _,Bx.new w5 _ _,hown.alloc _,?_,Nat.le_trans hz5 hg5.size,((k5.grown hg5 (by simp[zB])).alloc _)⟩;intro e;have:=(hown.lt _ e).2;omega
  have hz6:w5.heap.size<(w5.alloc (.cells #[.slice A1 k c1,.int .i64 (m:Int)] 166)).heap.size:=by simp
  generalize(w5.alloc (.cells #[.slice A1 k c1,.int .i64 (m:Int)] 166))=w6 at *;generalize w5.heap.size=Y at *;have HCX:=hid hcx;obtain⟨sh,hsh⟩:∃sh,sh=(b:Int) - (a:Int):=⟨_,rfl⟩;have e1:(b:Int) - (a:Int)=sh:=hsh.symm;have hsh1: -1099511627776≤sh:=by omega
  have hsh2:sh≤1099511627776:=by omega
  have HSH:=hid hsh;clear hsh bb0 bb1 bb2 k5 p0 p1 q0 q1 q2 hown hg5 hat5 hta hcx hz5 hmin;obtain⟨A1,n1,c1,d0,d1,d2,d3,d4,d5,d6,d7⟩:=HCX.out;obtain⟨p0,p1,_,_⟩:=d0.two;obtain⟨q0,q1,q2,_,_,_⟩:=d1.three;go_upto_region 7 with fail;clear e1;go_wp2_with fail;refine(ahead_any F A n c st len a _ (by first|exact HL.out.kp d7|exact HL.out.kp d7.drew) hn).mono ?_;rintro e w7 ⟨rfl,k7⟩;have k7':Kp w6 w7:=k7;have HC7:=hid (HCX.out.kp k7');have hcy:=HCX.out.lt;clear d0 d1 d2 d3 d4 d5 d6 d7 p0 p1 q0 q1 q2 k7 k7' HCX;obtain⟨o0,ho0⟩:∃o0,o0=bsI st a:=⟨_,rfl⟩;rw[←ho0]at hba⊢;have HST0:Hid (yT st ⟨f,a,b⟩=⟨at0,o0,st.take k⟩):=by
   show _=_;unfold yT;rw[ho0,HA0.out,HLL.out,←HK.out]
  clear ho0 HA0;have HTK:Hid ((st.take k).length=k):=by show _=_;rw[List.length_take,HLL.out];omega
  have hk40:k≤1099511627776:=by omega
  clear hkn;go_wp2_with fail;go_step3;go_wp2_with fail;go_loopg [10,13] (m+1) (fun g v u wr=>∃(x o:Nat) (ys:List Int),v=.int .i64 (x:Int)∧u=.int .i64 (o:Int)∧o≤n∧m<x+g∧Cx w wr Y A n c len m f a b ys∧ys.length+g≤k+m+1∧
   Hid (yB T st l sh b (m+1) (yT st ⟨f,a,b⟩)=yB T st l sh b g ⟨x,o,ys⟩))
  case atStart=>exact⟨at0,o0,st.take k,rfl,rfl,hba,by omega,HC7.out,by rw[HTK.out];omega,by rw[HST0.out];rfl⟩
  case round=>
   clear HC7 HST0 HTK hba;obtain⟨x,o,ys,rfl,rfl,hon,hxg,hcx,hys,hloop⟩:=hrel;by_cases hxm:(x:Int)<(m:Int)
   ·obtain⟨go,hgo⟩:∃go,gk=go+1:=⟨gk - 1,by omega⟩
    obtain⟨HGO,HCX⟩:=hid2 hgo hcx;obtain⟨wo,hwo⟩:∃wo,wo=wr:=⟨_,rfl⟩;subst hwo;clear hcx hgo;go_upto_region 9 with fail;go_loopg [13] n (fun g2 u wr2=>∃j:Nat,u=.int .i64 (j:Int)∧o≤j∧j≤n∧n≤j+g2∧Dr wo wr2∧Hid ((b:Int)≤(x:Int)→skipX st sh x n o=skipX st sh x g2 j)∧Hid ((x:Int)<(b:Int)→j=o))
    case atStart=>exact⟨o,rfl,le_,hon,by omega,Dr.refl _,fun _=>rfl,fun _=>rfl⟩
    case round=>
     obtain⟨j,rfl,hoj,hjn,hjg,hdr,HS2,HS3⟩:=hrel;obtain⟨A1,n1,c1,d0,d1,d2,d3,d4,d5,d6,d7⟩:=HCX.out.kp hdr.kp;obtain⟨p0,p1,_,_⟩:=d0.two;obtain⟨q0,q1,q2,_,_,_⟩:=d1.three;have HD7:=hid d7;clear d0 d1 d2 d3 d4 d5 d6 d7;by_cases hxb:(x:Int)≥(b:Int)
     ·have r1:=dT hxb
      by_cases hjl:(j:Int)<(n:Int)
      ·have r2:=dT hjl
       have hjl':j<n:=by omega
       obtain⟨ad,rfl,hck⟩:=(HL.out.kp HD7.out).get hjl';have hsv:=HST.out j hjl';obtain⟨s,hs⟩:∃s,s=gN st j+sh:=⟨_,rfl⟩;obtain⟨z,hz⟩:∃z,z=gN st j:=⟨_,rfl⟩;rw[←hz]at hck hs hsv;have HZ:=hid hz;have hzs:z+sh=s:=hs.symm;have hs1: -9223372036854775808≤z+sh:=by omega
       have hs2:z+sh≤9223372036854775807:=by omega
       have HS:=hid hs;clear hz hs hsv;have h3:s<x∨s=x∨(¬s<x∧¬s=x):=by omega
       rcases h3 with h3|h3|⟨h3,h4⟩
       ·have HG:Hid ((b:Int)≤(x:Int)→skipX st sh x n o=skipX st sh x (gk - 1) (j+1)):=fun h=>by
         obtain⟨g',hg'⟩:∃g',gk=g'+1:=⟨gk - 1,by omega⟩;have h5:=HS2.out h;rw[h5,hg',skipX_yes (by rw[HLL.out];exact hjl') (by rw[←HZ.out,←HS.out];exact h3)];rfl
        have r3:=dT h3;clear HS2;go_wp2_with fail;go_roundg (gk - 1)
        case measure=>omega
        case rel=>exact⟨j+1,by go_num,by omega,by omega,by omega,hdr,HG.out,fun h=>by omega⟩
       ·skip
        have HOD:Hid (oldX st sh b x o=j):=by
         show _=_;unfold oldX;rw[if_pos hxb,HLL.out,HS2.out hxb,skipX_no (by rintro⟨_,h5⟩;rw[←HZ.out,←HS.out]at h5;omega)]
        have HME:Hid (meetX st sh b x o=true):=by
         show _=_;unfold meetX;rw[HOD.out,HLL.out,←HZ.out,←HS.out,decide_eq_true (show(b:Int)≤x from hxb),decide_eq_true hjl',decide_eq_true h3];rfl
        have HRES0:Hid (xV T st l ⟨f,a,b⟩=ys++(st.drop j).map (·+sh)):=by
         show(if(yB T st l ((b:Int) - (a:Int)) b (l.length+1) (yT st ⟨f,a,b⟩)).at_<l.length then _ else _)=_;have hh:yB T st l ((b:Int) - (a:Int)) b (l.length+1) (yT st ⟨f,a,b⟩)=⟨x,j,ys⟩:=by
          have h:=hloop.out;rw[HGO.out]at h;rw[HXL.out,←HSH.out,h,loopX_meet (by show(x:Int)<l.length;rw[HXL.out];exact hxm) HME.out];show XSt.mk _ _ _=_;rw[HOD.out]
         rw[hh];show(if(x:Int)<l.length then ys++(st.drop j).map (·+((b:Int) - (a:Int)))else ys)=_;rw[if_pos (by rw[HXL.out];exact hxm),←HSH.out]
        have r3:(s<(x:Int))=False:=by simp;omega
        have r4:(s==(x:Int))=true:=by simpa using h3
        have hq1:=hck;have HCJ:=hid (HCX.out.kp hdr.kp);have hysb:ys.length≤2199023255552:=by have:=HGO.out;omega
        clear HS HZ h3 hloop HSH HS2 HS3 HME HOD hq1;go_upto_region 17 with fail;have hjc:¬(c=j):=by omega
        have hjc2:j≤c:=by omega
        have hjn2:j≤n:=by omega
        obtain⟨rest,hrest⟩:∃rest,rest=n - j:=⟨_,rfl⟩;have HRT:=hid hrest;go_upto_region 18 with fail;go_loopg [105] (n - j) (fun g2 u wr2=>∃i:Nat,u=.int .i64 (i:Int)∧i≤n - j∧n - j≤i+g2∧Cx w wr2 Y (some ad) n c len m f a b (ys++((st.drop j).take i).map (·+sh)))
        case atStart=>exact⟨0,rfl,Nat.zero_le _,by omega,by rw[List.take_zero,List.map_nil,List.append_nil];exact HCJ.out⟩
        case round=>
         clear HCJ;obtain⟨i,rfl,hin,hig,hcx⟩:=hrel;by_cases hlt:i<n - j
         ·obtain⟨A1,n1,c1,d0,d1,d2,d3,d4,d5,d6,d7⟩:=hcx
          obtain⟨ad2,he,hcq⟩:=(HL.out.kp d7).get (k:=j+i) (by omega)
          injection he with he
          subst he;rw[show ad.add (j+i)=(ad.add j).add i from(xN ad j i).symm]at hcq;have hsv2:=HST.out (j+i) (by omega);have hsn:=map_snoc (st:=st) (sh:=sh) (j:=j) (i:=i) (by rw[HLL.out];omega);obtain⟨z2,hz2⟩:∃z,z=gN st (j+i):=⟨_,rfl⟩;rw[←hz2]at hcq hsv2 hsn;obtain⟨s2,hs2'⟩:∃s2,s2=z2+sh:=⟨_,rfl⟩;rw[←hs2']at hsn;have t1: -9223372036854775808≤z2+sh:=by omega
          have t2:z2+sh≤9223372036854775807:=by omega
          have t3:z2+sh=s2:=hs2'.symm;have HSN:=hid hsn;clear hz2 hs2' hsv2 hsn;have hn1:(ys++((st.drop j).take i).map (·+sh)).length=n1:=by have:=d4.len;rw[yK]at this;omega
          have hn2:n1≤4398046511104:=by
           rw[←hn1,List.length_append,List.length_map,List.length_take];omega
          obtain⟨y0,y1,_,_⟩:=d3.two;have hzY:=d3.lt;have hz2:=d2.lt;generalize hqs:(ys++((st.drop j).take i).map (·+sh))=qs at *;have HQS:=hid hqs;clear hn1 hqs;go_upto_region 21 with(at_builtin;refine zA _ rfl _ _ _ rfl (w.heap.size+3) 3 _ 1 8 Tryz.underlying126 infoInt rfl (by omega) A1 n1 c1 (R64 qs) rfl (d4.alloc _) Any _ 1 1 [.int .i64 s2] rfl (Sl.new_ wr #[.int .i64 s2] _ 1 1 _ rfl trivial rfl (by omega)) (by simp[Value.oneCell']) (by simp only[maxLen];omega) (by omega) (by simp;omega) ?_;intro A4 c4 w4 hown4 hg4 hat4;have b34:=(d3.alloc _).grown hg4 d5;obtain⟨y2,y3,y4,y5⟩:=b34.two);have hcx4:=Cx.app (zs:=[s2]) (d0.alloc _) (d1.alloc _) (d2.alloc _) (d3.alloc _) (d4.alloc _) d5 d6 (d7.alloc _) (by rw[←xJ];exact hown4) hg4 hat4;clear d0 d1 d2 d3 d4 d5 d6 d7 y0 y1 y2 y3 y4 y5 b34 hown4 hg4 hat4;generalize(w4.setCell ⟨Y,0,none⟩ (.slice A4 (n1+1) c4))=w5 at *;go_wp2_with fail;go_roundg (n - j - (i+1))
          case measure=>omega
          case rel=>exact⟨i+1,by go_num,by omega,by omega,by rw[HSN.out,←List.append_assoc,HQS.out];exact hcx4⟩
         ·have HRES:Hid (xV T st l ⟨f,a,b⟩=ys++((st.drop j).take i).map (·+sh)):=by
           show _=_;rw[HRES0.out,List.take_of_length_le (by rw[List.length_drop,HLL.out];omega)]
          have hcx9:=hcx;generalize(ys++((st.drop j).take i).map (·+sh))=qs at *;clear hcx HRES0;obtain⟨A1,n1,c1,d0,d1,d2,d3,d4,d5,d6,d7⟩:=hcx9;obtain⟨y0,y1,_,_⟩:=d3.two;obtain⟨v0,v1,v2,v3⟩:=d2.two;have hr:(xV T st l ⟨f,a,b⟩).length=n1:=by have:=d4.len;rw[yK,←HRES.out]at this;omega
          have HR:=hid hr;clear hr;go_wp2_with fail;try rw[Exit.noGoto_ret]
          refine bodyPost_ret (v:=.agg #[.slice A1 n1 c1,.int .i64 (m:Int)]) (by simp[results,Tryz.results187,go_sem,v0,v1]) rfl ?_;rw[HRES.out];have hne:¬From (w.heap.size+3) (w.heap.size+2):=by unfold From;omega
          refine⟨A1,n1,c1,rfl,?_,(d7.setCell (p:=⟨w.heap.size+2,0,none⟩) (by show w.heap.size≤w.heap.size+2;omega) _).setCell (p:=⟨w.heap.size+2,1,none⟩) (by show w.heap.size≤w.heap.size+2;omega) _⟩;exact Sl.weak ((Sl.setCell d4.sl (p:=⟨w.heap.size+2,0,none⟩) hne _).setCell (p:=⟨w.heap.size+2,1,none⟩) hne _) (fun j _ h=>by unfold From at h⊢;omega)
       ·have HOD:Hid (oldX st sh b x o=j):=by
         show _=_;unfold oldX;rw[if_pos hxb,HLL.out,HS2.out hxb,skipX_no (by rintro⟨_,h5⟩;rw[←HZ.out,←HS.out]at h5;omega)]
        have HME:Hid (meetX st sh b x o=false):=by
         show _=_;unfold meetX;rw[HOD.out,←HZ.out,←HS.out,decide_eq_false h4,Bool.and_false]
        have r3:=dF h3;have r4:(s==(x:Int))=false:=by simpa using h4
        clear HS HZ h4;have hcx1:=HCX.out.kp hdr.kp;clear HS2 HS3 hdr;go_upto_region 14 with fail;obtain⟨A1,n1,c1,d0,d1,d2,d3,d4,d5,d6,d7⟩:=hcx1;have hn1:ys.length=n1:=by have:=d4.len;rw[yK]at this;omega
        have hn2:n1≤2199023255552:=by have:=HGO.out;omega
        have HN1:=hid hn1;clear hn1;obtain⟨y0,y1,_,_⟩:=d3.two;have hzY:=d3.lt;have hz2:=d2.lt;go_upto_region 15 with(at_builtin;refine zA _ rfl _ _ _ rfl (w.heap.size+3) 3 _ 1 8 Tryz.underlying126 infoInt rfl (by omega) A1 n1 c1 (R64 ys) rfl (d4.alloc _) Any _ 1 1 [.int .i64 (x:Int)] rfl (Sl.new_ wr #[.int .i64 (x:Int)] _ 1 1 _ rfl trivial rfl (by omega)) (by simp[Value.oneCell']) (by simp only[maxLen];omega) (by omega) (by simp;omega) ?_;intro A4 c4 w4 hown4 hg4 hat4;have b34:=(d3.alloc _).grown hg4 d5;obtain⟨y2,y3,y4,y5⟩:=b34.two);have hcx4:=Cx.app (zs:=[(x:Int)]) (d0.alloc _) (d1.alloc _) (d2.alloc _) (d3.alloc _) (d4.alloc _) d5 d6 (d7.alloc _) (by rw[←xJ];exact hown4) hg4 hat4;clear d0 d1 d2 d3 d4 d5 d6 d7 y0 y1 y2 y3 y4 y5 b34 hown4 hg4 hat4;generalize(w4.setCell ⟨Y,0,none⟩ (.slice A4 (n1+1) c4))=w5 at *;have k05:Kp w w5:=by obtain⟨_,_,_,_,_,_,_,_,_,_,h⟩:=hcx4;exact h
        obtain⟨HNX,HC4⟩:=hid2 (next_any G g T B m d l x w5 (HT.out.kp k05) (HX.out.kp k05) H32.out) hcx4;clear hcx4 k05;go_wp2_with fail;refine HNX.out.mono ?_;rintro e w8 ⟨rfl,k8⟩;have HC8:=hid (HC4.out.kp k8);have hnx:=yA T l x (by rw[HXL.out];exact hxm) (by omega);obtain⟨x',hx'⟩:∃x':Nat,zP T l x=x':=⟨(zP T l x).toNat,by omega⟩;have HL8:Hid (yB T st l sh b (m+1) (yT st ⟨f,a,b⟩)=yB T st l sh b go ⟨x',j,ys++[(x:Int)]⟩):=by
         show _=_;have h:=hloop.out;rw[HGO.out]at h;rw[h,loopX_on (by show(x:Int)<l.length;rw[HXL.out];exact hxm) HME.out];show yB T st l sh b go ⟨zP T l x,oldX st sh b x o,ys++[(x:Int)]⟩=_;rw[hx',HOD.out]
        rw[hx']at hnx⊢;clear hloop hx' HNX k8 HC4;go_wp2_with fail;go_roundg go
        case measure=>have:=HGO.out;omega
        case rel=>exact⟨x',j,ys++[(x:Int)],rfl,rfl,by omega,by have:=HGO.out;omega,HC8.out,by have:=HGO.out;rw[List.length_append,List.length_singleton];omega,HL8.out⟩
      ·have HOD:Hid (oldX st sh b x o=j):=by
        show _=_;unfold oldX;rw[if_pos hxb,HLL.out,HS2.out hxb,skipX_no (by rw[HLL.out];omega)]
       have HME:Hid (meetX st sh b x o=false):=by
        show _=_;unfold meetX;rw[HOD.out,HLL.out,decide_eq_false (show¬j<n by omega),Bool.and_false,Bool.false_and]
       have r2:=dF hjl;have hcx1:=HCX.out.kp hdr.kp;clear HS2 HS3 hdr;go_upto_region 14 with fail;obtain⟨A1,n1,c1,d0,d1,d2,d3,d4,d5,d6,d7⟩:=hcx1;have hn1:ys.length=n1:=by have:=d4.len;rw[yK]at this;omega
       have hn2:n1≤2199023255552:=by have:=HGO.out;omega
       have HN1:=hid hn1;clear hn1;obtain⟨y0,y1,_,_⟩:=d3.two;have hzY:=d3.lt;have hz2:=d2.lt;go_upto_region 15 with(at_builtin;refine zA _ rfl _ _ _ rfl (w.heap.size+3) 3 _ 1 8 Tryz.underlying126 infoInt rfl (by omega) A1 n1 c1 (R64 ys) rfl (d4.alloc _) Any _ 1 1 [.int .i64 (x:Int)] rfl (Sl.new_ wr #[.int .i64 (x:Int)] _ 1 1 _ rfl trivial rfl (by omega)) (by simp[Value.oneCell']) (by simp only[maxLen];omega) (by omega) (by simp;omega) ?_;intro A4 c4 w4 hown4 hg4 hat4;have b34:=(d3.alloc _).grown hg4 d5;obtain⟨y2,y3,y4,y5⟩:=b34.two);have hcx4:=Cx.app (zs:=[(x:Int)]) (d0.alloc _) (d1.alloc _) (d2.alloc _) (d3.alloc _) (d4.alloc _) d5 d6 (d7.alloc _) (by rw[←xJ];exact hown4) hg4 hat4;clear d0 d1 d2 d3 d4 d5 d6 d7 y0 y1 y2 y3 y4 y5 b34 hown4 hg4 hat4;generalize(w4.setCell ⟨Y,0,none⟩ (.slice A4 (n1+1) c4))=w5 at *;have k05:Kp w w5:=by obtain⟨_,_,_,_,_,_,_,_,_,_,h⟩:=hcx4;exact h
       obtain⟨HNX,HC4⟩:=hid2 (next_any G g T B m d l x w5 (HT.out.kp k05) (HX.out.kp k05) H32.out) hcx4;clear hcx4 k05;go_wp2_with fail;refine HNX.out.mono ?_;rintro e w8 ⟨rfl,k8⟩;have HC8:=hid (HC4.out.kp k8);have hnx:=yA T l x (by rw[HXL.out];exact hxm) (by omega);obtain⟨x',hx'⟩:∃x':Nat,zP T l x=x':=⟨(zP T l x).toNat,by omega⟩;have HL8:Hid (yB T st l sh b (m+1) (yT st ⟨f,a,b⟩)=yB T st l sh b go ⟨x',j,ys++[(x:Int)]⟩):=by
        show _=_;have h:=hloop.out;rw[HGO.out]at h;rw[h,loopX_on (by show(x:Int)<l.length;rw[HXL.out];exact hxm) HME.out];show yB T st l sh b go ⟨zP T l x,oldX st sh b x o,ys++[(x:Int)]⟩=_;rw[hx',HOD.out]
       rw[hx']at hnx⊢;clear hloop hx' HNX k8 HC4;go_wp2_with fail;go_roundg go
       case measure=>have:=HGO.out;omega
       case rel=>exact⟨x',j,ys++[(x:Int)],rfl,rfl,by omega,by have:=HGO.out;omega,HC8.out,by have:=HGO.out;rw[List.length_append,List.length_singleton];omega,HL8.out⟩
     ·have HOD:Hid (oldX st sh b x o=j):=by
       show _=_;unfold oldX;rw[if_neg (by omega)];exact(HS3.out (by omega)).symm
      have HME:Hid (meetX st sh b x o=false):=by
       show _=_;unfold meetX;rw[decide_eq_false (show¬(b:Int)≤x by omega),Bool.false_and,Bool.false_and]
      have r1:=dF hxb;have hcx1:=HCX.out.kp hdr.kp;clear HS2 HS3 hdr;go_upto_region 14 with fail;obtain⟨A1,n1,c1,d0,d1,d2,d3,d4,d5,d6,d7⟩:=hcx1;have hn1:ys.length=n1:=by have:=d4.len;rw[yK]at this;omega
      have hn2:n1≤2199023255552:=by have:=HGO.out;omega
      have HN1:=hid hn1;clear hn1;obtain⟨y0,y1,_,_⟩:=d3.two;have hzY:=d3.lt;have hz2:=d2.lt;go_upto_region 15 with(at_builtin;refine zA _ rfl _ _ _ rfl (w.heap.size+3) 3 _ 1 8 Tryz.underlying126 infoInt rfl (by omega) A1 n1 c1 (R64 ys) rfl (d4.alloc _) Any _ 1 1 [.int .i64 (x:Int)] rfl (Sl.new_ wr #[.int .i64 (x:Int)] _ 1 1 _ rfl trivial rfl (by omega)) (by simp[Value.oneCell']) (by simp only[maxLen];omega) (by omega) (by simp;omega) ?_;intro A4 c4 w4 hown4 hg4 hat4;have b34:=(d3.alloc _).grown hg4 d5;obtain⟨y2,y3,y4,y5⟩:=b34.two);have hcx4:=Cx.app (zs:=[(x:Int)]) (d0.alloc _) (d1.alloc _) (d2.alloc _) (d3.alloc _) (d4.alloc _) d5 d6 (d7.alloc _) (by rw[←xJ];exact hown4) hg4 hat4;clear d0 d1 d2 d3 d4 d5 d6 d7 y0 y1 y2 y3 y4 y5 b34 hown4 hg4 hat4;generalize(w4.setCell ⟨Y,0,none⟩ (.slice A4 (n1+1) c4))=w5 at *;have k05:Kp w w5:=by obtain⟨_,_,_,_,_,_,_,_,_,_,h⟩:=hcx4;exact h
      obtain⟨HNX,HC4⟩:=hid2 (next_any G g T B m d l x w5 (HT.out.kp k05) (HX.out.kp k05) H32.out) hcx4;clear hcx4 k05;go_wp2_with fail;refine HNX.out.mono ?_;rintro e w8 ⟨rfl,k8⟩;have HC8:=hid (HC4.out.kp k8);have hnx:=yA T l x (by rw[HXL.out];exact hxm) (by omega);obtain⟨x',hx'⟩:∃x':Nat,zP T l x=x':=⟨(zP T l x).toNat,by omega⟩;have HL8:Hid (yB T st l sh b (m+1) (yT st ⟨f,a,b⟩)=yB T st l sh b go ⟨x',j,ys++[(x:Int)]⟩):=by
       show _=_;have h:=hloop.out;rw[HGO.out]at h;rw[h,loopX_on (by show(x:Int)<l.length;rw[HXL.out];exact hxm) HME.out];show yB T st l sh b go ⟨zP T l x,oldX st sh b x o,ys++[(x:Int)]⟩=_;rw[hx',HOD.out]
      rw[hx']at hnx⊢;clear hloop hx' HNX k8 HC4;go_wp2_with fail;go_roundg go
      case measure=>have:=HGO.out;omega
      case rel=>exact⟨x',j,ys++[(x:Int)],rfl,rfl,by omega,by have:=HGO.out;omega,HC8.out,by have:=HGO.out;rw[List.length_append,List.length_singleton];omega,HL8.out⟩
   ·skip
    have HRES:Hid (xV T st l ⟨f,a,b⟩=ys):=by
     show(if(yB T st l ((b:Int) - (a:Int)) b (l.length+1) (yT st ⟨f,a,b⟩)).at_<l.length then _ else _)=_;have hh:yB T st l ((b:Int) - (a:Int)) b (l.length+1) (yT st ⟨f,a,b⟩)=⟨x,o,ys⟩:=by
      rw[HXL.out,←HSH.out,hloop.out];exact loopX_end (by show¬(x:Int)<l.length;rw[HXL.out];exact hxm) _
     rw[hh];show(if(x:Int)<l.length then _ else ys)=ys;rw[if_neg (by rw[HXL.out];exact hxm)]
    have hcx9:=hcx;clear hcx hloop HSH;obtain⟨A1,n1,c1,d0,d1,d2,d3,d4,d5,d6,d7⟩:=hcx9;obtain⟨y0,y1,_,_⟩:=d3.two;obtain⟨v0,v1,v2,v3⟩:=d2.two;have hr:(xV T st l ⟨f,a,b⟩).length=n1:=by have:=d4.len;rw[yK,←HRES.out]at this;omega
    have HR:=hid hr;clear hr;go_wp2_with fail;try rw[Exit.noGoto_ret]
    refine bodyPost_ret (v:=.agg #[.slice A1 n1 c1,.int .i64 (m:Int)]) (by simp[results,Tryz.results187,go_sem,v0,v1]) rfl ?_;rw[HRES.out];have hne:¬From (w.heap.size+3) (w.heap.size+2):=by unfold From;omega
    refine⟨A1,n1,c1,rfl,?_,(d7.setCell (p:=⟨w.heap.size+2,0,none⟩) (by show w.heap.size≤w.heap.size+2;omega) _).setCell (p:=⟨w.heap.size+2,1,none⟩) (by show w.heap.size≤w.heap.size+2;omega) _⟩;exact Sl.weak ((Sl.setCell d4.sl (p:=⟨w.heap.size+2,0,none⟩) hne _).setCell (p:=⟨w.heap.size+2,1,none⟩) hne _) (fun j _ h=>by unfold From at h⊢;omega)
end Go.Proofs.YtociefdcccokjaaGreat

/-
  Lemmas for TopMacro. Conditions: each states its own.
-/
import Derived.StillTailTactics
import Derived.Test.YtociefdcccokjaaGreatG20
import Derived.Test.YtociefdcccokjaaGreatG21
set_option maxHeartbeats 3200000
set_option maxRecDepth 100000
namespace Go.Proofs.YtociefdcccokjaaGreat
open Go.RowKit Go.Lib
def RetRuT (xs:List Int)(w:World)(e:Ending)(w':World):Prop:=∃A n c,e=.returned (.tuple #[.slice A n c,.bool true])∧Ru w' (From w.heap.size) A n c xs∧Kp w w'
theorem ringTop_some (F G:Nat→Prop)(A:Option Addr)(n c r:Nat)(L:List (List Int))(l:List Int)(w:World)(h:Txs w F G A n c L)(hr:L[r]? =some l)(hl:l.length≤1099511627776):
 Calls Tryz.prog 113 #[.agg #[.slice A n c,.int .i64 (r:Int)]] w (RetRuT l w):=by
 have hrn:r<n:=by have:=(List.getElem?_eq_some_iff.1 hr).1;have:=h.len;omega
 obtain⟨ad,B,m,d,rfl,hc,hru⟩:=h.get hrn;rw[hr]at hru;have hcap:=h.cap;have hle:=h.le;unfold maxLen at hcap;have q:((n:Int)==0)=false:=by simp;omega
 have hm:m≤1099511627776:=by have:=Ru.len hru;simp at this;omega
 have HR:=hid (show Ru w G B m d l from hru);clear hru hr h;go_enter Tryz.func113,Tryz.ntmps113;have k1:=(Kp.refl w).alloc (.cells #[.slice (some ad) n c,.int .i64 (r:Int)] 59);have hc1:=zE k1 hc;go_upto_region 3 with fail;have HCL:=hid (zH G B m d l _ (HR.out.kp k1) hm);go_wp2_with fail;refine HCL.out.mono ?_;rintro e w2 ⟨A2,n2,c2,rfl,h2,k2⟩;go_wp2_with fail;go_ret2;exact⟨A2,n2,c2,rfl,Sl.weak h2 (fun k _ h=>by unfold From at h⊢;have:=k1.size;omega),k1.trans k2⟩
theorem ringTurn_any (A:Option Addr)(n c r:Nat)(w:World)(hr:r≤1000000):
 Calls Tryz.prog 81 #[.agg #[.slice A n c,.int .i64 (r:Int)]] w fun e w'=>e=.returned (.agg #[.slice A n c,.int .i64 ((if n=0 then r else(r+1) % n:Nat):Int)])∧Kp w w':=by
 have HK:=hid (fun(u v:Value)=>(((((Kp.refl w).alloc (.cells #[.slice A n c,.int .i64 (r:Int)] 59)).alloc (.cells #[.slice none 0 0,.int .i64 0] 59)).setCell (p:=⟨w.heap.size+1,0,none⟩) (Nat.le_succ _) u).setCell (p:=⟨w.heap.size+1,1,none⟩) (Nat.le_succ _) v));by_cases h0:n=0
 ·subst h0
  rw[if_pos rfl];go_enter Tryz.func81,Tryz.ntmps81;go_wp2_with fail;refine bodyPost_ret (v:=.agg #[.slice A 0 c,.int .i64 (r:Int)]) (by simp[results,Tryz.results81,go_sem]) rfl ?_;exact⟨rfl,by repeat(first|exact Kp.refl _|refine Kp.alloc ?_ _)⟩
 ·rw[if_neg h0]
  have q:((n:Int)==0)=false:=by simpa using h0
  have q2:¬((n:Int)=0):=by omega
  obtain⟨s,hs⟩:∃s,s=(r+1) % n:=⟨_,rfl⟩;obtain⟨r1,hr1⟩:∃r1,r1=r+1:=⟨_,rfl⟩;have e1:(r:Int)+1=(r1:Int):=by omega
  have e2:Int.tmod (r1:Int) (n:Int)=(s:Int):=by rw[hs,hr1];rfl
  have hsb:s≤1000001:=by have:=Nat.mod_le (r+1) n;omega
  rw[←hs];clear hs hr1;go_enter Tryz.func81,Tryz.ntmps81;go_upto_region 3 with fail;have b0:=(Bx.new w #[.slice A n c,.int .i64 (r:Int)] 59).alloc (.cells #[.slice none 0 0,.int .i64 0] 59);have b1:=Bx.new (w.alloc (.cells #[.slice A n c,.int .i64 (r:Int)] 59)) #[.slice none 0 0,.int .i64 0] 59;rw[World.size_alloc]at b1;have k2:=((Kp.refl w).alloc (.cells #[.slice A n c,.int .i64 (r:Int)] 59)).alloc (.cells #[.slice none 0 0,.int .i64 0] 59);generalize((w.alloc (.cells #[.slice A n c,.int .i64 (r:Int)] 59)).alloc (.cells #[.slice none 0 0,.int .i64 0] 59))=w2 at *;obtain⟨p0,p1,_,_⟩:=b0.two;obtain⟨z0,z1,_,_⟩:=b1.two;have hw1:IntKind.i64.wrap (r1:Int)=(r1:Int):=zV (by omega) (by omega);go_still_tail 10,(by kernel_rfl);change wpList _ _ _ _ _ w2.drew;have HK2:=hid k2;have hlt:=b0.lt;clear b0 k2 HK hw1;go_wp2_with fail;refine bodyPost_ret (v:=.agg #[.slice A n c,.int .i64 (s:Int)]) (by simp[results,Tryz.results81,go_sem,z0,z1]) rfl ?_;exact⟨rfl,((HK2.out.drew).setCell (p:=⟨w.heap.size+1,0,none⟩) (Nat.le_succ _) _).setCell (p:=⟨w.heap.size+1,1,none⟩) (Nat.le_succ _) _⟩
theorem insert_any (base vb n c:Nat)(A:Option Addr)(x:Value)(vs:List Value)(w:World)(hs:Own w base 41 1 A n c vs)(hb:base≤w.heap.size)(hv:Bx w vb #[x] 41)(hvA:zB A≠some vb)(h1:x.oneCell'=true)(h1s:∀u∈vs,u.oneCell'=true)(hn:n≤100000):
 Calls Tryz.prog 185 #[.slice A n c,.int .i64 0,.slice (some ⟨vb,0,none⟩) 1 1] w (RetIns base x vs n A w):=by
 rcases Nat.eq_zero_or_pos n with h0|h0
 ·subst h0
  obtain rfl:vs=[]:=List.eq_nil_of_length_eq_zero (by simpa using hs.len);exact insert_nil base vb c A x w hs hb hv h1
 ·by_cases hc:c<n+1
  ·exact insert_grow base vb n c A x vs w hs hb hv h1 h1s h0 hn hc
  ·exact insert_shift base vb n c A x vs w hs hv hvA h1 h1s h0 hn (by omega)
def RetRing (F:Nat→Prop)(L:List (List Int))(w:World)(e:Ending)(w':World):Prop:=∃A n c,e=.returned (.agg #[.slice A n c,.int .i64 0])∧Txs w' F F A n c L∧Kp w w'
theorem txs_cons {w w4:World}{F:Nat→Prop}{base n n4 c4 c':Nat}{A4 A':Option Addr}{L:List (List Int)}{vs:List Value}{s:List Int}(k:Kp w w4)(hF:∀k,base≤k→F k)(hl:L.length=n)(hx:∀(k:Nat) (x:List Int),L[k]? =some x→∃(B:Option Addr) (m d:Nat),vs[k]? =some (Value.slice B m d)∧Ru w F B m d x)
 (hr:Ru w4 F A4 n4 c4 s)(ho:Sl w4 (From base) 1 A' (n+1) c' (.slice A4 n4 c4::vs)):Txs w4 F F A' (n+1) c' (s::L):=by
 refine⟨_,Sl.weak ho (fun k _ h=>hF k h),by rw[List.length_cons,hl],fun j x hk=>?_⟩;rcases j with _|j
 ·simp at hk
  subst hk;exact⟨A4,n4,c4,rfl,hr⟩
 ·obtain⟨B,m,d,h1,h2⟩:=hx j x (by simpa using hk)
  exact⟨B,m,d,by simpa using h1,h2.kp k⟩
theorem Txs.take {w:World}{F G:Nat→Prop}{A:Option Addr}{n c k:Nat}{L:List (List Int)}(h:Txs w F G A n c L)(hk:k≤n):Txs w F G A k c (L.take k):=by
 obtain⟨vs,h1,h2,h3⟩:=h;have h4:=Sl.take h1 hk;rw[Nat.mul_one]at h4;refine⟨vs.take k,h4,by rw[List.length_take,h2];exact Nat.min_eq_left hk,fun j x hj=>?_⟩;rw[List.getElem?_take]at hj
 split at hj
 ·obtain⟨B,m,d,h5,h6⟩:=h3 j x hj
  refine⟨B,m,d,?_,h6⟩;rw[List.getElem?_take_of_lt (by assumption)];exact h5
 ·cases hj
theorem ringAdd_any (F G:Nat→Prop)(A B:Option Addr)(n c m d:Nat)(at_:Int)(L:List (List Int))(s:List Int)(w:World)(hF:∀k,w.heap.size≤k→F k)(hT:Txs w F F A n c L)(hs:Ru w G B m d s)(hn:n≤10000)(hm:m≤1099511627776):
 Calls Tryz.prog 149 #[.agg #[.slice A n c,.int .i64 at_],.slice B m d] w (RetRing F (addR L s) w):=by
 obtain⟨vs,hS,h1s,hl,hx⟩:=hT.oneCell;obtain⟨HX,HL,H1S,HF⟩:=hid4 hx hl h1s hF;go_enter Tryz.func149,Tryz.ntmps149;go_upto_region 1 with fail;have k2:=((Kp.refl w).alloc (.cells #[.slice A n c,.int .i64 at_] 59)).alloc (.cells #[.slice none 0 0,.int .i64 0] 59);have b0:=(Bx.new w #[.slice A n c,.int .i64 at_] 59).alloc (.cells #[.slice none 0 0,.int .i64 0] 59);have b1:=Bx.new (w.alloc (.cells #[.slice A n c,.int .i64 at_] 59)) #[.slice none 0 0,.int .i64 0] 59;rw[World.size_alloc]at b1;obtain⟨HS,HR,HK2⟩:=hid3 (hS.kp k2) (hs.kp k2) k2;clear hx hl h1s hF hS hs hT k2;generalize((w.alloc (.cells #[.slice A n c,.int .i64 at_] 59)).alloc (.cells #[.slice none 0 0,.int .i64 0] 59))=w2 at *;have HB1:=hid b1;obtain⟨p0,p1,_,_⟩:=b0.two;obtain⟨HC1,HZ2⟩:=hid2 (vD F A n c vs w2 HS.out H1S.out (by omega)) (show w.heap.size+1<w2.heap.size from b1.lt);clear b0 b1;go_wp2_with fail;refine HC1.out.mono ?_;rintro e w3 ⟨A3,n3,c3,rfl,ho3,k3⟩;have hn3:n3=n:=by have h1:=ho3.len;have h2:=HS.out.len;omega
 subst hn3;obtain⟨HO3,HC2,HB3,HK3⟩:=hid4 ho3 (zH G B m d s w3 (HR.out.kp k3) hm) (HB1.out.kp k3) (HK2.out.trans k3);clear ho3 HC1 HS HR HB1 HK2 p0 p1;have HZ3:=hid k3.size;clear k3;go_wp2_with fail;refine HC2.out.mono ?_;rintro e w4 ⟨A4,n4,c4,rfl,hr4,k4⟩;obtain⟨HO4,HB4,HK4,HR4,HZ4,HO3L⟩:=hid6 (HO3.out.kp k4) (HB3.out.kp k4) (HK3.out.trans k4) hr4 k4.size HO3.out.lt;clear hr4 k4 HO3 HB3 HK3 HC2;go_upto_region 2 with(go_at_call 185;refine Calls.mono (insert_any w2.heap.size w4.heap.size n3 c3 A3 (.slice A4 n4 c4) vs _ (HO4.out.alloc _) (by have:=HZ3.out;have:=HZ4.out;simp;omega) (Bx.new w4 #[.slice A4 n4 c4] 41) (fun e=>by have:=(HO4.out.lt _ e).2;omega) rfl H1S.out (by omega)) ?_;rintro e w6 ⟨A6,c6,rfl,ho6,m6⟩);have k6:Kp w w6:=Mu.kp m6 (HK4.out.alloc _) (fun j e=>by have:=(HO4.out.lt j e).1;have:=HZ2.out;omega);have hb6:Bx w6 (w.heap.size+1) #[.slice none 0 0,.int .i64 0] 59:=Mu.bx m6 (HB4.out.alloc _) (fun e=>by have:=(HO4.out.lt _ e).1;have:=HZ2.out;omega);have hr6:Ru w6 (From w3.heap.size) A4 n4 c4 s:=Mu.sl m6 (Sl.alloc HR4.out _) (fun j hj e=>by have:=(HO3L.out j e).2;unfold From at hj;omega);have hsl6:=ho6.sl;have hcap6:=hsl6.cap;have hle6:=hsl6.le;unfold maxLen at hcap6;have hrow6:∀j,zB A6=some j→j≠w.heap.size+1:=fun j e e2=>by have:=(ho6.lt j e).1;have:=HZ2.out;omega
 have HT6:=hid (show∀w7,Sl w7 (From w2.heap.size) 1 A6 (n3+1) c6 (.slice A4 n4 c4::vs)→Kp w w7→Ru w7 (From w3.heap.size) A4 n4 c4 s→Txs w7 F F A6 (n3+1) c6 (s::L)from fun w7 hs7 k7 hr7=>
  txs_cons (base:=w2.heap.size) k7 (fun k hk=>HF.out k (by have:=HZ2.out;omega)) HL.out HX.out (Sl.weak hr7 (fun k _ h=>HF.out k (by unfold From at h;have:=HZ2.out;have:=HZ3.out;omega))) hs7)
 obtain⟨HB6,HK6,HR6,HO6,HROW⟩:=hid5 hb6 k6 hr6 ho6 hrow6;obtain⟨m1,hm1⟩:∃m1,m1=n3+1:=⟨_,rfl⟩;rw[←hm1]at hle6⊢;have HM1:=hid hm1;have hm1b:m1≤10001:=by omega
 clear m6 k6 hb6 hr6 hsl6 ho6 hrow6 hm1 HB4 HK4 HO4 HR4 HL HX H1S HO3L;obtain⟨p0,p1,_,_⟩:=HB6.out.two;have HFIN:=hid (show∀u v:Value,Txs ((w6.setCell ⟨w.heap.size+1,0,none⟩ u).setCell ⟨w.heap.size+1,1,none⟩ v) F F A6 (n3+1) c6 (s::L)∧Kp w ((w6.setCell ⟨w.heap.size+1,0,none⟩ u).setCell ⟨w.heap.size+1,1,none⟩ v)from fun u v=>by
  have hk:=(HK6.out.setCell (p:=⟨w.heap.size+1,0,none⟩) (Nat.le_succ _) u).setCell (p:=⟨w.heap.size+1,1,none⟩) (Nat.le_succ _) v;refine⟨HT6.out _ ?_ hk ?_,hk⟩
  ·exact((HO6.out.setCell (p:=⟨w.heap.size+1,0,none⟩) (fun e=>HROW.out _ e rfl) u).setCell (p:=⟨w.heap.size+1,1,none⟩) (fun e=>HROW.out _ e rfl) v).sl
  ·have hne:¬From w3.heap.size (w.heap.size+1):=by unfold From;have:=HZ2.out;have:=HZ3.out;omega
   exact(Sl.setCell HR6.out (p:=⟨w.heap.size+1,0,none⟩) hne u).setCell (p:=⟨w.heap.size+1,1,none⟩) hne v)
 clear HT6 HK6 HR6 HO6 HROW;by_cases hb:m1≤60
 ·have hbi:¬((60:Int)<(m1:Int)):=by omega
  have hbi2:(m1:Int)≤60:=by omega
  go_wp2_with fail
  all_goals
   refine bodyPost_ret (v:=.agg #[.slice A6 m1 c6,.int .i64 0]) (by simp[results,Tryz.results149,go_sem,p0,p1]) rfl ?_;obtain⟨f1,f2⟩:=HFIN.out (.slice A6 m1 c6) (.int .i64 0);refine⟨A6,m1,c6,rfl,?_,f2⟩;rw[HM1.out];have e:addR L s=s::L:=by unfold addR;exact List.take_of_length_le (by have h9:=f1.len;have h8:=HM1.out;omega)
   rw[e];rw[HM1.out]at f1;exact f1
 ·have hbi:(60:Int)<(m1:Int):=by omega
  have hbi2:¬((m1:Int)≤60):=by omega
  have h60:60≤c6:=by omega
  go_wp2_with fail
  all_goals
   refine bodyPost_ret (v:=.agg #[.slice A6 60 c6,.int .i64 0]) (by simp[results,Tryz.results149,go_sem,p0,p1]) rfl ?_;obtain⟨f1,f2⟩:=HFIN.out (.slice A6 60 c6) (.int .i64 0);exact⟨A6,60,c6,rfl,f1.take (by have:=HM1.out;omega),f2⟩
theorem rows2 {w:World}{A1 A2:Option Addr}{n1 n2 c1 c2:Nat}{l1 l2:List Int}(h1:Ru w Any A1 n1 c1 l1)(h2:Ru w Any A2 n2 c2 l2):RowsAt w [.slice A1 n1 c1,.slice A2 n2 c2] [l1,l2]:=
 ⟨rfl,fun k hk=>by
  rcases k with _|_|k
  ·exact⟨A1,n1,c1,rfl,h1⟩
  ·exact⟨A2,n2,c2,rfl,h2⟩
  ·simp at hk;omega⟩
theorem Txs.setCell {w:World}{F G:Nat→Prop}{A:Option Addr}{n c:Nat}{L:List (List Int)}(h:Txs w F G A n c L){p:Addr}(hF:¬F p.block)(hG:¬G p.block)(u:Value):Txs (w.setCell p u) F G A n c L:=
 h.frame (by simp[World.setCell]) (fun i hi _=>Below.heap_setCell w p u i (by rintro rfl;exact hF hi)) (fun i hi _=>Below.heap_setCell w p u i (by rintro rfl;exact hG hi))
theorem joinR_cons (x:List Int)(r:List (List Int))(s:List Int)(ah:Bool):joinR (x::r) s ah=(if ah=true then s++x else x++s)::r:=rfl
theorem join_row {cur:Array Value}{n:Nat}{v0 v:Value}{rest:List Value}(h:cur.toList.take n=v0::rest):(cur.setIfInBounds 0 v).toList.take n=v::rest:=by
 rw[Array.toList_setIfInBounds,List.take_set,h];rfl
theorem join_end {F:Nat→Prop}{w w5:World}{g W n c n5 c5 B:Nat}{A5:Option Addr}{v0 u v:Value}{cur:Array Value}{rest:List Value}{y x0:List Int}{r:List (List Int)}(hW:W=w.heap.size+1)(hF:∀k,w.heap.size≤k→F k)(hgW:W<g)(hbx:Bx w5 g cur 41)(hcs:cur.size=c*1)(htk:cur.toList.take (n*1)=v0::rest)(hnc:n≤c)(hc:c≤maxLen)
 (hl:(x0::r).length=n)(hx:∀(k:Nat) (x:List Int),(x0::r)[k]? =some x→∃(B:Option Addr) (m d:Nat),(v0::rest)[k]? =some (Value.slice B m d)∧Ru w F B m d x)(hk:Kp w w5)(hr:Ru w5 (From B) A5 n5 c5 y)(hB:g<B)(hBw:w.heap.size≤B):
 RetRing F (y::r) w (.returned (.agg #[.slice (some ⟨g,0,none⟩) n c,.int .i64 0])) (((w5.setCell ⟨g,0,none⟩ (.slice A5 n5 c5)).setCell ⟨W,0,none⟩ u).setCell ⟨W,1,none⟩ v):=by
 have k9:Kp w (((w5.setCell ⟨g,0,none⟩ (.slice A5 n5 c5)).setCell ⟨W,0,none⟩ u).setCell ⟨W,1,none⟩ v):=((hk.setCell (p:=⟨g,0,none⟩) (by show w.heap.size≤g;omega) _).setCell (p:=⟨W,0,none⟩) (by show w.heap.size≤W;omega) _).setCell (p:=⟨W,1,none⟩) (by show w.heap.size≤W;omega) _;have b9:=((hbx.set 0 (.slice A5 n5 c5)).far (p:=⟨W,0,none⟩) (by show g≠W;omega) u).far (p:=⟨W,1,none⟩) (by show g≠W;omega) v;have hne:∀q,q=g∨q=W→¬From B q:=fun q e h=>by unfold From at h;omega
 have r9:Ru _ (From B) A5 n5 c5 y:=((Sl.setCell hr (p:=⟨g,0,none⟩) (hne g (.inl rfl)) (.slice A5 n5 c5)).setCell (p:=⟨W,0,none⟩) (hne W (.inr rfl)) u).setCell (p:=⟨W,1,none⟩) (hne W (.inr rfl)) v;have s9:=Sl.of_row (F:=F) b9 (hF g (by omega)) 1 n c hnc hc (by simp;omega);rw[join_row htk]at s9;refine⟨_,n,c,rfl,⟨_,s9,by rw[←hl];rfl,fun k x hkx=>?_⟩,k9⟩;rcases k with _|k
 ·simp at hkx
  subst hkx;exact⟨A5,n5,c5,rfl,Sl.weak r9 (fun k _ h=>hF k (by unfold From at h;omega))⟩
 ·obtain⟨B1,m1,d1,h1,h2⟩:=hx (k+1) x (by simpa using hkx)
  exact⟨B1,m1,d1,by simpa using h1,h2.kp k9⟩
theorem ringJoin_any (F G:Nat→Prop)(A B:Option Addr)(n c m d:Nat)(at_:Int)(L:List (List Int))(s:List Int)(ah:Bool)(w:World)(hF:∀k,w.heap.size≤k→F k)(hT:Txs w F F A n c L)(hs:Ru w G B m d s)(hn:n≤10000)(hm:m≤274877906944)(hL:∀x∈L,x.length≤274877906944):
 Calls Tryz.prog 148 #[.agg #[.slice A n c,.int .i64 at_],.slice B m d,.bool ah] w (RetRing F (joinR L s ah) w):=by
 by_cases h0:n=0
 ·subst h0
  have hl:L=[]:=List.eq_nil_of_length_eq_zero hT.len;subst hl;have k2:=((Kp.refl w).alloc (.cells #[.slice A 0 c,.int .i64 at_] 59)).alloc (.cells #[.slice none 0 0,.int .i64 0] 59);have b1:=Bx.new (w.alloc (.cells #[.slice A 0 c,.int .i64 at_] 59)) #[.slice none 0 0,.int .i64 0] 59;rw[World.size_alloc]at b1;obtain⟨HA,HF⟩:=hid2 (fun wx (kx:Kp w wx) (hz:w.heap.size+2≤wx.heap.size)=>ringAdd_any (fun k=>F k∧k≠w.heap.size+1) G A B 0 c m d at_ [] s wx (fun k hk=>⟨hF k (by omega),by omega⟩) (Txs.kp (Txs.weak hT (fun k h1 h2=>⟨h2,by omega⟩) (fun k h1 h2=>⟨h2,by omega⟩)) kx) (hs.kp kx) (by omega) (by omega)) hF;clear hF hT hs hL;go_enter Tryz.func148,Tryz.ntmps148;obtain⟨HK2,HB1⟩:=hid2 k2 b1;go_upto_region 2 with fail;have HA2:=hid (HA.out _ HK2.out (by simp));clear k2 b1;go_wp2_with fail;refine HA2.out.mono ?_;rintro e w3 ⟨A3,n3,c3,rfl,ht3,k3⟩;have hb3:=HB1.out.kp k3;obtain⟨p0,p1,_,_⟩:=hb3.two;obtain⟨HT3,HK3⟩:=hid2 ht3 (HK2.out.trans k3);clear ht3 k3 hb3;go_wp2_with fail;refine bodyPost_ret (v:=.agg #[.slice A3 n3 c3,.int .i64 0]) (by simp[results,Tryz.results148,go_sem,p0,p1]) rfl ?_;refine⟨A3,n3,c3,rfl,?_,(HK3.out.setCell (p:=⟨w.heap.size+1,0,none⟩) (Nat.le_succ _) _).setCell (p:=⟨w.heap.size+1,1,none⟩) (Nat.le_succ _) _⟩;exact Txs.weak ((HT3.out.setCell (p:=⟨w.heap.size+1,0,none⟩) (fun h=>h.2 rfl) (fun h=>h.2 rfl) _).setCell (p:=⟨w.heap.size+1,1,none⟩) (fun h=>h.2 rfl) (fun h=>h.2 rfl) _) (fun _ _ h=>h.1) (fun _ _ h=>h.1)
 ·have q0:((n:Int)==0)=false:=by simpa using h0
  obtain⟨x0,r,rfl⟩:∃x0 r,L=x0::r:=by
   rcases L with _|⟨x0,r⟩
   ·exact absurd hT.len (by simpa using fun e=>h0 e.symm)
   ·exact⟨x0,r,rfl⟩
  have hx0:=hL x0 (by simp);obtain⟨vs,hS,h1s,hl,hx⟩:=hT.oneCell;obtain⟨B1,m1,d1,hv0,hr0⟩:=hx 0 x0 rfl;obtain⟨rest,rfl⟩:∃rest,vs=.slice B1 m1 d1::rest:=by
   rcases vs with _|⟨v,rest⟩
   ·simp at hv0
   ·exact⟨rest,by simp at hv0;rw[hv0]⟩
  have hm1:m1≤274877906944:=by have:=hr0.len;omega
  obtain⟨HX,HL,H1S,HF,HX0⟩:=hid5 hx hl h1s hF hx0;have hsl:=hs.len;have HSL:=hid hsl;rw[joinR_cons];obtain⟨y,hy⟩:∃y,y=(if ah=true then s++x0 else x0++s):=⟨_,rfl⟩;rw[←hy];have HY:=hid hy;clear hy;go_enter Tryz.func148,Tryz.ntmps148;go_upto_region 1 with fail;have k2:=((Kp.refl w).alloc (.cells #[.slice A n c,.int .i64 at_] 59)).alloc (.cells #[.slice none 0 0,.int .i64 0] 59);have b0:=(Bx.new w #[.slice A n c,.int .i64 at_] 59).alloc (.cells #[.slice none 0 0,.int .i64 0] 59);have b1:=Bx.new (w.alloc (.cells #[.slice A n c,.int .i64 at_] 59)) #[.slice none 0 0,.int .i64 0] 59;rw[World.size_alloc]at b1;obtain⟨HS,HR,HR0,HK2⟩:=hid4 (hS.kp k2) (hs.kp k2) (hr0.kp k2) k2;clear hx hl h1s hF hS hs hT k2 hL hv0 hr0 hx0 hsl;generalize((w.alloc (.cells #[.slice A n c,.int .i64 at_] 59)).alloc (.cells #[.slice none 0 0,.int .i64 0] 59))=w2 at *;have HB1:=hid b1;obtain⟨p0,p1,_,_⟩:=b0.two;obtain⟨HC1,HZ2⟩:=hid2 (vD F A n c _ w2 HS.out H1S.out (by omega)) (show w.heap.size+1<w2.heap.size from b1.lt);clear b0 b1;go_wp2_with fail;refine HC1.out.mono ?_;rintro e w3 ⟨A3,n3,c3,rfl,ho3,k3⟩;have hn3:n3=n:=by have h1:=ho3.len;have h2:=HS.out.len;omega
  subst hn3;obtain⟨g,cur,rfl,hbg,hbx,hnc,hcm,hcs,htk⟩:=ho3.row (by omega);obtain⟨Q,hQ⟩:∃Q,Q=cur.toList:=⟨_,rfl⟩;have hq0:cur[0]? =some (.slice B1 m1 d1):=by
   have h9:(cur.toList.take (n3*1))[0]? =some (.slice B1 m1 d1):=by rw[htk];rfl
   rw[List.getElem?_take_of_lt (by omega)]at h9;simpa using h9
  have hc0:w3.cell? ⟨g,0,none⟩=some (.slice B1 m1 d1):=by rw[hbx.cell];exact hq0
  have hf0:=hbx.frozen 0;have hglt:=hbx.lt;have hn3p:0<n3:=by omega
  obtain⟨HB3,HK3,HR3,HR03,HBX,HTK,HCS⟩:=hid7 (HB1.out.kp k3) (HK2.out.trans k3) (HR.out.kp k3) (HR0.out.kp k3) hbx htk hcs;unfold maxLen at hcm;clear ho3 HC1 HS HR HR0 HB1 HK2 p0 p1 k3 hbx htk hcs hQ;cases ah
  ·skip
   have HYE:=hid (show y=[x0,s].flatten by rw[HY.out];simp);clear HY;go_upto_region 7 with(go_at_call 184;refine Calls.mono (concat_any Any (some ⟨w3.heap.size,0,none⟩) 2 2 [.slice B1 m1 d1,.slice B m d] [x0,s] _ (by simpa using Sl.of_bxF (F:=Any) (Bx.new w3 #[.slice B1 m1 d1,.slice B m d] 41) trivial 1 2 rfl (by omega)) (rows2 (Sl.any (HR03.out.kp ((Kp.refl w3).alloc _))) (Sl.any (HR3.out.kp ((Kp.refl w3).alloc _)))) (by omega) (by have:=HSL.out;have:=HX0.out;simp;omega)) ?_;rintro e w5 ⟨A5,n5,c5,rfl,hr5,k5'⟩;have k5:=((Kp.refl w3).alloc (.cells #[.slice B1 m1 d1,.slice B m d] 41)).trans k5';have HB5:=hid (HBX.out.kp k5);have HQ5:=hid (HB3.out.kp k5);have HK5:=hid (HK3.out.trans k5);have g0:=HB5.out.cell 0;have g1:=HB5.out.frozen 0;rw[hq0]at g0);have HR5:=hid hr5;have hQ6:=HQ5.out.far (p:=⟨g,0,none⟩) (by show w.heap.size+1≠g;have:=HZ2.out;omega) (.slice A5 n5 c5);obtain⟨q0',q1',_,_⟩:=hQ6.two;clear hr5 k5' k5 g0 g1 hc0 hf0 hq0 hQ6;go_wp2_with fail;refine bodyPost_ret (v:=.agg #[.slice (some ⟨g,0,none⟩) n3 c3,.int .i64 0]) (by simp[results,Tryz.results148,go_sem,q0',q1']) rfl ?_;rw[HYE.out];exact join_end rfl HF.out (by have:=HZ2.out;omega) HB5.out HCS.out HTK.out hnc (by unfold maxLen;omega) HL.out HX.out HK5.out HR5.out (by simp;omega) (by have:=HK3.out.size;simp;omega)
  ·skip
   have HYE:=hid (show y=[s,x0].flatten by rw[HY.out];simp);clear HY;go_upto_region 7 with(go_at_call 184;refine Calls.mono (concat_any Any (some ⟨w3.heap.size,0,none⟩) 2 2 [.slice B m d,.slice B1 m1 d1] [s,x0] _ (by simpa using Sl.of_bxF (F:=Any) (Bx.new w3 #[.slice B m d,.slice B1 m1 d1] 41) trivial 1 2 rfl (by omega)) (rows2 (Sl.any (HR3.out.kp ((Kp.refl w3).alloc _))) (Sl.any (HR03.out.kp ((Kp.refl w3).alloc _)))) (by omega) (by have:=HSL.out;have:=HX0.out;simp;omega)) ?_;rintro e w5 ⟨A5,n5,c5,rfl,hr5,k5'⟩;have k5:=((Kp.refl w3).alloc (.cells #[.slice B m d,.slice B1 m1 d1] 41)).trans k5';have HB5:=hid (HBX.out.kp k5);have HQ5:=hid (HB3.out.kp k5);have HK5:=hid (HK3.out.trans k5);have g0:=HB5.out.cell 0;have g1:=HB5.out.frozen 0;rw[hq0]at g0);have HR5:=hid hr5;have hQ6:=HQ5.out.far (p:=⟨g,0,none⟩) (by show w.heap.size+1≠g;have:=HZ2.out;omega) (.slice A5 n5 c5);obtain⟨q0',q1',_,_⟩:=hQ6.two;clear hr5 k5' k5 g0 g1 hc0 hf0 hq0 hQ6;go_wp2_with fail;refine bodyPost_ret (v:=.agg #[.slice (some ⟨g,0,none⟩) n3 c3,.int .i64 0]) (by simp[results,Tryz.results148,go_sem,q0',q1']) rfl ?_;rw[HYE.out];exact join_end rfl HF.out (by have:=HZ2.out;omega) HB5.out HCS.out HTK.out hnc (by unfold maxLen;omega) HL.out HX.out HK5.out HR5.out (by simp;omega) (by have:=HK3.out.size;simp;omega)
end Go.Proofs.YtociefdcccokjaaGreat

/-
  Lemmas for TopMacro. Conditions: each states its own.
-/
import Derived.Maps.RangeWalk
import Derived.StillTailTactics
import Derived.Test.YtociefdcccokjaaGreatG45
import Derived.Test.YtociefdcccokjaaGreatG47
import Derived.Test.YtociefdcccokjaaGreatG49
import Derived.Test.YtociefdcccokjaaGreatG50
set_option maxHeartbeats 6400000
set_option maxRecDepth 100000
namespace Go.Proofs.YtociefdcccokjaaGreat
open Go.RowKit Go.Lib
theorem own_cell {w:World}{base:Nat}{e:TypeId}{z n c:Nat}{A:Option Addr}{xs:List Value}(h:Own w base e z A n c xs)(hn:0<n):∃g,A=some ⟨g,0,none⟩∧base≤g∧n≤c∧c≤maxLen∧∀j u,xs[j]? =some u→w.cell? ⟨g,j,none⟩=some u:=by
 have hc:=h.cap;have hl:=h.len;obtain⟨_,h2⟩:=h;rcases h2 with⟨_,h0⟩|⟨g,cap,cur,hv,hb,hg,hnc,hcap,hsz,htk⟩
 ·omega
 ·cases hv
  have hbx:Bx w g cur e:=hg;refine⟨g,rfl,hb,hnc,hcap,fun j u hu=>?_⟩;have hj:j<n*z:=by rw[←hl];exact(List.getElem?_eq_some_iff.1 hu).1
  rw[←htk,List.getElem?_take_of_lt hj]at hu;rw[hbx.cell];simpa using hu
theorem tr_at {w:World}{tT ta ti:TypeId}{k tB base base' nb:Nat}{IA BA:Option Addr}{Ic Bc:Nat}{cs:List Value}{L:List Nat}{ok:Value→Prop}(hb:Bx w tB #[.int .i64 1114112,.slice IA 8704 Ic,.slice BA nb Bc] tT)
 (hr:Own w base ta (128*k) BA nb Bc cs)(ho:∀u∈cs,ok u)(hi:Own w base' ti 1 IA 8704 Ic (L.map fun x:Nat=>Value.int .i64 (x:Int)))(hL:∀x∈L,x<nb):
 ∃g:Nat→List Value,(∀i,i<1114112→(g i).length=k∧∀u∈g i,ok u)∧TrAt w tT k tB g:=by
 have hl:L.length=8704:=by have:=hi.len;simpa using this
 have hcl:=hr.len;have hpos:0<nb:=by
  have:=hL L[0] (List.getElem_mem _);omega
 obtain⟨g1,rfl,_,i1,i2,i3⟩:=own_cell hi (by omega);obtain⟨g2,rfl,_,j1,j2,j3⟩:=own_cell hr hpos;have hlx:∀q,q<8704→L[q]? =some (L[q]?.getD 0)∧L[q]?.getD 0<nb:=fun q hq=>by
  have h1:L[q]? =some L[q]:=List.getElem?_eq_getElem (by omega);rw[h1];exact⟨rfl,hL _ (List.getElem_mem _)⟩
 have hfit:∀i,i<1114112→(L[i / 128]?.getD 0)*(128*k)+i % 128*k+k≤cs.length:=fun i hi'=>by
  have h1:=(hlx (i / 128) (by omega)).2;have h2:(L[i / 128]?.getD 0+1)*(128*k)≤nb*(128*k):=Nat.mul_le_mul_right _ h1;rw[Nat.add_mul,Nat.one_mul]at h2;have h3:i % 128*k+k≤128*k:=by
   have h4:(i % 128+1)*k≤128*k:=Nat.mul_le_mul_right _ (by omega);rw[Nat.add_mul,Nat.one_mul]at h4;exact h4
  omega
 refine⟨fun i=>(cs.drop ((L[i / 128]?.getD 0)*(128*k)+i % 128*k)).take k,fun i hi'=>⟨?_,fun u hu=>ho u (List.mem_of_mem_drop (List.mem_of_mem_take hu))⟩,_,_,_,_,_,_,fun q=>L[q]?.getD 0,hb,le_,i1,i2,j1,j2,fun q hq=>?_,fun i j u hi' hj=>?_⟩
 ·have:=hfit i hi'
  rw[List.length_take,List.length_drop];omega
 ·obtain⟨h1,h2⟩:=hlx q hq
  refine⟨?_,h2⟩;have h3:=i3 q (.int .i64 ((L[q]?.getD 0:Nat):Int)) (by rw[List.getElem?_map,h1];rfl);have e:(⟨g1,0,none⟩:Addr).add q=⟨g1,q,none⟩:=by unfold Addr.add;split<;>simp_all
  rw[e];exact h3
 ·rw[List.getElem?_take]at hj
  split at hj
  ·rw[List.getElem?_drop]at hj
   rw[xN];have e:∀m,(⟨g2,0,none⟩:Addr).add m=⟨g2,m,none⟩:=fun m=>by unfold Addr.add;split<;>simp_all
   rw[e];exact j3 _ _ hj
  ·cases hj
theorem TrAt.congr {w:World}{tT:TypeId}{k tB:Nat}{g g':Nat→List Value}(h:TrAt w tT k tB g)(e:∀i,i<1114112→g' i=g i):TrAt w tT k tB g':=by
 obtain⟨ia,ba,ni,ci,nb,cb,ix,h1,h2,h3,h4,h5,h6,h7,h8⟩:=h;exact⟨ia,ba,ni,ci,nb,cb,ix,h1,h2,h3,h4,h5,h6,h7,fun i j u hi hj=>h8 i j u hi (by rw[←e i hi];exact hj)⟩
def vI (u:Value):Int:=match u with
 |.int _ x=>x
 |_=>0
def vB (u:Value):Bool:=match u with
 |.bool x=>x
 |_=>false
def gAt (g:Nat→List Value)(j:Nat)(r:Int):Value:=if 0≤r∧r<1114112 then((g r.toNat)[j]?).getD (.bool false)else .bool false
theorem xM (g:Nat→List Value)(j:Nat)(r:Int)(h:r<0∨1114112≤r):vI (gAt g j r)=0∧vB (gAt g j r)=false:=by
 unfold gAt;rw[if_neg (by omega)];exact⟨rfl,rfl⟩
theorem gAt_in (g:Nat→List Value)(j i:Nat)(h:i<1114112):gAt g j (i:Int)=((g i)[j]?).getD (.bool false):=by
 unfold gAt;rw[if_pos (by omega),Int.toNat_natCast]
section
variable {w w':World}{s nn nb:Nat}{IA BA:Option Addr}{Ic Bc:Nat}
theorem trI (h:BdI w w' s nn 8704 nb IA Ic BA Bc):∃f:Int→Int,TrAt w' 185 1 s (fun i=>[.int .i64 (f i)])∧∀r,r<0∨1114112≤r→f r=0:=by
 obtain⟨L,h1,h2⟩:=h.ix;obtain⟨cs,h3,h4⟩:=h.tr.row;obtain⟨g,hg,ht⟩:=tr_at (k:=1) h.tr.tb h3 h4 h1 h2;refine⟨fun r=>vI (gAt g 0 r),ht.congr fun i hi=>?_,fun r hr=>(xM g 0 r hr).1⟩;obtain⟨hl,ho⟩:=hg i hi;obtain⟨x0,_,e⟩:=namesI (g i) hl ho;dsimp only;rw[gAt_in g 0 i hi,e];rfl
theorem trF (h:BdF w w' s nn 8704 nb IA Ic BA Bc):∃f0 f1 f2 f3:Int→Bool,TrAt w' 200 4 s (fun i=>[.bool (f0 i),.bool (f1 i),.bool (f2 i),.bool (f3 i)])∧∀r,r<0∨1114112≤r→f0 r=false∧f1 r=false∧f2 r=false∧f3 r=false:=by
 obtain⟨L,h1,h2⟩:=h.ix;obtain⟨cs,h3,h4⟩:=h.tr.row;obtain⟨g,hg,ht⟩:=tr_at (k:=4) h.tr.tb h3 h4 h1 h2;refine⟨fun r=>vB (gAt g 0 r),fun r=>vB (gAt g 1 r),fun r=>vB (gAt g 2 r),fun r=>vB (gAt g 3 r),ht.congr fun i hi=>?_,fun r hr=>⟨(xM g 0 r hr).2,(xM g 1 r hr).2,(xM g 2 r hr).2,(xM g 3 r hr).2⟩⟩;obtain⟨hl,ho⟩:=hg i hi;obtain⟨x0,x1,x2,x3,_,e⟩:=namesF (g i) hl ho;dsimp only;rw[gAt_in g 0 i hi,gAt_in g 1 i hi,gAt_in g 2 i hi,gAt_in g 3 i hi,e];rfl
end
def spanR (r:RowV):SpanV:=⟨r.f,r.t,r.a,r.b⟩
def ofStep (kind:Int)(r:RowV)(o o':List SpanV):Prop:=(r.k≠kind∧o'=o)∨(r.k=kind∧o'.Perm (o++restM (spanR r) o)∧o'.Pairwise (fun x y=>x.f≤y.f))
def OfS (kind:Int):List RowV→List SpanV→List SpanV→Prop
 |[],o,o'=>o'=o
 |r::rs,o,o'=>∃o1,ofStep kind r o o1∧OfS kind rs o1 o'
theorem OfS.snoc {kind:Int}{r:RowV}{o1 o2:List SpanV}(h2:ofStep kind r o1 o2):∀{rs:List RowV} {o:List SpanV},OfS kind rs o o1→OfS kind (rs++[r]) o o2
 |[],o,h=>by
  have e:o1=o:=h;subst e;exact⟨o2,h2,rfl⟩
 |s::rs,o,⟨q,h1,h⟩=>⟨q,h1,OfS.snoc h2 h⟩
theorem spanR_ok {r:RowV}(h:rowOk r=true):(spanR r).Ok:=by
 unfold rowOk at h;simp at h;obtain⟨h1,h2,h3,h4,h5,h6,h7,h8,h9⟩:=h;exact⟨h3,h4,h5,h6,h7,h8,h9⟩
theorem restM_pos {s:SpanV}(hs:s.Ok)(o:List SpanV):0<(o++restM s o).length:=by
 rcases o with _|⟨x,o⟩
 ·have:=hs.ft
  simp[restM,restN,this]
 ·simp
theorem ofStep_ok {kind:Int}{r:RowV}{o o':List SpanV}(h:ofStep kind r o o')(hr:rowOk r=true)(ho:∀x∈o,x.Ok):(∀x∈o',x.Ok)∧(o'.length:Int)≤o.length+1114113:=by
 rcases h with⟨_,rfl⟩|⟨_,h,_⟩
 ·exact⟨ho,by omega⟩
 ·obtain⟨h1,h2⟩:=restM_ok (spanR_ok hr) ho
  refine⟨fun x hx=>?_,?_⟩
  ·rcases List.mem_append.1 ((h.mem_iff).1 hx)with hx|hx
   ·exact ho x hx
   ·exact h1 x hx
  ·have:=h.length_eq
   rw[List.length_append]at this;omega
def OfM (kind:Int)(rs:List RowV)(l:List SpanV):Prop:=∃o,OfS kind rs [] o∧l=joinM o
theorem RowV.c5 (l:List RowV):∀c∈l.map RowV.c,c.length=5:=by intro c hc;obtain⟨r,_,rfl⟩:=List.mem_map.1 hc;rfl
theorem rowW_get {w:World}{F:Nat→Prop}{A:Option Addr}{n c:Nat}{l:List RowV}(h:Sl w F 5 A n c (RowV.cells l)){i:Nat}{r:RowV}(hr:l[i]? =some r):∃ad,A=some ad∧w.cell? (ad.add (i*5))=some (.int .i64 r.k)∧w.cell? ⟨(ad.add (i*5)).block,(ad.add (i*5)).off+1,none⟩=some (.int .i64 r.f)∧
 w.cell? ⟨(ad.add (i*5)).block,(ad.add (i*5)).off+2,none⟩=some (.int .i64 r.t)∧w.cell? ⟨(ad.add (i*5)).block,(ad.add (i*5)).off+3,none⟩=some (.int .i64 r.a)∧w.cell? ⟨(ad.add (i*5)).block,(ad.add (i*5)).off+4,none⟩=some (.int .i64 r.b):=by
 have hl:=Sl.len h;rw[RowV.cells_len]at hl;have hk:=(List.getElem?_eq_some_iff.1 hr).1;obtain⟨ad,e,_,_,hc⟩:=Sl.at_ h (by omega);have g:=fun q (hq:q<5)=>yR (k:=5) (css:=l.map RowV.c) (i:=i) (r:=q) (c:=r.c) (RowV.c5 l) (by simp[hr]) hq
 refine⟨ad,e,hc _ _ (g 0 (by omega)),?_,?_,?_,?_⟩
 ·have:=hc _ _ (g 1 (by omega));rwa[zF _ _ 0]at this
 ·have:=hc _ _ (g 2 (by omega));rwa[zF _ _ 1]at this
 ·have:=hc _ _ (g 3 (by omega));rwa[zF _ _ 2]at this
 ·have:=hc _ _ (g 4 (by omega));rwa[zF _ _ 3]at this
structure OfSt (kind:Int)(l:List RowV)(w wr:World)(i:Nat)(A:Option Addr)(m cc:Nat)(out:List SpanV):Prop where
 of:OfS kind (l.take i) [] out
 ok:∀x∈out,x.Ok
 len:(out.length:Int)≤1114113*i
 own:Own wr w.heap.size 88 4 A m cc (SpanV.cells out)
 kp:Kp w wr
def RetOf (kind:Int)(l:List RowV)(w:World)(en:Ending)(w':World):Prop:=∃A n c ss,en=.returned (.slice A n c)∧OfM kind l ss∧(∀x∈ss,x.Ok)∧n≤2228226000∧Own w' w.heap.size 88 4 A n c (SpanV.cells ss)∧Kp w w'
theorem ofSt_skip {kind:Int}{l:List RowV}{w wr w1:World}{i:Nat}{A:Option Addr}{m cc:Nat}{out:List SpanV}{r:RowV}(h:OfSt kind l w wr i A m cc out)(hx:l[i]? =some r)(hk:r.k≠kind)(k:Kp wr w1):OfSt kind l w w1 (i+1) A m cc out:=by
 refine⟨?_,h.ok,by have:=h.len;omega,h.own.kp k,h.kp.trans k⟩;rw[List.take_add_one,hx];exact OfS.snoc (.inl ⟨hk,rfl⟩) h.of
theorem ofSt_take {kind:Int}{l:List RowV}{w wr w4 w5:World}{i:Nat}{A:Option Addr}{m cc:Nat}{out l':List SpanV}{r:RowV}{g n5 c5:Nat}(h:OfSt kind l w wr i A m cc out)(hx:l[i]? =some r)(hk:r.k=kind)(hr:rowOk r=true)(hp:l'.Perm (out++restM (spanR r) out))(hs:l'.Pairwise (fun x y=>x.f≤y.f))
 (ho:Own w5 w.heap.size 88 4 (some ⟨g,0,none⟩) n5 c5 (SpanV.cells l'))(hg:w.heap.size≤g)(k4:Kp w w4)(m5:Mu (fun k=>k=g) w4 w5):OfSt kind l w w5 (i+1) (some ⟨g,0,none⟩) n5 c5 l':=by
 have hst:ofStep kind r out l':=.inr ⟨hk,hp,hs⟩;obtain⟨h1,h2⟩:=ofStep_ok hst hr h.ok;refine⟨?_,h1,by have:=h.len;omega,ho,m5.kp k4 (fun q hq=>by omega)⟩;rw[List.take_add_one,hx];exact OfS.snoc hst h.of
theorem rowsOf_any (F:Nat→Prop)(A:Option Addr)(n c:Nat)(l:List RowV)(kind:Int)(w:World)(h:Sl w F 5 A n c (RowV.cells l))(hl:∀r∈l,rowOk r=true)(hn:n≤2000):
 Calls Tryz.prog 21 #[.slice A n c,.int .i64 kind] w (RetOf kind l w):=by
 have hll:=Sl.len h;rw[RowV.cells_len]at hll;have HLN:=hid (show l.length=n by omega);have hle:=Sl.le h;have hcap:=Sl.cap h;unfold maxLen at hcap;obtain⟨H,HR⟩:=hid2 h hl;clear h hl hll;go_enter Tryz.func21,Tryz.ntmps21;go_wp2_with fail;go_loopw [12,5] (fun v u wr=>∃(i m cc:Nat) (A1:Option Addr) (out:List SpanV),v=.int .i64 i∧u=.slice A1 m cc∧i≤n∧Hid (OfSt kind l w wr i A1 m cc out)) (fun v _ _=>n - (intOf v).toNat)
 case atStart=>exact⟨0,0,0,none,[],rfl,rfl,Nat.zero_le _,⟨rfl,by simp,by simp,Own.nil _ _ _ _,Kp.refl w⟩⟩
 case round=>
  obtain⟨i,m,cc,A1,out,rfl,rfl,hi,hst⟩:=hrel;have hlm:=hst.out.own.len;rw[SpanV.cells_len]at hlm;have hlen:=hst.out.len;have hm:m≤1114113*i:=by omega
  clear hlm hlen;by_cases hlt:i<n
  ·obtain⟨⟨rk,rf,rt,ra,rb⟩,hx⟩:∃x,l[i]? =some x:=⟨_,List.getElem?_eq_getElem (by rw[HLN.out];exact hlt)⟩
   obtain⟨ad,rfl,e0,e1,e2,e3,e4⟩:=rowW_get (Sl.kp H.out hst.out.kp) hx;have hro:=HR.out _ (List.mem_of_getElem? hx);have HRO:=hid hro;have hok:=spanR_ok hro;obtain⟨s1,s2,s3,s4,s5,s6,s7⟩:=hok;dsimp only[spanR]at s1 s2 s3 s4 s5 s6 s7;dsimp only at e0 e1 e2 e3 e4;have HX:=hid hx;clear hx hro;by_cases hk:rk=kind
   ·subst hk
    go_upto_region 8 with fail;rw[Int.max_eq_left s1,Int.min_eq_left s3];have ka:=((Kp.refl wr).alloc (.cells #[.int .i64 rk,.int .i64 rf,.int .i64 rt,.int .i64 ra,.int .i64 rb] 141)).alloc (.cells #[.int .i64 rf,.int .i64 rt,.int .i64 ra,.int .i64 rb] 88);have bX:=Bx.new (wr.alloc (.cells #[.int .i64 rk,.int .i64 rf,.int .i64 rt,.int .i64 ra,.int .i64 rb] 141)) #[.int .i64 rf,.int .i64 rt,.int .i64 ra,.int .i64 rb] 88;simp at bX;have ho1:=hst.out.own.kp ka;obtain⟨HRS,K1,HO1⟩:=hid3 (rest_any ⟨rf,rt,ra,rb⟩ _ A1 m cc out _ ho1.sl (spanR_ok HRO.out) hst.out.ok) (hst.out.kp.trans ka) ho1;have hwz:=K1.out.size;obtain⟨X,hX⟩:∃X,X=wr.heap.size+1:=⟨_,rfl⟩;rw[←hX]at bX⊢;clear e0 e1 e2 e3 e4 hX ka ho1;generalize((wr.alloc (.cells #[.int .i64 rk,.int .i64 rf,.int .i64 rt,.int .i64 ra,.int .i64 rb] 141)).alloc (.cells #[.int .i64 rf,.int .i64 rt,.int .i64 ra,.int .i64 rb] 88))=w1 at *;obtain⟨y0,y1,y2,y3,y4,y5,y6,y7⟩:=bX.four;obtain⟨hrl1,hrl2⟩:=restM_ok (spanR_ok HRO.out) hst.out.ok;obtain⟨HRL,HRP,HSP⟩:=hid3 hrl2 (restM_pos (spanR_ok HRO.out) out) (show spanR ⟨rk,rf,rt,ra,rb⟩=⟨rf,rt,ra,rb⟩from rfl);rw[HSP.out]at HRL HRP;clear hrl1 hrl2;generalize hRS:restM ⟨rf,rt,ra,rb⟩ out=rs at *;have HRSE:=hid hRS;clear hRS;go_upto_region 9 with(first|(go_at_call 53;refine HRS.out.mono ?_;rintro en w2 ⟨A2,n2,c2,rfl,ho2,k2⟩;have hn2:n2≤1114113:=(by have h1:=ho2.len;rw[SpanV.cells_len]at h1;have:=HRL.out;omega);have hz2:=k2.size)|(at_builtin;refine zA _ rfl _ _ _ rfl w.heap.size 88 _ 4 32 Tryz.underlying85 infoSpan rfl (by omega) A1 m cc (SpanV.cells out) rfl (HO1.out.kp k2) _ A2 n2 c2 (SpanV.cells rs) rfl ho2.sl (SpanV.cells_one _) (by simp only[maxLen];omega) (by omega) (by omega) ?_;intro A4 c4 w4 ho4 hg4 hat4));rw[←SpanV.cells_app]at ho4;have K4:=hid ((K1.out.trans k2).grown hg4 fun g e=>(HO1.out.lt g e).1);have hpos:0<m+n2:=by
     have h1:=ho4.len;rw[SpanV.cells_len]at h1;have:=HRP.out;omega
    obtain⟨g4,q4,hv4,hgb,hgl⟩:=World.ownsRow.form ho4 hpos;cases hv4
    obtain⟨HSO,HGB⟩:=hid2 (sortSp_any w4 w.heap.size g4 (m+n2) c4 _ ho4 (by omega)) hgb;clear ho4 hg4 hat4 ho2 k2 hz2 bX y0 y1 y2 y3 y4 y5 y6 y7 hgl;go_wp2_with (go_at_call 54;refine HSO.out.mono ?_;rintro en w5 ⟨rfl,l',hp,hs,ho5,m5⟩);have hst2:=hid (ofSt_take hst.out HX.out rfl HRO.out (by rw[HSP.out,HRSE.out];exact hp) hs ho5 HGB.out K4.out m5);exact⟨⟨i+1,m+n2,c4,_,l',by simp,rfl,hlt,hst2⟩,by simp[intOf];omega⟩
   ·have hst2:=hid (ofSt_skip hst.out HX.out hk ((Kp.refl wr).alloc (.cells #[.int .i64 rk,.int .i64 rf,.int .i64 rt,.int .i64 ra,.int .i64 rb] 141)))
    go_wp2_with fail;exact⟨⟨i+1,m,cc,A1,out,by simp,rfl,hlt,hst2⟩,by simp[intOf];omega⟩
  ·obtain rfl:i=n:=by omega
   have HOF:=hid hst.out.of;rw[List.take_of_length_le (by rw[HLN.out];exact le_)]at HOF;obtain⟨HJ,HJO⟩:=hid2 (joined_any _ A1 m cc out wr hst.out.own.sl hst.out.ok (by omega)) (joinM_ok out hst.out.ok out.length le_);rw[List.take_length]at HJO;have hlm:=hst.out.own.len;rw[SpanV.cells_len]at hlm;have HLM:=hid (show out.length=m by omega);clear hlm;go_wp2_with (go_at_call 55;refine HJ.out.mono ?_;rintro en w2 ⟨A2,n2,c2,rfl,ho2,k2⟩);go_ret;have hz:=hst.out.kp.size;refine⟨A2,n2,c2,joinM out,rfl,⟨out,HOF.out,rfl⟩,HJO.out.1,?_,ho2.more hz,hst.out.kp.trans k2⟩;have h1:=ho2.len;rw[SpanV.cells_len]at h1;have:=HJO.out.2;have:=HLM.out;omega
theorem infoPcI:(Tryz.prog.info? 121).map (fun i=>(i.zero,i.size,i.bytes))=some (some (.agg #[.int .i64 0,.int .i64 0,.int .i64 0]),3,24):=by kernel_rfl
def PcsI (w wr:World)(A:Option Addr)(i c:Nat):Prop:=∃ps:List (List Value),Own wr w.heap.size 121 3 A i c ps.flatten∧ps.length=i∧∀p∈ps,∃(fr tt:Int) (cs:List Value),p=.int .i64 fr:: .int .i64 tt::cs∧cs.length=1∧∀u∈cs,okI u
def RetNum (w:World)(en:Ending)(w':World):Prop:=∃(tB:Nat) (f:Int→Int),en=.returned (.pointer (some ⟨tB,0,none⟩))∧TrAt w' 185 1 tB (fun i=>[.int .i64 (f i)])∧(∀r,r<0∨1114112≤r→f r=0)∧w.heap.size≤tB∧Kp w w'
theorem numbers_any (F:Nat→Prop)(A:Option Addr)(n c:Nat)(l:List RowV)(kind:Int)(w:World)(h:Sl w F 5 A n c (RowV.cells l))(hl:∀r∈l,rowOk r=true)(hn:n≤2000):
 Calls Tryz.prog 19 #[.slice A n c,.int .i64 kind] w (RetNum w):=by
 have HO:=hid (rowsOf_any F A n c l kind w h hl hn);clear h hl;go_enter Tryz.func19,Tryz.ntmps19;go_upto_region 2 with fail;go_wp2_with (go_at_call 21;refine HO.out.mono ?_;rintro en w1 ⟨B,m,d,ss,rfl,hof,hok,hm,hs1,k1⟩;have hcap1:=hs1.cap);have hcap:=hcap1;unfold maxLen at hcap;obtain⟨HS,HOK,K1,HLN⟩:=hid4 (show SpW w1 (From w.heap.size) B m d ss from hs1.sl) hok k1 (show ss.length=m by have:=hs1.len;rw[SpanV.cells_len]at this;omega);clear hof hok hs1 k1 HO hcap1;go_loopw [12,5] (fun v u wr=>∃(i cc:Nat) (A1:Option Addr),v=.int .i64 i∧u=.slice A1 i cc∧i≤m∧Hid (Kp w1 wr)∧Hid (PcsI w1 wr A1 i cc)) (fun v _ _=>m - (intOf v).toNat)
 case atStart=>exact⟨0,0,none,rfl,rfl,Nat.zero_le _,Kp.refl _,[],Own.nil _ _ _ _,rfl,fun p hp=>by simp at hp⟩
 case round=>
  obtain⟨i,cc,A1,rfl,rfl,hi,kr,hps⟩:=hrel;by_cases hlt:i<m
  ·obtain⟨⟨xf,xt,xa,xb⟩,hx⟩:∃x,ss[i]? =some x:=⟨_,List.getElem?_eq_getElem (by rw[HLN.out];exact hlt)⟩
   obtain⟨ad,rfl,e0,e1,e2,e3⟩:=SpW.get (HS.out.kp kr.out) hx;obtain⟨x1,x2,x3,x4,x5,x6,x7⟩:=HOK.out _ (List.mem_of_getElem? hx);dsimp only at e0 e1 e2 e3 x1 x2 x3 x4 x5 x6 x7;clear hx;go_upto_region 5 with fail;have ka:=(Kp.refl wr).alloc (.cells #[.int .i64 xf,.int .i64 xt,.int .i64 xa,.int .i64 xb] 88);have bX:=Bx.new wr #[.int .i64 xf,.int .i64 xt,.int .i64 xa,.int .i64 xb] 88;obtain⟨ps,hp1,hp2,hp3⟩:=hps.out;obtain⟨HP1,HP2,HP3,KR⟩:=hid4 (hp1.kp ka) hp2 hp3 (kr.out.trans ka);have hwz:=KR.out.size;obtain⟨X,hX⟩:∃X,X=wr.heap.size:=⟨_,rfl⟩;rw[←hX]at bX⊢;clear e0 e1 e2 e3 hX ka hp1 hp2 hp3 hps kr;generalize(wr.alloc (.cells #[.int .i64 xf,.int .i64 xt,.int .i64 xa,.int .i64 xb] 88))=w2 at *;obtain⟨y0,y1,y2,y3,y4,y5,y6,y7⟩:=bX.four;go_wp2_with (at_builtin;refine zA _ rfl _ _ _ rfl w1.heap.size 121 _ 3 24 Tryz.underlying119 infoPcI rfl (by omega) A1 i cc ps.flatten rfl (HP1.out.alloc _) Any _ 1 1 [.int .i64 xf,.int .i64 xt,.int .i64 xa] rfl (Sl.new w2 #[.int .i64 xf,.int .i64 xt,.int .i64 xa] _ 3 1 trivial rfl (by omega)) (by simp[Value.oneCell']) (by simp only[maxLen];omega) (by omega) (by simp;omega) ?_;intro A4 c4 w4 ho4 hg4 hat4);have hq4:PcsI w1 w4 A4 (i+1) c4:=⟨ps++[[.int .i64 xf,.int .i64 xt,.int .i64 xa]],by rw[List.flatten_append];simpa using ho4,by simp[HP2.out],fun p hp=>by
    rcases List.mem_append.1 hp with hp|hp
    ·exact HP3.out p hp
    ·rw[List.mem_singleton]at hp
     rw[hp];exact⟨xf,xt,[.int .i64 xa],rfl,rfl,fun u hu=>by rw[List.mem_singleton]at hu;exact⟨xa,hu,by omega,by omega⟩⟩⟩
   exact⟨⟨i+1,c4,A4,by simp,rfl,hlt,(KR.out.alloc _).grown hg4 fun g e=>(HP1.out.lt g e).1,hq4⟩,by simp[intOf];omega⟩
  ·obtain rfl:i=m:=by omega
   obtain⟨ps,hp1,hp2,hp3⟩:=hps.out;have HB:=hid (buildQI A1 i cc (.int .i64 0) [.int .i64 0] wr ⟨ps,hp1.sl.any,hp2,hp3⟩ ⟨0,by omega,rfl,rfl⟩ (by omega));clear hps hp1 hp2 hp3;go_wp2_with (go_at_call 46;refine HB.out.mono ?_;rintro en w5 ⟨tB,nb,nn,s,IA,Ic,BA,Bc,rfl,rfl,hs,hbd⟩);go_ret;obtain⟨f,h1,h2⟩:=trI hbd;have k5:=K1.out.trans kr.out;have:=k5.size;exact⟨tB,f,rfl,h1,h2,by omega,k5.trans hbd.kp⟩
def SpV (w:World)(v:Value):Prop:=∃A n c ss,v=.slice A n c∧SpW w Any A n c ss∧(∀x∈ss,x.Ok)∧n≤2228226000
theorem lawInt:Maps.Keyed Tryz.prog 3:=Maps.int_keyed Tryz.underlying3
theorem keyInt {x:Int}(h0:0≤x)(h1:x≤1114112):keyOf Tryz.prog 3 (.int .i64 x)=some (.int .i64 x):=Maps.keyOf_int_mk Tryz.underlying3 (WalkArith.wf_i64 ⟨by omega,by omega⟩)
def KeysOk (D:DataW Value):Prop:=∀kl,Maps.has D kl=true→∃i:Int,kl=.int .i64 i∧0≤i∧i≤1114112
theorem KeysOk.nil:KeysOk (.map []):=by intro kl h;simp[Maps.has]at h
theorem KeysOk.put {D:DataW Value}(h:KeysOk D){i:Int}(h0:0≤i)(h1:i≤1114112)(d:DataW Value):KeysOk (D.put (.int .i64 i) d):=by
 intro kl hk;by_cases e:kl=.int .i64 i
 ·exact⟨i,e,h0,h1⟩
 ·rw[Maps.has_put_other e]at hk
  exact h kl hk
def CutSt (w wr:World)(N:Nat):Prop:=∃D,wr.ownsMap Tryz.prog 3 heldR w.heap.size N D∧KeysOk D∧Kp w wr
theorem CutSt.kp {w wr w':World}{N:Nat}(h:CutSt w wr N)(k:Kp wr w'):CutSt w w' N:=by
 obtain⟨D,h1,h2,h3⟩:=h;exact⟨D,xZ h1 k,h2,h3.trans k⟩
theorem CutSt.mono {w wr:World}{N M:Nat}(h:CutSt w wr N)(k:N≤M):CutSt w wr M:=by
 obtain⟨D,h1,h2,h3⟩:=h;exact⟨D,h1.mono k,h2,h3⟩
def RetCut (w:World)(en:Ending)(w':World):Prop:=∃A n c xs,en=.returned (.slice A n c)∧Own w' w.heap.size 3 1 A n c (R64 xs)∧(∀x∈xs,0≤x∧x≤1114112)∧n≤1099511627776∧Kp w w'
theorem cut_step {w wr:World}{N:Nat}{D:DataW Value}{i:Int}(hown:wr.ownsMap Tryz.prog 3 heldR w.heap.size N D)(hk:KeysOk D)(kp:Kp w wr)(hN:N<140737488355328)(h0:0≤i)(h1:i≤1114112):
 ∃w',(Instr.mapUpdate 195 (.map (some w.heap.size)) (.int .i64 i) (.bool true)).run Tryz.prog wr=.ok () w'∧CutSt w w' (N+1)∧wr.grownBy w' (some w.heap.size):=by
 obtain⟨w',h2,h3,h4⟩:=hown.update lawInt Tryz.underlying195 (by unfold maxLen;omega) (keyInt h0 h1) (val:=.bool true) (d:=.held (.bool true)) (ps:=[]) rfl;exact⟨w',h2,⟨_,h3,hk.put h0 h1 _,kp.grown h4 fun g e=>by cases e;exact le_⟩,h4⟩
theorem CutSt.step {w wr:World}{N:Nat}{i:Int}(h:CutSt w wr N)(hN:N<140737488355328)(h0:0≤i)(h1:i≤1114112):
 ∃w',(Instr.mapUpdate 195 (.map (some w.heap.size)) (.int .i64 i) (.bool true)).run Tryz.prog wr=.ok () w'∧CutSt w w' (N+1)∧wr.grownBy w' (some w.heap.size):=by
 obtain⟨D,a,b,c⟩:=h;exact cut_step a b c hN h0 h1
theorem cut_any (A:Option Addr)(n c:Nat)(vs:List Value)(w:World)(h:Sl w Any 1 A n c vs)(hv:∀v∈vs,SpV w v)(hn:n≤4):
 Calls Tryz.prog 47 #[.slice A n c] w (RetCut w):=by
 have hll:=Sl.len h;obtain⟨H,HV⟩:=hid2 h hv;have hmm:=@run_makeMap Tryz.prog;have hle:=Sl.le h;have hcap:=Sl.cap h;unfold maxLen at hcap;obtain⟨w1,hrun,hst,_⟩:=cut_step (i:=0) (World.ownsMap_made w Tryz.prog 3 heldR) KeysOk.nil ((Kp.refl w).alloc _) (by omega) (by omega) (by omega);have HST:=hid hst;clear h hv hst;go_enter Tryz.func47,Tryz.ntmps47;go_upto_region 3 with fail;go_loopw [14] (fun v wr=>∃i:Nat,v=.int .i64 i∧i≤n∧Hid (CutSt w wr (1+i*4456452000))) (fun v _=>n - (intOf v).toNat)
 case atStart=>exact⟨0,rfl,Nat.zero_le _,CutSt.mono HST.out (by omega)⟩
 case round=>
  obtain⟨i,rfl,hi,hst⟩:=hrel;by_cases hlt:i<n
  ·have hst':=hst.out
   obtain⟨D0,_,_,kr⟩:=hst';obtain⟨ad,u,rfl,hu,hc⟩:=Sl.get (H.out.kp kr) hlt;obtain⟨B,m,d,ss,rfl,hs,hok,hm⟩:=HV.out u (List.mem_of_getElem? hu);have hlm:=hs.len;have hlem:=Sl.le hs;have hcapm:=Sl.cap hs;unfold maxLen at hcapm;obtain⟨HS,HOK,HLN⟩:=hid3 hs hok hlm;clear hs hok hlm;go_upto_region 6 with fail;clear hc kr;go_loopw [20] (fun v wr=>∃j:Nat,v=.int .i64 j∧j≤m∧Hid (CutSt w wr (1+i*4456452000+j*2))) (fun v _=>m - (intOf v).toNat)
   case atStart=>exact⟨0,rfl,Nat.zero_le _,CutSt.mono hst.out (by omega)⟩
   case round=>
    obtain⟨j,rfl,hj,hsq⟩:=hrel;by_cases hjm:j<m
    ·obtain⟨⟨xf,xt,xa,xb⟩,hx⟩:∃x,ss[j]? =some x:=⟨_,List.getElem?_eq_getElem (by rw[HLN.out];exact hjm)⟩
     have hsq':=hsq.out;obtain⟨D1,hm1,_,kq⟩:=hsq';obtain⟨ae,rfl,e0,e1,e2,e3⟩:=SpW.get (HS.out.kp kq) hx;obtain⟨x1,x2,x3,x4,x5,x6,x7⟩:=HOK.out _ (List.mem_of_getElem? hx);dsimp only at e0 e1 e2 e3 x1 x2 x3 x4 x5 x6 x7;clear hx;go_upto_region 8 with fail;have ka:=(Kp.refl wr).alloc (.cells #[.int .i64 xf,.int .i64 xt,.int .i64 xa,.int .i64 xb] 88);have bX:=Bx.new wr #[.int .i64 xf,.int .i64 xt,.int .i64 xa,.int .i64 xb] 88;have s2:=hsq.out.kp ka;have hmlt:=hm1.lt;obtain⟨X,hX⟩:∃X,X=wr.heap.size:=⟨_,rfl⟩;rw[←hX]at bX hmlt⊢;clear e0 e1 e2 e3 hX ka kq hm1;generalize(wr.alloc (.cells #[.int .i64 xf,.int .i64 xt,.int .i64 xa,.int .i64 xb] 88))=w2 at *;obtain⟨y0,y1,y2,y3,y4,y5,y6,y7⟩:=bX.four;have hmX:some w.heap.size≠some X:=fun e=>by cases e;exact Nat.lt_irrefl _ hmlt
     have hlit:IntKind.i64.wrap (xt+1)=xt+1:=zV (by omega) (by omega);obtain⟨w3,r3,s3,g3⟩:=CutSt.step (i:=xf) (s2.kp (Kp.refl w2).drew) (by omega) (by omega) (by omega);obtain⟨z0,z1,z2,z3,z4,z5,z6,z7⟩:=(bX.drew.grown g3 hmX).four;obtain⟨w4,r4,s4,g4⟩:=CutSt.step (i:=xt+1) s3 (by omega) (by omega) (by omega);have S4:=hid (s4.mono (show _≤1+i*4456452000+(j+1)*2 by omega));clear s2 s3 s4 g3 g4 hmX hmlt bX;go_region
     all_goals(go_wp2_with fail;exact⟨⟨j+1,by simp,hjm,S4.out⟩,by simp[intOf];omega⟩)
    ·obtain rfl:j=m:=by omega
     go_wp2_with fail;exact⟨⟨i+1,by simp,hlt,CutSt.mono hsq.out (by omega)⟩,by simp[intOf];omega⟩
  ·obtain rfl:i=n:=by omega
   obtain⟨D,hown,hk,kr⟩:=hst.out;have hsz:=World.ownsMap.size_le hown;obtain⟨HK,KR⟩:=hid2 hk kr;obtain⟨NN,hNN⟩:∃NN:Nat,NN=1+i*4456452000:=⟨_,rfl⟩;have HNN:=hid (show NN≤17825808001 by omega);rw[←hNN]at hown hsz;have HSZ:=hid hsz;clear hNN hst hk hsz HST H HV hrun;go_wp2_with (at_range;refine wpList_range_own _ rfl _ 195 rfl 3 4 lawInt Tryz.underlying195 _ w.heap.size NN _ rfl hown ?_;intro w0 hrg0 hg0 hs0);go_frame;have hwz:=KR.out.size;have hml:=hown.lt;have K0:=hid (KR.out.grown hg0 fun g e=>by cases e);obtain⟨it,hit⟩:∃it,it=wr.heap.size:=⟨_,rfl⟩;rw[←hit]at hrg0 hml⊢;clear hown hg0 hit hs0 hwz;go_loopw [8] (fun v wr=>∃(q cc cnt:Nat) (A1:Option Addr) (xs:List Int) (left:Lit→Bool),v=.slice A1 q cc∧Hid (wr.ranges Tryz.prog 3 heldR w.heap.size it NN D left cnt)∧q+cnt≤NN∧Hid (∀kl,left kl=true→Maps.has D kl=true)∧Hid (Own wr (it+1) 3 1 A1 q cc (R64 xs))∧Hid (∀x∈xs,0≤x∧x≤1114112)∧Hid (Kp w wr)) (fun _ wr=>wr.rangeLeft w.heap.size it)
   case atStart=>exact⟨0,0,_,none,[],_,rfl,hrg0,by simpa using HSZ.out,fun _ h=>h,Own.nil _ _ _ _,fun _ h=>by simp at h,K0.out⟩
   case round=>
    obtain⟨q,cc,cnt,A1,xs,left,rfl,hrg,hq,hleft,hown,hxs,kr⟩:=hrel;have hqn:=HNN.out;go_wp2_with (at_next;refine wpList_next_ranges _ rfl _ rfl 3 lawInt heldR (fun x:Int=>Value.int .i64 x) (id:Value→Value) (fun key kl hkey=>by obtain⟨x,e,_⟩:=Maps.keyOf_int_inv Tryz.underlying3 hkey;exact⟨x,e⟩) (fun v y _=>⟨v,rfl⟩) w.heap.size it NN D left cnt rfl hrg.out ?_ ?_)
    ·intro hc0 hl0
     go_wp2;go_ret;have:=KR.out.size;exact⟨A1,q,cc,xs,rfl,hown.out.more (by omega),hxs.out,by omega,kr.out⟩
    ·intro x v kl y y' w1 cnt1 hkey hlk hv2 hat hrg1 hlt1 hg1 hs1 hen
     obtain⟨x',ex,ekl,_⟩:=Maps.keyOf_int_inv Tryz.underlying3 hkey;cases ex
     subst ekl;obtain⟨x',ekl,hx0,hx1⟩:=HK.out _ (hleft.out _ hlk);cases ekl
     have ho1:=hown.out.grown hg1 (fun g e e'=>by cases e';have:=(hown.out.lt _ e).1;omega);have hrsz:=hrg1.lt;obtain⟨HRG,HO1,HG1⟩:=hid3 hrg1 ho1 hg1;clear hrg1 ho1 hg1 hs1;go_wp2_with (at_builtin;(refine zA _ rfl _ _ _ rfl (it+1) 3 _ 1 8 Tryz.underlying126 infoIntI rfl (by omega) A1 q cc (R64 xs) rfl (HO1.out.alloc _) Any _ 1 1 [.int .i64 x] rfl (Sl.new w1 #[.int .i64 x] _ 1 1 trivial rfl (by omega)) (by simp[Value.oneCell']) (by simp only[maxLen];omega) (by omega) (by simp;omega) ?_;intro A4 c4 w4 hown4 hg4 hat4));have hz1:=KR.out.size;have hne:∀g,zB A1=some g→it<g:=fun g e=>by have:=(HO1.out.lt g e).1;omega
     have hrg4:=(HRG.out.alloc _).kept hg4 (fun e=>by have:=hne _ e.symm;omega) (fun e=>by have:=hne _ e.symm;omega);refine⟨⟨q+1,c4,cnt1,A4,xs++[x],_,rfl,hrg4,by omega,fun kl h=>hleft.out kl ?_,by rw[←xJ];exact hown4,?_,?_⟩,?_⟩
     ·simp only[Bool.and_eq_true]at h
      exact h.1
     ·intro y hy
      rcases List.mem_append.1 hy with hy|hy
      ·exact hxs.out y hy
      ·rw[List.mem_singleton]at hy
       subst hy;exact⟨hx0,hx1⟩
     ·exact((kr.out.grown HG1.out (fun g e=>by cases e;omega)).alloc _).grown hg4 fun g e=>by have:=hne g e;omega
     ·rw[hrg4.left_eq,hrg.out.left_eq]
      exact hlt1
theorem idx4 {A0 A1 A2 A3:Option Addr}{n0 c0 n1 c1 n2 c2 n3 c3:Nat}(w:World):(Instr.index 124 (.agg #[.slice A0 n0 c0,.slice A1 n1 c1,.slice A2 n2 c2,.slice A3 n3 c3]) (.int .i64 0)).run Tryz.prog w=.ok (.slice A0 n0 c0) w∧
 (Instr.index 124 (.agg #[.slice A0 n0 c0,.slice A1 n1 c1,.slice A2 n2 c2,.slice A3 n3 c3]) (.int .i64 1)).run Tryz.prog w=.ok (.slice A1 n1 c1) w∧
 (Instr.index 124 (.agg #[.slice A0 n0 c0,.slice A1 n1 c1,.slice A2 n2 c2,.slice A3 n3 c3]) (.int .i64 2)).run Tryz.prog w=.ok (.slice A2 n2 c2) w∧
 (Instr.index 124 (.agg #[.slice A0 n0 c0,.slice A1 n1 c1,.slice A2 n2 c2,.slice A3 n3 c3]) (.int .i64 3)).run Tryz.prog w=.ok (.slice A3 n3 c3) w:=by
 refine⟨?_,?_,?_,?_⟩<;>kernel_rfl
theorem upto_any (x l:Int)(v0 v1 v2 v3:Value)(w:World)(h0:SpV w v0)(h1:SpV w v1)(h2:SpV w v2)(h3:SpV w v3)(hl0:0≤l)(hl1:l≤1114111)(hx:0≤x):
 Calls Tryz.prog 49 #[.int .i64 x,.int .i64 l,.agg #[v0,v1,v2,v3]] w fun en w'=>(∃r:Int,en=.returned (.int .i64 r)∧0≤r∧r≤1114111)∧Kp w w':=by
 obtain⟨vs,hvs⟩:∃vs,vs=[v0,v1,v2,v3]:=⟨_,rfl⟩;have HV:=hid (show∀v∈vs,SpV w v by
  intro v hv;rw[hvs]at hv;simp at hv;rcases hv with rfl|rfl|rfl|rfl<;>assumption)
 obtain⟨A0,n0,c0,s0,e0,-⟩:=id h0;obtain⟨A1,n1,c1,s1,e1,-⟩:=id h1;obtain⟨A2,n2,c2,s2,e2,-⟩:=id h2;obtain⟨A3,n3,c3,s3,e3,-⟩:=id h3;clear h0 h1 h2 h3;subst e0 e1 e2 e3;have HVS:=hid hvs;clear hvs;go_enter Tryz.func49,Tryz.ntmps49;go_upto_region 2 with fail;have KA:=hid ((Kp.refl w).alloc (.cells #[.slice A0 n0 c0,.slice A1 n1 c1,.slice A2 n2 c2,.slice A3 n3 c3] 124));go_loopw [1,12] (fun lv v wr=>∃(i:Nat) (r:Int),v=.int .i64 i∧lv=.int .i64 r∧i≤4∧0≤r∧r≤1114111∧Hid (Kp w wr)) (fun _ v _=>4 - (intOf v).toNat)
 case atStart=>exact⟨0,l,rfl,rfl,by omega,hl0,hl1,KA.out⟩
 case round=>
  obtain⟨i,r,rfl,rfl,hi,hr0,hr1,kr⟩:=hrel;by_cases hlt:i<4
  ·go_upto_region 3 with fail
   go_cut [8,14] (fun v _ wx=>Hid (∃u∈vs,u=v)∧wx=wr)
   case first=>
    obtain⟨i0,i1,i2,i3⟩:=idx4 (A0:=A0) (A1:=A1) (A2:=A2) (A3:=A3) (n0:=n0) (n1:=n1) (n2:=n2) (n3:=n3) (c0:=c0) (c1:=c1) (c2:=c2) (c3:=c3) wr;obtain rfl|rfl|rfl|rfl:i=0∨i=1∨i=2∨i=3:=by omega
    all_goals(go_wp2_with fail;go_meet;exact⟨⟨_,by rw[HVS.out];simp,rfl⟩,rfl⟩)
   obtain⟨hu1,rfl⟩:=hcut;obtain⟨uu,hu2,rfl⟩:=hu1.out;obtain⟨B,m,d,ss,rfl,hs,hok,hm⟩:=HV.out uu hu2;clear hu1;have hlm:=hs.len;have hlem:=Sl.le hs;have hcapm:=Sl.cap hs;unfold maxLen at hcapm;obtain⟨HS,HOK,HLN⟩:=hid3 hs hok hlm;clear hs hok hlm hu2;go_upto_region 5 with fail;go_loopw [1,17] (fun lv v wr=>∃(j:Nat) (r:Int),v=.int .i64 j∧lv=.int .i64 r∧j≤m∧0≤r∧r≤1114111∧Hid (Kp w wr)) (fun _ v _=>m - (intOf v).toNat)
   case atStart=>exact⟨0,r,rfl,rfl,Nat.zero_le _,hr0,hr1,kr⟩
   case round=>
    obtain⟨j,r,rfl,rfl,hj,hr0,hr1,kr⟩:=hrel;by_cases hjm:j<m
    ·obtain⟨⟨xf,xt,xa,xb⟩,hx⟩:∃x,ss[j]? =some x:=⟨_,List.getElem?_eq_getElem (by rw[HLN.out];exact hjm)⟩
     obtain⟨ae,rfl,e0,e1,e2,e3⟩:=SpW.get (HS.out.kp kr.out) hx;obtain⟨x1,x2,x3,x4,x5,x6,x7⟩:=HOK.out _ (List.mem_of_getElem? hx);dsimp only at e0 e1 e2 e3 x1 x2 x3 x4 x5 x6 x7;clear hx;go_upto_region 7 with fail;have ka:=(Kp.refl wr).alloc (.cells #[.int .i64 xf,.int .i64 xt,.int .i64 xa,.int .i64 xb] 88);have bX:=Bx.new wr #[.int .i64 xf,.int .i64 xt,.int .i64 xa,.int .i64 xb] 88;have K2:=hid (kr.out.trans ka);obtain⟨X,hX⟩:∃X,X=wr.heap.size:=⟨_,rfl⟩;rw[←hX]at bX⊢;clear e0 e1 e2 e3 hX ka;generalize(wr.alloc (.cells #[.int .i64 xf,.int .i64 xt,.int .i64 xa,.int .i64 xb] 88))=w2 at *;obtain⟨y0,y1,y2,y3,y4,y5,y6,y7⟩:=bX.four;by_cases hc1:x<xf
     ·by_cases hc2:xf≤r
      ·go_wp2_with fail
       exact⟨⟨j+1,xf - 1,by simp,rfl,hjm,by omega,by omega,K2.out⟩,by simp[intOf];omega⟩
      ·go_wp2_with fail
       exact⟨⟨j+1,r,by simp,rfl,hjm,hr0,hr1,K2.out⟩,by simp[intOf];omega⟩
     ·go_wp2_with fail
      exact⟨⟨j+1,r,by simp,rfl,hjm,hr0,hr1,K2.out⟩,by simp[intOf];omega⟩
    ·obtain rfl:j=m:=by omega
     go_wp2_with fail;exact⟨⟨i+1,r,by simp,rfl,hlt,hr0,hr1,kr.out⟩,by simp[intOf];omega⟩
  ·obtain rfl:i=4:=by omega
   go_wp2_with fail;go_ret;exact⟨⟨r,rfl,hr0,hr1⟩,kr.out⟩
theorem SpV.nil (w:World):SpV w (.slice none 0 0):=⟨none,0,0,[],rfl,Sl.nil _ _ _,by simp,by omega⟩
theorem idxK (w:World):(Instr.index 123 (.agg #[.int .i64 5,.int .i64 7,.int .i64 8,.int .i64 3]) (.int .i64 0)).run Tryz.prog w=.ok (.int .i64 5) w∧
 (Instr.index 123 (.agg #[.int .i64 5,.int .i64 7,.int .i64 8,.int .i64 3]) (.int .i64 1)).run Tryz.prog w=.ok (.int .i64 7) w∧
 (Instr.index 123 (.agg #[.int .i64 5,.int .i64 7,.int .i64 8,.int .i64 3]) (.int .i64 2)).run Tryz.prog w=.ok (.int .i64 8) w∧
 (Instr.index 123 (.agg #[.int .i64 5,.int .i64 7,.int .i64 8,.int .i64 3]) (.int .i64 3)).run Tryz.prog w=.ok (.int .i64 3) w:=by
 refine⟨?_,?_,?_,?_⟩<;>kernel_rfl
def SpF (S:Nat)(w:World)(v:Value):Prop:=∃A n c ss,v=.slice A n c∧SpW w (From (S+1)) A n c ss∧(∀x∈ss,x.Ok)∧n≤2228226000
theorem SpF.v {S:Nat}{w:World}{v:Value}(h:SpF S w v):SpV w v:=by
 obtain⟨A,n,c,ss,e,h1,h2⟩:=h;exact⟨A,n,c,ss,e,Sl.any h1,h2⟩
theorem SpF.kp {S:Nat}{w w':World}{v:Value}(h:SpF S w v)(k:Kp w w'):SpF S w' v:=by
 obtain⟨A,n,c,ss,e,h1,h2⟩:=h;exact⟨A,n,c,ss,e,h1.kp k,h2⟩
theorem SpF.set {S:Nat}{w:World}{v:Value}(h:SpF S w v)(i:Nat)(u:Value):SpF S (w.setCell ⟨S,i,none⟩ u) v:=by
 obtain⟨A,n,c,ss,e,h1,h2⟩:=h;exact⟨A,n,c,ss,e,Sl.setCell (p:=⟨S,i,none⟩) h1 (fun h=>Nat.not_succ_le_self S h) u,h2⟩
theorem SpF.nil (S:Nat)(w:World):SpF S w (.slice none 0 0):=⟨none,0,0,[],rfl,Sl.nil _ _ _,by simp,by omega⟩
structure Sp4 (S:Nat)(w wr:World)(v0 v1 v2 v3:Value):Prop where
 s0:SpF S wr v0
 s1:SpF S wr v1
 s2:SpF S wr v2
 s3:SpF S wr v3
 bx:Bx wr S #[v0,v1,v2,v3] 124
 kp:Kp w wr
theorem Sp4.kp' {S:Nat}{w wr w':World}{v0 v1 v2 v3:Value}(h:Sp4 S w wr v0 v1 v2 v3)(k:Kp wr w'):Sp4 S w w' v0 v1 v2 v3:=⟨h.s0.kp k,h.s1.kp k,h.s2.kp k,h.s3.kp k,h.bx.kp k,h.kp.trans k⟩
theorem Sp4.set {S:Nat}{w wr:World}{v0 v1 v2 v3:Value}(h:Sp4 S w wr v0 v1 v2 v3)(hS:w.heap.size≤S){u:Value}(hu:SpF S wr u):Sp4 S w (wr.setCell ⟨S,0,none⟩ u) u v1 v2 v3∧Sp4 S w (wr.setCell ⟨S,1,none⟩ u) v0 u v2 v3∧Sp4 S w (wr.setCell ⟨S,2,none⟩ u) v0 v1 u v3∧Sp4 S w (wr.setCell ⟨S,3,none⟩ u) v0 v1 v2 u:=by
 have k:=fun i=>h.kp.setCell (p:=⟨S,i,none⟩) hS u
 refine⟨⟨hu.set 0 u,h.s1.set 0 u,h.s2.set 0 u,h.s3.set 0 u,?_,k 0⟩,⟨h.s0.set 1 u,hu.set 1 u,h.s2.set 1 u,h.s3.set 1 u,?_,k 1⟩,⟨h.s0.set 2 u,h.s1.set 2 u,hu.set 2 u,h.s3.set 2 u,?_,k 2⟩,⟨h.s0.set 3 u,h.s1.set 3 u,h.s2.set 3 u,hu.set 3 u,?_,k 3⟩⟩
 ·simpa using h.bx.set 0 u
 ·simpa using h.bx.set 1 u
 ·simpa using h.bx.set 2 u
 ·simpa using h.bx.set 3 u
theorem infoPcF:(Tryz.prog.info? 136).map (fun i=>(i.zero,i.size,i.bytes))=some (some (.agg #[.int .i64 0,.int .i64 0,.bool false,.bool false,.bool false,.bool false]),6,24):=by kernel_rfl
def PcsF (w wr:World)(A:Option Addr)(i c:Nat):Prop:=∃ps:List (List Value),Own wr w.heap.size 136 6 A i c ps.flatten∧ps.length=i∧∀p∈ps,∃(fr tt:Int) (cs:List Value),p=.int .i64 fr:: .int .i64 tt::cs∧cs.length=4∧∀u∈cs,okF u
theorem PcsF.kp {w wr w':World}{A:Option Addr}{i c:Nat}(h:PcsF w wr A i c)(k:Kp wr w'):PcsF w w' A i c:=by
 obtain⟨ps,h1,h2⟩:=h;exact⟨ps,h1.kp k,h2⟩
theorem PcsF.set {w wr:World}{A:Option Addr}{i c X:Nat}{cs:Array Value}(h:PcsF w wr A i c)(hb:Bx wr X cs 129)(j:Nat)(u:Value):PcsF w (wr.setCell ⟨X,j,none⟩ u) A i c:=by
 obtain⟨ps,h1,h2⟩:=h;exact⟨ps,h1.setCell (p:=⟨X,j,none⟩) (fun e=>own_neF h1 hb (by decide) _ e rfl) u,h2⟩
theorem at4_any (A:Option Addr)(n c:Nat)(l:List SpanV)(r:Int)(w:World)(hl:SpW w Any A n c l)(hok:∀x∈l,x.Ok)(hn:n≤2228226000)(h0:0≤r)(h1:r≤1114112):
 Calls Tryz.prog 48 #[.slice A n c,.int .i32 r] w fun en w'=>∃(qf qt qa qb:Int) (ok:Bool),en=.returned (.tuple #[.agg #[.int .i64 qf,.int .i64 qt,.int .i64 qa,.int .i64 qb],.bool ok])∧(ok=true→0≤qt∧qt≤1114111)∧Kp w w':=by
 refine(at_any Any A n c l r w hl (by omega) (by unfold r32;omega)).mono ?_;rintro en w' ⟨⟨qf,qt,qa,qb⟩,ok,rfl,h,k⟩;refine⟨qf,qt,qa,qb,ok,rfl,fun e=>?_,k⟩;obtain⟨h2,_,_⟩:=h e;obtain⟨g1,g2,g3,_⟩:=hok _ h2;dsimp only at g1 g2 g3;omega
theorem Bx.setB {w:World}{X k:Nat}{t:TypeId}{b0 b1 b2 b3:Bool}(h:Bx w X #[.bool b0,.bool b1,.bool b2,.bool b3] t)(hk:k<4)(u:Bool):∃c0 c1 c2 c3:Bool,Bx (w.setCell ⟨X,k,none⟩ (.bool u)) X #[.bool c0,.bool c1,.bool c2,.bool c3] t:=by
 have g:=h.set k (.bool u);obtain rfl|rfl|rfl|rfl:k=0∨k=1∨k=2∨k=3:=by omega
 ·exact⟨u,b1,b2,b3,by simpa using g⟩
 ·exact⟨b0,u,b2,b3,by simpa using g⟩
 ·exact⟨b0,b1,u,b3,by simpa using g⟩
 ·exact⟨b0,b1,b2,u,by simpa using g⟩
theorem Bx.getB {w:World}{X k:Nat}{t:TypeId}{b0 b1 b2 b3:Bool}(h:Bx w X #[.bool b0,.bool b1,.bool b2,.bool b3] t)(hk:k<4):∃c:Bool,w.cell? ⟨X,k,none⟩=some (.bool c):=by
 rw[h.cell k];obtain rfl|rfl|rfl|rfl:k=0∨k=1∨k=2∨k=3:=by omega
 ·exact⟨b0,rfl⟩
 ·exact⟨b1,rfl⟩
 ·exact⟨b2,rfl⟩
 ·exact⟨b3,rfl⟩
theorem eqB4 (b0 b1 b2 b3:Bool)(w:World):∃e:Bool,(Op.equalIn 10000 129 (.agg #[.bool b0,.bool b1,.bool b2,.bool b3]) (.agg #[.bool false,.bool false,.bool false,.bool false])).run Tryz.prog w=.ok e w:=by
 refine⟨!b0&&!b1&&!b2&&!b3,?_⟩;cases b0<;>cases b1<;>cases b2<;>cases b3<;>kernel_rfl
def RetTru (w:World)(en:Ending)(w':World):Prop:=∃(tB:Nat) (f0 f1 f2 f3:Int→Bool),en=.returned (.pointer (some ⟨tB,0,none⟩))∧TrAt w' 200 4 tB (fun i=>[.bool (f0 i),.bool (f1 i),.bool (f2 i),.bool (f3 i)])∧(∀r,r<0∨1114112≤r→f0 r=false∧f1 r=false∧f2 r=false∧f3 r=false)∧w.heap.size≤tB∧Kp w w'
theorem truths_any (F:Nat→Prop)(A:Option Addr)(n c:Nat)(l:List RowV)(w:World)(h:Sl w F 5 A n c (RowV.cells l))(hl:∀r∈l,rowOk r=true)(hn:n≤2000):
 Calls Tryz.prog 20 #[.slice A n c] w (RetTru w):=by
 have HO:=hid (fun(kind:Int) (wx:World) (k:Kp w wx)=>rowsOf_any F A n c l kind wx (Sl.kp h k) hl hn);clear h hl;go_enter Tryz.func20,Tryz.ntmps20;go_upto_region 4 with fail;have st0:Sp4 (w.heap.size+1) w ((w.alloc (.cells #[.int .i64 5,.int .i64 7,.int .i64 8,.int .i64 3] 123)).alloc (.cells #[.slice none 0 0,.slice none 0 0,.slice none 0 0,.slice none 0 0] 124)) (.slice none 0 0) (.slice none 0 0) (.slice none 0 0) (.slice none 0 0):=
  ⟨SpF.nil _ _,SpF.nil _ _,SpF.nil _ _,SpF.nil _ _,by simpa using Bx.new (w.alloc (.cells #[.int .i64 5,.int .i64 7,.int .i64 8,.int .i64 3] 123)) #[.slice none 0 0,.slice none 0 0,.slice none 0 0,.slice none 0 0] 124,((Kp.refl w).alloc _).alloc _⟩
 have ST0:=hid st0;clear st0;obtain⟨S,hS⟩:∃S,S=w.heap.size+1:=⟨_,rfl⟩;have HS:=hid (show w.heap.size≤S by omega);rw[←hS]at ST0⊢;clear hS;generalize((w.alloc (.cells #[.int .i64 5,.int .i64 7,.int .i64 8,.int .i64 3] 123)).alloc (.cells #[.slice none 0 0,.slice none 0 0,.slice none 0 0,.slice none 0 0] 124))=w0 at *;go_loopw [18] (fun v wr=>∃(i:Nat) (v0 v1 v2 v3:Value),v=.int .i64 i∧i≤4∧Hid (Sp4 S w wr v0 v1 v2 v3)) (fun v _=>4 - (intOf v).toNat)
 case atStart=>exact⟨0,_,_,_,_,rfl,by omega,ST0.out⟩
 case round=>
  obtain⟨i,v0,v1,v2,v3,rfl,hi,hst⟩:=hrel;by_cases hlt:i<4
  ·obtain⟨i0,i1,i2,i3⟩:=idxK wr
   have bs:=hst.out.bx;obtain⟨y0,y1,y2,y3,y4,y5,y6,y7⟩:=bs.four;obtain rfl|rfl|rfl|rfl:i=0∨i=1∨i=2∨i=3:=by omega
   ·go_upto_region 6 with fail
    go_wp2_with (go_at_call 21;refine(HO.out _ _ hst.out.kp).mono ?_;rintro en w1 ⟨B,m,d,ss,rfl,hof,hok,hm,hs1,k1⟩;obtain⟨z0,z1,z2,z3,z4,z5,z6,z7⟩:=(hst.out.bx.kp k1).four);have hz:=hst.out.bx.lt;exact⟨⟨1,_,_,_,_,rfl,by omega,((hst.out.kp' k1).set HS.out ⟨B,m,d,ss,rfl,Sl.weak hs1.sl (fun q _ hq=>Nat.le_trans hz hq),hok,hm⟩).1⟩,by simp[intOf]⟩
   ·go_upto_region 6 with fail
    go_wp2_with (go_at_call 21;refine(HO.out _ _ hst.out.kp).mono ?_;rintro en w1 ⟨B,m,d,ss,rfl,hof,hok,hm,hs1,k1⟩;obtain⟨z0,z1,z2,z3,z4,z5,z6,z7⟩:=(hst.out.bx.kp k1).four);have hz:=hst.out.bx.lt;exact⟨⟨2,_,_,_,_,rfl,by omega,((hst.out.kp' k1).set HS.out ⟨B,m,d,ss,rfl,Sl.weak hs1.sl (fun q _ hq=>Nat.le_trans hz hq),hok,hm⟩).2.1⟩,by simp[intOf]⟩
   ·go_upto_region 6 with fail
    go_wp2_with (go_at_call 21;refine(HO.out _ _ hst.out.kp).mono ?_;rintro en w1 ⟨B,m,d,ss,rfl,hof,hok,hm,hs1,k1⟩;obtain⟨z0,z1,z2,z3,z4,z5,z6,z7⟩:=(hst.out.bx.kp k1).four);have hz:=hst.out.bx.lt;exact⟨⟨3,_,_,_,_,rfl,by omega,((hst.out.kp' k1).set HS.out ⟨B,m,d,ss,rfl,Sl.weak hs1.sl (fun q _ hq=>Nat.le_trans hz hq),hok,hm⟩).2.2.1⟩,by simp[intOf]⟩
   ·go_upto_region 6 with fail
    go_wp2_with (go_at_call 21;refine(HO.out _ _ hst.out.kp).mono ?_;rintro en w1 ⟨B,m,d,ss,rfl,hof,hok,hm,hs1,k1⟩;obtain⟨z0,z1,z2,z3,z4,z5,z6,z7⟩:=(hst.out.bx.kp k1).four);have hz:=hst.out.bx.lt;exact⟨⟨4,_,_,_,_,rfl,by omega,((hst.out.kp' k1).set HS.out ⟨B,m,d,ss,rfl,Sl.weak hs1.sl (fun q _ hq=>Nat.le_trans hz hq),hok,hm⟩).2.2.2⟩,by simp[intOf]⟩
  ·obtain rfl:i=4:=by omega
   have bs:=hst.out.bx;have HCUT:=hid (cut_any (some ⟨S,0,none⟩) 4 4 [v0,v1,v2,v3] wr (by simpa using Sl.of_bxF (F:=Any) bs trivial 1 4 rfl (by omega)) (by
    intro v hv;simp at hv;rcases hv with rfl|rfl|rfl|rfl
    ·exact hst.out.s0.v
    ·exact hst.out.s1.v
    ·exact hst.out.s2.v
    ·exact hst.out.s3.v) (by omega))
   go_upto_region 10 with(go_at_call 47;refine HCUT.out.mono ?_;rintro en w5 ⟨CA,cn,cc,xs,rfl,hcs,hxs,hcn,k5⟩;have hcap:=hcs.cap);have hst5:=hst.out.kp' k5;obtain⟨A0,n0,c0,s0,rfl,t0⟩:=hst5.s0;obtain⟨A1,n1,c1,s1,rfl,t1⟩:=hst5.s1;obtain⟨A2,n2,c2,s2,rfl,t2⟩:=hst5.s2;obtain⟨A3,n3,c3,s3,rfl,t3⟩:=hst5.s3;obtain⟨H0,H1,H2,H3,BS,K5,HXS,HNU⟩:=hid8 (show SpW w5 Any A0 n0 c0 s0∧(∀x∈s0,x.Ok)∧n0≤2228226000 from⟨Sl.any t0.1,t0.2⟩) (show SpW w5 Any A1 n1 c1 s1∧(∀x∈s1,x.Ok)∧n1≤2228226000 from⟨Sl.any t1.1,t1.2⟩) (show SpW w5 Any A2 n2 c2 s2∧(∀x∈s2,x.Ok)∧n2≤2228226000 from⟨Sl.any t2.1,t2.2⟩) (show SpW w5 Any A3 n3 c3 s3∧(∀x∈s3,x.Ok)∧n3≤2228226000 from⟨Sl.any t3.1,t3.2⟩) hst5.bx hst5.kp hxs (show Nu w5 Any CA cn cc xs from Sl.any hcs.sl);obtain⟨hc1,hc2⟩:=hcap;unfold maxLen at hc2;clear t0 t1 t2 t3 hst5 hcs hxs k5 HCUT bs hst ST0 HO;go_loopw [31,7] (fun v u wr=>∃(i m dd:Nat) (PA:Option Addr),v=.int .i64 i∧u=.slice PA m dd∧i≤cn∧m≤i∧Hid (Kp w5 wr)∧Hid (PcsF w5 wr PA m dd)) (fun v _ _=>cn - (intOf v).toNat)
   case atStart=>exact⟨0,0,0,none,rfl,rfl,Nat.zero_le _,le_,Kp.refl _,[],Own.nil _ _ _ _,rfl,fun p hp=>by simp at hp⟩
   case round=>
    obtain⟨i,m,dd,PA,rfl,rfl,hi,hm,kr,hps⟩:=hrel;by_cases hlt:i<cn
    ·obtain⟨ad,rfl,hc⟩:=Nu.get (HNU.out.kp kr.out) hlt
     have hmem:gN xs i∈xs:=by
      have:=HNU.out.len;unfold gN;rw[List.getElem?_eq_getElem (by omega)];exact List.getElem_mem _
     obtain⟨hg0,hg1⟩:=HXS.out _ hmem;generalize gN xs i=at_ at hc hg0 hg1;clear hmem;go_upto_region 13 with fail;have ka:=(Kp.refl wr).alloc (.cells #[.bool false,.bool false,.bool false,.bool false] 129);have bX:=Bx.new wr #[.bool false,.bool false,.bool false,.bool false] 129;have hz:=kr.out.size;obtain⟨X,hX⟩:∃X,X=wr.heap.size:=⟨_,rfl⟩;obtain⟨HX5,HSX⟩:=hid2 (show w5.heap.size≤X by omega) (show S≠X by have:=BS.out.lt;omega);rw[←hX]at bX⊢;obtain⟨K2,P2,BX⟩:=hid3 (kr.out.trans ka) (hps.out.kp ka) bX;clear hX ka bX hz hc;generalize(wr.alloc (.cells #[.bool false,.bool false,.bool false,.bool false] 129))=w2 at *;have hbs:=BS.out.kp K2.out;obtain⟨y0,y1,y2,y3,y4,y5,y6,y7⟩:=hbs.four;go_upto_region 15 with fail;clear y0 y1 y2 y3 y4 y5 y6 y7 hbs kr hps;go_loopw [36,11] (fun v u wr=>∃(k:Nat) (r:Int) (b0 b1 b2 b3:Bool),v=.int .i64 k∧u=.int .i64 r∧k≤4∧0≤r∧r≤1114111∧Hid (Kp w5 wr)∧Hid (PcsF w5 wr PA m dd)∧Hid (Bx wr X #[.bool b0,.bool b1,.bool b2,.bool b3] 129)) (fun v _ _=>4 - (intOf v).toNat)
     case atStart=>exact⟨0,1114111,false,false,false,false,rfl,rfl,by omega,by omega,by omega,K2.out,P2.out,BX.out⟩
     case round=>
      obtain⟨k,r,b0,b1,b2,b3,rfl,rfl,hk,hr0,hr1,kr,hps,bx⟩:=hrel;by_cases hk4:k<4
      ·obtain⟨i0,i1,i2,i3⟩:=idx4 (A0:=A0) (A1:=A1) (A2:=A2) (A3:=A3) (n0:=n0) (n1:=n1) (n2:=n2) (n3:=n3) (c0:=c0) (c1:=c1) (c2:=c2) (c3:=c3) wr
       go_upto_region 16 with fail;go_cut [38,39,12,13] (fun _ _ kx v wx=>kx=.int .i64 k∧Hid (SpV w5 v)∧wx=wr)
       case first=>
        obtain rfl|rfl|rfl|rfl:k=0∨k=1∨k=2∨k=3:=by omega
        ·go_wp2_with fail
         go_meet;exact⟨rfl,⟨_,_,_,_,rfl,H0.out⟩,rfl⟩
        ·go_wp2_with fail
         go_meet;exact⟨rfl,⟨_,_,_,_,rfl,H1.out⟩,rfl⟩
        ·go_wp2_with fail
         go_meet;exact⟨rfl,⟨_,_,_,_,rfl,H2.out⟩,rfl⟩
        ·go_wp2_with fail
         go_meet;exact⟨rfl,⟨_,_,_,_,rfl,H3.out⟩,rfl⟩
       obtain⟨rfl,hsv,rfl⟩:=hcut;clear i0 i1 i2 i3;obtain⟨B,q,e,ss,rfl,hs,hok,hq⟩:=hsv.out;clear hsv;have hw32:IntKind.i32.wrap at_=at_:=by rw[IntKind.wrap_i32];omega
       have HAT:=hid (at4_any B q e ss at_ wc (hs.kp kr.out) hok hq hg0 hg1);clear hs hok;go_upto_region 18 with(go_at_call 48;refine HAT.out.mono ?_;rintro en w3 ⟨qf,qt,qa,qb,ok,rfl,hok,k3⟩);have kq:=k3.trans ((Kp.refl w3).alloc (.cells #[.int .i64 qf,.int .i64 qt,.int .i64 qa,.int .i64 qb] 88));have bQ:=Bx.new w3 #[.int .i64 qf,.int .i64 qt,.int .i64 qa,.int .i64 qb] 88;have hXY:=bx.out.lt;have hz:=k3.size;obtain⟨Y,hY⟩:∃Y,Y=w3.heap.size:=⟨_,rfl⟩;rw[←hY]at bQ hz⊢;obtain⟨HXY,K4,P4,B4⟩:=hid4 (show Y≠X by omega) (kr.out.trans kq) (hps.out.kp kq) (bx.out.kp kq);clear hY k3 kq hXY hz HAT;generalize(w3.alloc (.cells #[.int .i64 qf,.int .i64 qt,.int .i64 qa,.int .i64 qb] 88))=w4 at *;obtain⟨y0,y1,y2,y3,y4,y5,y6,y7⟩:=bQ.four;obtain⟨bo,hbo⟩:=B4.out.getB hk4;have hbf:=B4.out.frozen k;obtain⟨HB5,HP5,HK5⟩:=hid3 (fun u:Bool=>B4.out.setB hk4 u) (fun u:Bool=>P4.out.set B4.out k (.bool u)) (fun u:Bool=>K4.out.setCell (p:=⟨X,k,none⟩) HX5.out (.bool u));cases ok with
       |true=>
        obtain⟨hq0,hq1⟩:=hok rfl;by_cases hqa:qa=1
        ·subst hqa
         have g1:=(bQ.far (p:=⟨X,k,none⟩) HXY.out (.bool true)).cell 1;simp at g1;go_wp2_with fail;obtain⟨d0,d1,d2,d3,hb⟩:=HB5.out true;exact⟨⟨k+1,min r qt,d0,d1,d2,d3,by simp,rfl,hk4,by omega,by omega,HK5.out true,HP5.out true,hb⟩,by simp[intOf];omega⟩
        ·have hqb:(qa==1)=false:=by simpa using hqa
         have hqd:decide (qa=1)=false:=by simpa using hqa
         have g1:=(bQ.far (p:=⟨X,k,none⟩) HXY.out (.bool false)).cell 1;simp at g1;go_wp2_with fail;obtain⟨d0,d1,d2,d3,hb⟩:=HB5.out false;exact⟨⟨k+1,min r qt,d0,d1,d2,d3,by simp,rfl,hk4,by omega,by omega,HK5.out false,HP5.out false,hb⟩,by simp[intOf];omega⟩
       |false=>
        go_wp2_with fail;obtain⟨d0,d1,d2,d3,hb⟩:=HB5.out false;exact⟨⟨k+1,r,d0,d1,d2,d3,by simp,rfl,hk4,by omega,by omega,HK5.out false,HP5.out false,hb⟩,by simp[intOf];omega⟩
      ·obtain rfl:k=4:=by omega
       obtain⟨y0,y1,y2,y3,y4,y5,y6,y7⟩:=bx.out.four;obtain⟨z0,z1,z2,z3,z4,z5,z6,z7⟩:=(BS.out.kp kr.out).four;obtain⟨ne,hne⟩:=eqB4 b0 b1 b2 b3 wr;obtain⟨ps,hp1,hp2,hp3⟩:=hps.out;obtain⟨HP2,HP3,HP1,HZR⟩:=hid4 hp2 hp3 hp1 kr.out.size;have bx1:=bx.out;have bs1:=BS.out.kp kr.out;have HUP:=hid (fun(wx:World) (kx:Kp wr wx)=>upto_any at_ r (.slice A0 n0 c0) (.slice A1 n1 c1) (.slice A2 n2 c2) (.slice A3 n3 c3) wx ⟨_,_,_,_,rfl,H0.out.1.kp (kr.out.trans kx),H0.out.2⟩ ⟨_,_,_,_,rfl,H1.out.1.kp (kr.out.trans kx),H1.out.2⟩ ⟨_,_,_,_,rfl,H2.out.1.kp (kr.out.trans kx),H2.out.2⟩ ⟨_,_,_,_,rfl,H3.out.1.kp (kr.out.trans kx),H3.out.2⟩ hr0 hr1 hg0);cases ne with
       |true=>
        go_wp2_with fail;exact⟨⟨i+1,m,dd,PA,by simp,rfl,hlt,by omega,kr.out,hps.out⟩,by simp[intOf];omega⟩
       |false=>
        go_upto_region 23 with fail;clear hp1 hp2 hp3 hne;go_region_held3 (fun w'=>w'.cell? ⟨X,0,none⟩=some (.bool b0)∧w'.cell? ⟨X,1,none⟩=some (.bool b1)∧w'.cell? ⟨X,2,none⟩=some (.bool b2)∧w'.cell? ⟨X,3,none⟩=some (.bool b3)∧w'.cell? ⟨S,0,none⟩=some (.slice A0 n0 c0)∧w'.cell? ⟨S,1,none⟩=some (.slice A1 n1 c1)∧w'.cell? ⟨S,2,none⟩=some (.slice A2 n2 c2)∧w'.cell? ⟨S,3,none⟩=some (.slice A3 n3 c3))
         (first|(with_reducible exact⟨y0,y1,y2,y3,z0,z1,z2,z3⟩)|(with_reducible exact⟨g0,g1,g2,g3,e0,e1,e2,e3⟩)|(with_reducible exact⟨j0,j1,j2,j3,l0,l1,l2,l3⟩)|go_keep)
         (first|(go_at_call 49;refine(HUP.out _ (by first|exact Kp.refl wr|exact(Kp.refl wr).drew)).mono ?_;rintro en w6 ⟨⟨r6,rfl,_,_⟩,k6'⟩;have k6:Kp wr w6:=(by first|exact k6'|exact(Kp.refl wr).drew.trans k6');have HK6:=hid k6;have b6:=bx1.kp k6;have s6:=bs1.kp k6;obtain⟨g0,g1,g2,g3,_⟩:=b6.four;obtain⟨e0,e1,e2,e3,_⟩:=s6.four;clear k6 k6')|(refine zJ _ (by rfl) _ _ _ (by rfl) w5.heap.size 136 _ 6 24 Tryz.underlying125 infoPcF rfl (by omega) PA m dd ps.flatten (by rfl) ((HP1.out.kp HK6.out).alloc _) Any _ 1 1 [.int .i64 at_,.int .i64 r6,.bool b0,.bool b1,.bool b2,.bool b3] (by rfl) (Sl.new w6 #[.int .i64 at_,.int .i64 r6,.bool b0,.bool b1,.bool b2,.bool b3] _ 6 1 trivial rfl (by omega)) (by simp[Value.oneCell']) (by simp only[maxLen];omega) (by omega) (by have:=HZR.out;have:=HK6.out.size;simp;omega) ?_;intro A7 c7 w7 ho7 hg7 hat7;have b7:=(b6.alloc _).grown hg7 (fun e=>own_neF (HP1.out.kp HK6.out) b6 (by decide) _ e rfl);have s7:=(s6.alloc _).grown hg7 (fun e=>by have h1:=(HP1.out.lt _ e).1;have h2:=BS.out.lt;omega);obtain⟨j0,j1,j2,j3,_⟩:=b7.four;obtain⟨l0,l1,l2,l3,_⟩:=s7.four))
        have k7:Kp w5 w7:=((kr.out.trans HK6.out).alloc _).grown hg7 fun g e=>(HP1.out.lt g e).1
        go_wp2_with fail;refine⟨⟨i+1,m+1,c7,A7,by simp,rfl,hlt,by omega,k7,⟨ps++[[.int .i64 at_,.int .i64 r6,.bool b0,.bool b1,.bool b2,.bool b3]],by rw[List.flatten_append];simpa using ho7,by simp[HP2.out],fun p hp=>?_⟩⟩,by simp[intOf];omega⟩;rcases List.mem_append.1 hp with hp|hp
        ·exact HP3.out p hp
        ·rw[List.mem_singleton]at hp
         rw[hp];exact⟨at_,r6,[.bool b0,.bool b1,.bool b2,.bool b3],rfl,rfl,fun u hu=>by simp at hu;rcases hu with rfl|rfl|rfl|rfl<;>exact⟨_,rfl⟩⟩
    ·obtain rfl:i=cn:=by omega
     have HB:=hid (buildQF PA m dd (.agg #[.bool false,.bool false,.bool false,.bool false]) [.bool false,.bool false,.bool false,.bool false] wr (by
      obtain⟨ps,h1,h2⟩:=hps.out;exact⟨ps,h1.sl.any,h2⟩) ⟨false,false,false,false,trivial,rfl,rfl⟩ (by omega))
     go_wp2_with (go_at_call 50;refine HB.out.mono ?_;rintro en w6 ⟨tB,nb,nn,s,IA,Ic,BA,Bc,rfl,rfl,hs,hbd⟩);go_ret;obtain⟨f0,f1,f2,f3,h1,h2⟩:=trF hbd;have k5:=K5.out.trans kr.out;have:=k5.size;exact⟨tB,f0,f1,f2,f3,rfl,h1,h2,by omega,k5.trans hbd.kp⟩
end Go.Proofs.YtociefdcccokjaaGreat

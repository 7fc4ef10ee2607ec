/-
  Lemmas for TopMacro. Conditions: each states its own.
-/
import Derived.Shelf.SlSortCmp.WholeK
import Derived.Ground.SlsfProg
import Derived.Test.YtociefdcccokjaaGreatProg
import Derived.Lib.RowBridge
import Derived.Test.YtociefdcccokjaaGreatG11
set_option maxHeartbeats 6400000
set_option maxRecDepth 100000
namespace Go.Proofs.YtociefdcccokjaaGreat
open Go.RowKit Go.Lib
structure SpanV where
 f:Int
 t:Int
 a:Int
 b:Int
structure SpanV.Ok (s:SpanV):Prop where
 f0:0≤s.f
 ft:s.f≤s.t
 t1:s.t≤1114111
 a0:0≤s.a
 a1:s.a≤1114111
 b0:0≤s.b
 b1:s.b≤1114111
def restS (s:SpanV)(st:Int×List SpanV)(x:SpanV):Int×List SpanV:=
 if x.t<st.1∨s.t<x.f then st else(x.t+1,if st.1<x.f then st.2++[⟨st.1,x.f - 1,s.a,s.b⟩]else st.2)
def restN (s:SpanV)(l:List SpanV):Int×List SpanV:=l.foldl (restS s) (s.f,[])
def restM (s:SpanV)(l:List SpanV):List SpanV:=if(restN s l).1≤s.t then(restN s l).2++[⟨(restN s l).1,s.t,s.a,s.b⟩]else(restN s l).2
theorem restN_snoc (s:SpanV)(l:List SpanV)(x:SpanV):restN s (l++[x])=restS s (restN s l) x:=by simp[restN]
structure RestI (s:SpanV)(st:Int×List SpanV):Prop where
 lo:s.f≤st.1
 hi:st.1≤1114112
 len:(st.2.length:Int)≤st.1
 ok:∀x∈st.2,x.Ok
theorem restS_inv {s:SpanV}(hs:s.Ok){st:Int×List SpanV}(h:RestI s st){x:SpanV}(hx:x.Ok):RestI s (restS s st x):=by
 obtain⟨h1,h2,h3,h4⟩:=h;obtain⟨s1,s2,s3,s4,s5,s6,s7⟩:=hs;obtain⟨x1,x2,x3,x4,x5,x6,x7⟩:=hx;unfold restS;by_cases hc:x.t<st.1∨s.t<x.f
 ·rw[if_pos hc];exact⟨h1,h2,h3,h4⟩
 ·rw[if_neg hc]
  by_cases hd:st.1<x.f
  ·rw[if_pos hd]
   refine⟨by dsimp only;omega,by dsimp only;omega,by simp;omega,fun y hy=>?_⟩;rcases List.mem_append.1 hy with hy|hy
   ·exact h4 y hy
   ·rw[List.mem_singleton]at hy
    rw[hy];exact⟨by dsimp only;omega,by dsimp only;omega,by dsimp only;omega,s4,s5,s6,s7⟩
  ·rw[if_neg hd]
   exact⟨by dsimp only;omega,by dsimp only;omega,by dsimp only;omega,h4⟩
theorem restN_inv {s:SpanV}(hs:s.Ok):∀(l:List SpanV),(∀x∈l,x.Ok)→∀k,k≤l.length→RestI s (restN s (l.take k))
 |l,hl,0,_=>⟨by simp[restN],by have:=hs.ft;have:=hs.t1;simp[restN];omega,by have:=hs.f0;simp[restN];omega,by simp[restN]⟩
 |l,hl,k+1,hk=>by
  have h:=restN_inv hs l hl k (by omega);rw[List.take_add_one,List.getElem?_eq_getElem (by omega)];simp only[Option.toList_some];rw[restN_snoc];exact restS_inv hs h (hl _ (List.getElem_mem _))
theorem restM_ok {s:SpanV}(hs:s.Ok){l:List SpanV}(hl:∀x∈l,x.Ok):(∀x∈restM s l,x.Ok)∧((restM s l).length:Int)≤1114113:=by
 have h:=restN_inv hs l hl l.length le_;rw[List.take_length]at h;obtain⟨h1,h2,h3,h4⟩:=h;unfold restM;by_cases hc:(restN s l).1≤s.t
 ·rw[if_pos hc]
  refine⟨fun y hy=>?_,by simp;omega⟩;rcases List.mem_append.1 hy with hy|hy
  ·exact h4 y hy
  ·rw[List.mem_singleton]at hy
   rw[hy];have:=hs.f0;exact⟨by dsimp only;omega,hc,hs.t1,hs.a0,hs.a1,hs.b0,hs.b1⟩
 ·rw[if_neg hc]
  exact⟨h4,by omega⟩
def meets (p s:SpanV):Bool:=decide (p.t+1=s.f)&&decide (p.a=s.a)&&decide (p.b=s.b)
def joinS (out:List SpanV)(s:SpanV):List SpanV:=match out.getLast? with
 |some p=>if meets p s=true then out.dropLast++[{p with t:=s.t}]else out++[s]
 |none=>[s]
def joinM (l:List SpanV):List SpanV:=l.foldl joinS []
theorem joinM_snoc (l:List SpanV)(x:SpanV):joinM (l++[x])=joinS (joinM l) x:=by simp[joinM]
theorem joinS_ok {out:List SpanV}{s:SpanV}(h:∀x∈out,x.Ok)(hs:s.Ok):(∀x∈joinS out s,x.Ok)∧(joinS out s).length≤out.length+1:=by
 unfold joinS;rcases hl:out.getLast? with _|p
 ·exact⟨fun x hx=>by rw[List.mem_singleton]at hx;rw[hx];exact hs,by simp⟩
 ·have hp:=h p (List.mem_of_getLast? hl)
  dsimp only;by_cases hm:meets p s=true
  ·rw[if_pos hm]
   have hm':p.t+1=s.f:=by
    unfold meets at hm;simp at hm;exact hm.1.1
   refine⟨fun x hx=>?_,by simp⟩;rcases List.mem_append.1 hx with hx|hx
   ·exact h x (List.dropLast_subset _ hx)
   ·rw[List.mem_singleton]at hx
    rw[hx];have:=hs.ft;have:=hp.ft;exact⟨hp.f0,by dsimp only;omega,hs.t1,hp.a0,hp.a1,hp.b0,hp.b1⟩
  ·rw[if_neg hm]
   refine⟨fun x hx=>?_,by simp⟩;rcases List.mem_append.1 hx with hx|hx
   ·exact h x hx
   ·rw[List.mem_singleton]at hx;rw[hx];exact hs
theorem joinM_ok:∀(l:List SpanV),(∀x∈l,x.Ok)→∀k,k≤l.length→(∀x∈joinM (l.take k),x.Ok)∧(joinM (l.take k)).length≤k
 |l,_,0,_=>by simp[joinM]
 |l,hl,k+1,hk=>by
  have h:=joinM_ok l hl k (by omega);rw[List.take_add_one,List.getElem?_eq_getElem (by omega)];simp only[Option.toList_some];rw[joinM_snoc];have h2:=joinS_ok h.1 (hl _ (List.getElem_mem (by omega:k<l.length)));exact⟨h2.1,by omega⟩
def SpanV.c (s:SpanV):List Value:=[.int .i64 s.f,.int .i64 s.t,.int .i64 s.a,.int .i64 s.b]
def SpanV.cells (l:List SpanV):List Value:=(l.map SpanV.c).flatten
theorem SpanV.c4 (l:List SpanV):∀c∈l.map SpanV.c,c.length=4:=by intro c hc;obtain⟨r,_,rfl⟩:=List.mem_map.1 hc;rfl
theorem SpanV.cells_len (l:List SpanV):(SpanV.cells l).length=l.length*4:=by
 unfold SpanV.cells;rw[vO (SpanV.c4 l),List.length_map]
theorem SpanV.cells_one (l:List SpanV):∀u∈SpanV.cells l,u.oneCell'=true:=by
 intro u hu;obtain⟨c,hc,hu⟩:=List.mem_flatten.1 hu;obtain⟨r,_,rfl⟩:=List.mem_map.1 hc;simp[SpanV.c]at hu;rcases hu with rfl|rfl|rfl|rfl<;>rfl
theorem SpanV.cells_app (l k:List SpanV):SpanV.cells (l++k)=SpanV.cells l++SpanV.cells k:=by simp[SpanV.cells]
theorem SpanV.cells_at {l:List SpanV}{i:Nat}{s:SpanV}(h:l[i]? =some s):(SpanV.cells l)[i*4]? =some (.int .i64 s.f)∧(SpanV.cells l)[i*4+1]? =some (.int .i64 s.t)∧(SpanV.cells l)[i*4+2]? =some (.int .i64 s.a)∧(SpanV.cells l)[i*4+3]? =some (.int .i64 s.b):=by
 have g:=fun r (hr:r<4)=>yR (k:=4) (css:=l.map SpanV.c) (i:=i) (r:=r) (c:=s.c) (SpanV.c4 l) (by simp[h]) hr
 exact⟨g 0 (by omega),g 1 (by omega),g 2 (by omega),g 3 (by omega)⟩
def SpW (w:World)(F:Nat→Prop)(A:Option Addr)(n c:Nat)(l:List SpanV):Prop:=Sl w F 4 A n c (SpanV.cells l)
section
variable {w w':World}{F:Nat→Prop}{A:Option Addr}{n c:Nat}{l:List SpanV}
theorem SpW.len (h:SpW w F A n c l):l.length=n:=by have:=Sl.len h;rw[SpanV.cells_len]at this;omega
theorem SpW.kp (h:SpW w F A n c l)(k:Kp w w'):SpW w' F A n c l:=Sl.kp h k
theorem SpW.get (h:SpW w F A n c l){i:Nat}{s:SpanV}(hs:l[i]? =some s):∃ad,A=some ad∧w.cell? (ad.add (i*4))=some (.int .i64 s.f)∧w.cell? ⟨(ad.add (i*4)).block,(ad.add (i*4)).off+1,none⟩=some (.int .i64 s.t)∧
 w.cell? ⟨(ad.add (i*4)).block,(ad.add (i*4)).off+2,none⟩=some (.int .i64 s.a)∧w.cell? ⟨(ad.add (i*4)).block,(ad.add (i*4)).off+3,none⟩=some (.int .i64 s.b):=by
 have hl:=h.len;have hk:=(List.getElem?_eq_some_iff.1 hs).1;obtain⟨ad,e,_,_,hc⟩:=Sl.at_ h (by omega);obtain⟨h1,h2,h3,h4⟩:=SpanV.cells_at hs;refine⟨ad,e,hc _ _ h1,?_,?_,?_⟩
 ·have:=hc _ _ h2;rwa[zF _ _ 0]at this
 ·have:=hc _ _ h3;rwa[zF _ _ 1]at this
 ·have:=hc _ _ h4;rwa[zF _ _ 2]at this
end
theorem infoSpan:(Tryz.prog.info? 88).map (fun i=>(i.zero,i.size,i.bytes))=some (some (.agg #[.int .i64 0,.int .i64 0,.int .i64 0,.int .i64 0]),4,32):=by kernel_rfl
structure RestSt (s:SpanV)(l:List SpanV)(w wr:World)(i:Nat)(f:Int)(A:Option Addr)(m cc:Nat)(out:List SpanV):Prop where
 eq:restN s (l.take i)=(f,out)
 bx:Bx wr w.heap.size #[.int .i64 f,.int .i64 s.t,.int .i64 s.a,.int .i64 s.b] 88
 own:Own wr (w.heap.size+1) 88 4 A m cc (SpanV.cells out)
 kp:Kp w wr
theorem RestSt.kp' {s:SpanV}{l:List SpanV}{w wr w':World}{i:Nat}{f:Int}{A:Option Addr}{m cc:Nat}{out:List SpanV}(h:RestSt s l w wr i f A m cc out)(k:Kp wr w'):RestSt s l w w' i f A m cc out:=⟨h.eq,h.bx.kp k,h.own.kp k,h.kp.trans k⟩
theorem rest_skip {s x:SpanV}{l:List SpanV}{w wr:World}{i:Nat}{f:Int}{A:Option Addr}{m cc:Nat}{out:List SpanV}(h:RestSt s l w wr i f A m cc out)(hx:l[i]? =some x)(hc:x.t<f∨s.t<x.f):RestSt s l w wr (i+1) f A m cc out:=by
 refine⟨?_,h.bx,h.own,h.kp⟩;rw[List.take_add_one,hx];simp only[Option.toList_some];rw[restN_snoc,h.eq];unfold restS;rw[if_pos hc]
theorem rest_met {s x:SpanV}{l:List SpanV}{w wr:World}{i:Nat}{f:Int}{A:Option Addr}{m cc:Nat}{out:List SpanV}(h:RestSt s l w wr i f A m cc out)(hx:l[i]? =some x)(hc:¬(x.t<f∨s.t<x.f)){wq:World}{A':Option Addr}{m' c':Nat}{vs:List SpanV}(hk:Kp w wq)
 (hb:Bx wq w.heap.size #[.int .i64 f,.int .i64 s.t,.int .i64 s.a,.int .i64 s.b] 88)(ho:Own wq (w.heap.size+1) 88 4 A' m' c' (SpanV.cells out++SpanV.cells vs))(hv:vs=if f<x.f then[⟨f,x.f - 1,s.a,s.b⟩]else[]):
 RestSt s l w (wq.setCell ⟨w.heap.size,0,none⟩ (.int .i64 (x.t+1))) (i+1) (x.t+1) A' m' c' (out++vs):=by
 refine⟨?_,hb.set 0 _,?_,hk.setCell (p:=⟨w.heap.size,0,none⟩) le_ _⟩
 ·rw[List.take_add_one,hx]
  simp only[Option.toList_some];rw[restN_snoc,h.eq];unfold restS;rw[if_neg hc,hv];by_cases hd:f<x.f
  ·rw[if_pos hd,if_pos hd]
  ·rw[if_neg hd,if_neg hd,List.append_nil]
 ·rw[SpanV.cells_app]
  exact ho.setCell (p:=⟨w.heap.size,0,none⟩) (fun e=>by have:=(ho.lt _ e).1;dsimp only at this;omega) _
theorem rest_any (s:SpanV)(F:Nat→Prop)(A:Option Addr)(n c:Nat)(l:List SpanV)(w:World)(h:SpW w F A n c l)(hs:s.Ok)(hl:∀x∈l,x.Ok):
 Calls Tryz.prog 53 #[.agg #[.int .i64 s.f,.int .i64 s.t,.int .i64 s.a,.int .i64 s.b],.slice A n c] w fun en w'=>∃A' n' c',en=.returned (.slice A' n' c')∧Own w' w.heap.size 88 4 A' n' c' (SpanV.cells (restM s l))∧Kp w w':=by
 have HLN:=hid h.len;have hle:=Sl.le h;have hcap:=Sl.cap h;unfold maxLen at hcap;obtain⟨H,HINV,HXO,HSO⟩:=hid4 h (restN_inv hs l hl) hl hs;obtain⟨sf,st,sa,sb⟩:=s;clear h hs hl;have hso:=HSO.out;obtain⟨s1,s2,s3,s4,s5,s6,s7⟩:=hso;dsimp only at s1 s2 s3 s4 s5 s6 s7⊢;go_enter Tryz.func53,Tryz.ntmps53;go_wp2_with fail;have st0:RestSt ⟨sf,st,sa,sb⟩ l w (w.alloc (.cells #[.int .i64 sf,.int .i64 st,.int .i64 sa,.int .i64 sb] 88)) 0 sf none 0 0 []:=⟨rfl,Bx.new w _ _,Own.nil _ _ _ _,(Kp.refl w).alloc _⟩;have HST0:=hid st0;clear st0;generalize(w.alloc (.cells #[.int .i64 sf,.int .i64 st,.int .i64 sa,.int .i64 sb] 88))=w0 at *;go_loopw [10,5] (fun v u wr=>∃(i m cc:Nat) (A1:Option Addr) (f:Int) (out:List SpanV),v=.int .i64 i∧u=.slice A1 m cc∧i≤n∧Hid (RestSt ⟨sf,st,sa,sb⟩ l w wr i f A1 m cc out)) (fun v _ _=>n - (intOf v).toNat)
 case atStart=>exact⟨0,0,0,none,sf,[],rfl,rfl,Nat.zero_le _,HST0.out⟩
 case round=>
  clear HST0;obtain⟨i,m,cc,A1,f,out,rfl,rfl,hi,hst⟩:=hrel;have hI:=HINV.out i (by rw[HLN.out];exact hi);rw[hst.out.eq]at hI;obtain⟨i1,i2,i3,i4⟩:=hI;dsimp only at i1 i2 i3;have hml:out.length=m:=by have:=hst.out.own.len;rw[SpanV.cells_len]at this;omega
  rw[hml]at i3;clear i4 hml;by_cases hlt:i<n
  ·obtain⟨⟨xf,xt,xa,xb⟩,hx⟩:∃x,l[i]? =some x:=⟨_,List.getElem?_eq_getElem (by rw[HLN.out];exact hlt)⟩
   obtain⟨ad,rfl,e0,e1,e2,e3⟩:=SpW.get (H.out.kp hst.out.kp) hx;obtain⟨x1,x2,x3,x4,x5,x6,x7⟩:=HXO.out _ (List.mem_of_getElem? hx);dsimp only at e0 e1 e2 e3 x1 x2 x3 x4 x5 x6 x7;have HX:=hid hx;clear hx;go_upto_region 5 with fail;have ka:=(Kp.refl wr).alloc (.cells #[.int .i64 xf,.int .i64 xt,.int .i64 xa,.int .i64 xb] 88);have bX:=Bx.new wr #[.int .i64 xf,.int .i64 xt,.int .i64 xa,.int .i64 xb] 88;have hsX:=hst.out.bx.lt;obtain⟨X,hX⟩:∃X,X=wr.heap.size:=⟨_,rfl⟩;rw[←hX]at bX hsX⊢;obtain⟨st1,hXr⟩:=hid2 (hst.out.kp' ka) (show∀g,zB A1=some g→g=X→False from fun g e e'=>by have:=(hst.out.own.lt g e).2;omega);clear e0 e1 e2 e3 hX ka hst;generalize(wr.alloc (.cells #[.int .i64 xf,.int .i64 xt,.int .i64 xa,.int .i64 xb] 88))=w1 at *;obtain⟨y0,y1,y2,y3,y4,y5,y6,y7⟩:=bX.four;obtain⟨z0,z1,z2,z3,z4,z5,z6,z7⟩:=st1.out.bx.four;by_cases hc1:xt<f
   ·have hst2:=hid (rest_skip st1.out HX.out (.inl hc1))
    go_wp2_with fail;go_roundw
    case rel=>exact⟨i+1,m,cc,A1,f,out,by simp,rfl,hlt,hst2.out⟩
    case measure=>simp[intOf];omega
   ·by_cases hc2:st<xf
    ·have hst2:=hid (rest_skip st1.out HX.out (.inr hc2))
     go_wp2_with fail;go_roundw
     case rel=>exact⟨i+1,m,cc,A1,f,out,by simp,rfl,hlt,hst2.out⟩
     case measure=>simp[intOf];omega
    ·have HNC:=hid (show¬(xt<f∨st<xf) by omega)
     by_cases hc3:f<xf
     ·have hz1:=st1.out.kp.size
      go_wp2_with (at_builtin;refine zA _ rfl _ _ _ rfl (w.heap.size+1) 88 _ 4 32 Tryz.underlying85 infoSpan rfl (by omega) A1 m cc (SpanV.cells out) rfl (st1.out.own.alloc _) Any _ 1 1 [.int .i64 f,.int .i64 (xf - 1),.int .i64 sa,.int .i64 sb] rfl (Sl.new w1 #[.int .i64 f,.int .i64 (xf - 1),.int .i64 sa,.int .i64 sb] _ 4 1 trivial rfl (by omega)) (by simp[Value.oneCell']) (by simp only[maxLen];omega) (by omega) (by simp;omega) ?_;intro A4 c4 w4 ho4 hg4 hat4;have hr4:∀g,zB A1=some g→w.heap.size+1≤g∧g<w1.heap.size:=(fun g e=>st1.out.own.lt g e);have b4:=(st1.out.bx.alloc (.cells #[.int .i64 f,.int .i64 (xf - 1),.int .i64 sa,.int .i64 sb] 88)).grown hg4 (fun e=>by have:=hr4 _ e;omega);have u4:=(bX.alloc (.cells #[.int .i64 f,.int .i64 (xf - 1),.int .i64 sa,.int .i64 sb] 88)).grown hg4 (fun e=>hXr.out _ e rfl);obtain⟨q0,q1,q2,q3,q4,q5,q6,q7⟩:=b4.four;obtain⟨v0,v1,v2,v3,v4,v5,v6,v7⟩:=u4.four);have hst2:=hid (rest_met st1.out HX.out HNC.out (vs:=[⟨f,xf - 1,sa,sb⟩]) ((st1.out.kp.alloc (.cells #[.int .i64 f,.int .i64 (xf - 1),.int .i64 sa,.int .i64 sb] 88)).grown hg4 fun g e=>by have:=hr4 _ e;omega) b4 ho4 (by rw[if_pos hc3]));go_wp2_with fail;generalize(w4.setCell ⟨w.heap.size,0,none⟩ (.int .i64 (xt+1)))=w2 at *;go_roundw
      case rel=>exact⟨i+1,m+1,c4,A4,xt+1,_,by simp,rfl,hlt,hst2.out⟩
      case measure=>simp[intOf];omega
     ·have hst2:=hid (rest_met st1.out HX.out HNC.out (vs:=[]) st1.out.kp st1.out.bx (by rw[show SpanV.cells []=[]from rfl,List.append_nil];exact st1.out.own) (by rw[if_neg hc3]))
      go_wp2_with fail;generalize(w1.setCell ⟨w.heap.size,0,none⟩ (.int .i64 (xt+1)))=w2 at *;go_roundw
      case rel=>exact⟨i+1,m,cc,A1,xt+1,out++[],by simp,rfl,hlt,hst2.out⟩
      case measure=>simp[intOf];omega
  ·obtain rfl:i=n:=by omega
   have hz1:=hst.out.kp.size;have heq:=hst.out.eq;rw[List.take_of_length_le (by rw[HLN.out];exact le_)]at heq;have HEQ:=hid heq;clear heq;obtain⟨z0,z1,z2,z3,z4,z5,z6,z7⟩:=hst.out.bx.four;by_cases hc:f≤st
   ·go_wp2_with (at_builtin;refine zA _ rfl _ _ _ rfl (w.heap.size+1) 88 _ 4 32 Tryz.underlying85 infoSpan rfl (by omega) A1 m cc (SpanV.cells out) rfl (hst.out.own.alloc _) Any _ 1 1 [.int .i64 f,.int .i64 st,.int .i64 sa,.int .i64 sb] rfl (Sl.new wr #[.int .i64 f,.int .i64 st,.int .i64 sa,.int .i64 sb] _ 4 1 trivial rfl (by omega)) (by simp[Value.oneCell']) (by simp only[maxLen];omega) (by omega) (by simp;omega) ?_;intro A4 c4 w4 ho4 hg4 hat4)
    go_ret;refine⟨A4,m+1,c4,rfl,?_,(hst.out.kp.alloc (.cells #[.int .i64 f,.int .i64 st,.int .i64 sa,.int .i64 sb] 88)).grown hg4 fun g e=>by have:=hst.out.own.lt g e;omega⟩;unfold restM;rw[HEQ.out,if_pos hc,SpanV.cells_app];exact Own.more ho4 (by omega)
   ·go_wp2_with fail
    go_ret;refine⟨A1,m,cc,rfl,?_,hst.out.kp⟩;unfold restM;rw[HEQ.out,if_neg (by dsimp only;omega)];exact Own.more hst.out.own (by omega)
theorem flatten_set {α:Type}(z:Nat):∀(css:List (List α)) (i j:Nat) (cs:List α) (u:α),(∀c∈css,c.length=z)→css[i]? =some cs→j<z→css.flatten.set (i*z+j) u=(css.set i (cs.set j u)).flatten
 |[],i,j,cs,u,_,h,_=>by simp at h
 |c::css,0,j,cs,u,hl,h,hj=>by
  simp at h;subst h;have:=hl c (by simp);simp only[List.flatten_cons,List.set_cons_zero,Nat.zero_mul,Nat.zero_add];rw[List.set_append_left _ _ (by omega)]
 |c::css,i+1,j,cs,u,hl,h,hj=>by
  have h1:=hl c (by simp);have h2:=flatten_set z css i j cs u (fun c hc=>hl c (by simp[hc])) (by simpa using h) hj;simp only[List.flatten_cons,List.set_cons_succ];rw[List.set_append_right _ _ (by rw[h1,Nat.succ_mul];omega),←h2]
  congr 2
  rw[h1,Nat.succ_mul];omega
theorem RelL.set {α β:Type}{R:α→β→Prop}:∀{xs:List α} {cs:List β} {i:Nat} {x:α} {c:β},RelL R xs cs→xs[i]? =some x→R x c→RelL R xs (cs.set i c)
 |[],_,i,x,c,_,h,_=>by simp at h
 |y::xs,[],i,x,c,h,_,_=>h.elim
 |y::xs,d::cs,0,x,c,h,hx,hc=>by
  simp at hx;subst hx;exact⟨hc,h.2⟩
 |y::xs,d::cs,i+1,x,c,h,hx,hc=>⟨h.1,RelL.set h.2 (by simpa using hx) hc⟩
theorem Own.put {w:World}{base:Nat}{e:TypeId}{z n c:Nat}{A:Option Addr}{xs:List Value}(h:Own w base e z A n c xs){j:Nat}(hj:j<n*z)(u:Value):
 ∃g,A=some ⟨g,0,none⟩∧base≤g∧w.frozen? ⟨g,j,none⟩=false∧w.cell? ⟨g,j,none⟩=xs[j]?∧Own (w.setCell ⟨g,j,none⟩ u) base e z A n c (xs.set j u):=by
 obtain⟨h1,h2⟩:=h;rcases h2 with⟨_,h0⟩|⟨g,cap,cur,hv,hb,hg,hnc,hcap,hsz,htk⟩
 ·rw[h0]at hj;omega
 ·cases hv
  have hbx:Bx w g cur e:=hg;refine⟨g,rfl,hb,hbx.frozen j,?_,?_,.inr ⟨g,c,_,rfl,hb,hbx.set j u,hnc,hcap,by simpa using hsz,?_⟩⟩
  ·rw[hbx.cell,←htk,List.getElem?_take,if_pos hj];simp
  ·simpa using h1
  ·rw[Array.toList_setIfInBounds,List.take_set,htk]
theorem Own.putg {w:World}{base:Nat}{e:TypeId}{z n c g:Nat}{xs:List Value}(h:Own w base e z (some ⟨g,0,none⟩) n c xs){j:Nat}(hj:j<n*z)(u:Value):
 w.frozen? ⟨g,j,none⟩=false∧w.cell? ⟨g,j,none⟩=xs[j]?∧Own (w.setCell ⟨g,j,none⟩ u) base e z (some ⟨g,0,none⟩) n c (xs.set j u):=by
 obtain⟨g',e1,_,h1,h2,h3⟩:=h.put hj u;cases e1
 exact⟨h1,h2,h3⟩
structure JoSt (l:List SpanV)(w wr:World)(i:Nat)(A:Option Addr)(m cc:Nat)(out:List SpanV):Prop where
 eq:joinM (l.take i)=out
 own:Own wr w.heap.size 88 4 A m cc (SpanV.cells out)
 kp:Kp w wr
theorem join_step {l:List SpanV}{i:Nat}{out:List SpanV}{x:SpanV}(h:joinM (l.take i)=out)(hx:l[i]? =some x):joinM (l.take (i+1))=joinS out x:=by
 rw[List.take_add_one,hx];simp only[Option.toList_some];rw[joinM_snoc,h]
theorem cells_set {out:List SpanV}{p:SpanV}{k:Nat}(h:out.length=k+1)(hp:out.getLast? =some p)(t:Int):(SpanV.cells out).set (k*4+1) (.int .i64 t)=SpanV.cells (out.dropLast++[{p with t:=t}]):=by
 have hp':out[k]? =some p:=by rw[List.getLast?_eq_getElem?,h]at hp;exact hp
 unfold SpanV.cells;rw[flatten_set 4 _ k 1 p.c _ (SpanV.c4 out) (by simp[hp']) (by omega)]
 congr 1
 rw[List.map_append];have e:out=out.dropLast++[p]:=by
  have hne:out≠[]:=by intro e;rw[e]at h;simp at h
  have h2:=List.dropLast_concat_getLast hne;rw[List.getLast?_eq_some_getLast hne]at hp;rw[←Option.some.inj hp];exact h2.symm
 have hk:out.dropLast.length=k:=by simp[h]
 generalize out.dropLast=o at *;subst hk;rw[e,List.map_append,List.set_append_right _ _ (by simp)];simp[SpanV.c]
def joinB (out:List SpanV)(s:SpanV):Bool:=match out.getLast? with
 |some p=>meets p s
 |none=>false
theorem joinS_app {out:List SpanV}{s:SpanV}(h:joinB out s=false):joinS out s=out++[s]:=by
 unfold joinB at h;unfold joinS;rcases hl:out.getLast? with _|p
 ·rw[List.getLast?_eq_none_iff]at hl;rw[hl];rfl
 ·rw[hl]at h
  dsimp only at h⊢;rw[h,if_neg (by simp)]
theorem joinS_met {out:List SpanV}{s:SpanV}(h:joinB out s=true):∃p,out.getLast? =some p∧meets p s=true∧joinS out s=out.dropLast++[{p with t:=s.t}]:=by
 unfold joinB at h;unfold joinS;rcases hl:out.getLast? with _|p
 ·rw[hl]at h;simp at h
 ·rw[hl]at h
  dsimp only at h⊢;exact⟨p,rfl,h,by rw[if_pos h]⟩
theorem joined_any (F:Nat→Prop)(A:Option Addr)(n c:Nat)(l:List SpanV)(w:World)(h:SpW w F A n c l)(hl:∀x∈l,x.Ok)(hn:n≤1099511627776):
 Calls Tryz.prog 55 #[.slice A n c] w fun en w'=>∃A' n' c',en=.returned (.slice A' n' c')∧Own w' w.heap.size 88 4 A' n' c' (SpanV.cells (joinM l))∧Kp w w':=by
 have HLN:=hid h.len;have hle:=Sl.le h;have hcap:=Sl.cap h;unfold maxLen at hcap;obtain⟨H,HJ,HXO⟩:=hid3 h (joinM_ok l hl) hl;clear h hl;go_enter Tryz.func55,Tryz.ntmps55;go_wp2_with fail;go_loopw [9,3] (fun v u wr=>∃(i m cc:Nat) (A1:Option Addr) (out:List SpanV),v=.int .i64 i∧u=.slice A1 m cc∧i≤n∧m≤i∧Hid (JoSt l w wr i A1 m cc out)) (fun v _ _=>n - (intOf v).toNat)
 case atStart=>exact⟨0,0,0,none,[],rfl,rfl,Nat.zero_le _,le_,⟨rfl,Own.nil _ _ _ _,Kp.refl w⟩⟩
 case round=>
  obtain⟨i,m,cc,A1,out,rfl,rfl,hi,hmi,hst⟩:=hrel;by_cases hlt:i<n
  ·obtain⟨⟨xf,xt,xa,xb⟩,hx⟩:∃x,l[i]? =some x:=⟨_,List.getElem?_eq_getElem (by rw[HLN.out];exact hlt)⟩
   obtain⟨ad,rfl,e0,e1,e2,e3⟩:=SpW.get (H.out.kp hst.out.kp) hx;obtain⟨HJS,HX,HEQ⟩:=hid3 (join_step hst.out.eq hx) hx hst.out.eq;clear hx;go_upto_region 6 with fail;have ka:=(Kp.refl wr).alloc (.cells #[.int .i64 xf,.int .i64 xt,.int .i64 xa,.int .i64 xb] 88);have bX:=Bx.new wr #[.int .i64 xf,.int .i64 xt,.int .i64 xa,.int .i64 xb] 88;have ho1:=hst.out.own.kp ka;obtain⟨HXr,K1⟩:=hid2 (show∀g,zB A1=some g→g<wr.heap.size from fun g e=>(hst.out.own.lt g e).2) (hst.out.kp.trans ka);have hwz:=hst.out.kp.size;obtain⟨X,hX⟩:∃X,X=wr.heap.size:=⟨_,rfl⟩;rw[←hX]at bX HXr hwz⊢;have HO1:=hid ho1;clear e0 e1 e2 e3 hX ka hst ho1;generalize(wr.alloc (.cells #[.int .i64 xf,.int .i64 xt,.int .i64 xa,.int .i64 xb] 88))=w1 at *;obtain⟨y0,y1,y2,y3,y4,y5,y6,y7⟩:=bX.four;obtain⟨kb,hkb⟩:∃kb,kb=joinB out ⟨xf,xt,xa,xb⟩:=⟨_,rfl⟩;have HKB:=hid hkb;have hml:out.length=m:=by have:=HO1.out.len;rw[SpanV.cells_len]at this;omega
   have HML:=hid hml;clear hkb hml;go_cut [48] (fun v wx=>v=.bool kb∧Dr w1 wx)
   case first=>
    by_cases h0:m=0
    ·have HV:Hid (kb=false):=by
      show _=_;rw[HKB.out,show out=[]from List.eq_nil_of_length_eq_zero (by rw[HML.out,h0])];rfl
     have q1:decide ((0:Int)≤(m:Int) - 1)=false:=by simp;omega
     have q2:decide ((1:Int)≤(m:Int))=false:=by simp;omega
     clear h0;go_quiet (fail);go_wp2_with fail;go_meet;exact⟨by rw[HV.out],⟨_,rfl⟩⟩
    ·obtain⟨k,hk⟩:∃k,m=k+1:=⟨m - 1,by omega⟩
     obtain⟨p,hp⟩:∃p,out[k]? =some p:=⟨_,List.getElem?_eq_getElem (by rw[HML.out];omega)⟩;have hlast:out.getLast? =some p:=by rw[List.getLast?_eq_getElem?,HML.out,hk];exact hp
     have HV0:Hid (kb=meets p ⟨xf,xt,xa,xb⟩):=by show _=_;rw[HKB.out];unfold joinB;rw[hlast]
     obtain⟨c0,c1,c2,c3⟩:=SpanV.cells_at hp;obtain⟨g,rfl,hg,_,_,_⟩:=HO1.out.put (j:=k*4) (by omega) (.int .i64 0);have d1:=(Own.putg HO1.out (j:=k*4+1) (by omega) (.int .i64 0)).2.1;have d2:=(Own.putg HO1.out (j:=k*4+2) (by omega) (.int .i64 0)).2.1;have d3:=(Own.putg HO1.out (j:=k*4+3) (by omega) (.int .i64 0)).2.1;rw[c1]at d1;rw[c2]at d2;rw[c3]at d3;have hpk:=(HJ.out i (by rw[HLN.out];exact hi)).1;rw[HEQ.out]at hpk;have hpo:=hpk p (List.mem_of_getElem? hp);obtain⟨pf,pt,pa,pb⟩:=p;have hpt:=hpo.t1;have hpt0:=hpo.f0;have hpt1:=hpo.ft;dsimp only at d1 d2 d3 hpt hpt0 hpt1;have t1:((m:Int) - 1).toNat=k:=by omega
     have t2:(0:Int)≤(m:Int) - 1:=by omega
     have t3:((m:Int) - 1)<(m:Int):=by omega
     have t4:IntKind.i64.wrap (pt+1)=pt+1:=zV (by omega) (by omega);have q1:decide ((0:Int)≤(m:Int) - 1)=true:=by simp;omega
     have q2:decide ((1:Int)≤(m:Int))=true:=by simp;omega
     clear h0 hp hlast c0 c1 c2 c3 hpk hpo hpt hpt0 hpt1;by_cases b1:pt+1=xf
     ·subst b1
      by_cases b2:pa=xa
      ·subst b2
       by_cases b3:pb=xb
       ·subst b3
        have HV:Hid (kb=true):=by show _=_;rw[HV0.out];unfold meets;simp
        clear HV0;go_quiet (fail);go_wp2_with fail;go_meet;exact⟨by rw[HV.out],⟨_,rfl⟩⟩
       ·have HV:Hid (kb=false):=by show _=_;rw[HV0.out];unfold meets;simp[b3]
        have q3:(pb==xb)=false:=by simpa using b3
        have q4:decide (pb=xb)=false:=by simpa using b3
        clear b3 HV0;go_quiet (fail);go_wp2_with fail;go_meet;exact⟨by rw[HV.out],⟨_,rfl⟩⟩
      ·have HV:Hid (kb=false):=by show _=_;rw[HV0.out];unfold meets;simp[b2]
       have q3:(pa==xa)=false:=by simpa using b2
       have q4:decide (pa=xa)=false:=by simpa using b2
       clear b2 HV0;go_quiet (fail);go_wp2_with fail;go_meet;exact⟨by rw[HV.out],⟨_,rfl⟩⟩
     ·have HV:Hid (kb=false):=by show _=_;rw[HV0.out];unfold meets;simp[b1]
      have q3:(pt+1==xf)=false:=by simpa using b1
      have q4:decide (pt+1=xf)=false:=by simpa using b1
      clear b1 HV0;go_quiet (fail);go_wp2_with fail;go_meet;exact⟨by rw[HV.out],⟨_,rfl⟩⟩
   case rest=>
    obtain⟨rfl,hdr⟩:=hcut;have bX2:=bX.kp hdr.kp;obtain⟨HO2,K2⟩:=hid2 (HO1.out.kp hdr.kp) (K1.out.trans hdr.kp);have hX2:=bX2.lt;clear y0 y1 y2 y3 y4 y5 y6 y7 bX hdr HO1 K1;obtain⟨y0,y1,y2,y3,y4,y5,y6,y7⟩:=bX2.four;cases kb with
    |true=>
     obtain⟨p,hlast,_,hj⟩:=joinS_met HKB.out.symm;obtain⟨k,hk⟩:∃k,m=k+1:=⟨m - 1,by rcases m with _|m;rw[List.eq_nil_of_length_eq_zero HML.out]at hlast;cases hlast;omega⟩;obtain⟨g,rfl,hg,fz,hcell,hput⟩:=HO2.out.put (j:=k*4+1) (by omega) (.int .i64 xt);rw[cells_set (by rw[HML.out,hk]) hlast]at hput;have hgz:=HXr.out g rfl;have hst2:Hid (JoSt l w (wc.setCell ⟨g,k*4+1,none⟩ (.int .i64 xt)) (i+1) (some ⟨g,0,none⟩) m cc (out.dropLast++[{p with t:=xt}])):=⟨by rw[HJS.out,hj],hput,K2.out.setCell (p:=⟨g,k*4+1,none⟩) hg _⟩;obtain⟨v,hv⟩:∃v,wc.cell? ⟨g,k*4+1,none⟩=some v:=by
      rw[hcell];have h1:out[k]? =some p:=by rw[List.getLast?_eq_getElem?,HML.out,hk]at hlast;exact hlast
      exact⟨_,(SpanV.cells_at h1).2.1⟩
     have t1:((m:Int) - 1).toNat=k:=by omega
     have t2:(0:Int)≤(m:Int) - 1:=by omega
     have t3:((m:Int) - 1)<(m:Int):=by omega
     clear hput hcell hj hlast;go_wp2_with fail;exact⟨⟨i+1,m,cc,_,_,by simp,rfl,hlt,by omega,hst2⟩,by simp[intOf];omega⟩
    |false=>
     have hst2:=hid (HJS.out.trans (joinS_app HKB.out.symm));go_wp2_with (at_builtin;refine zA _ rfl _ _ _ rfl w.heap.size 88 _ 4 32 Tryz.underlying85 infoSpan rfl (by omega) A1 m cc (SpanV.cells out) rfl (HO2.out.alloc _) Any _ 1 1 [.int .i64 xf,.int .i64 xt,.int .i64 xa,.int .i64 xb] rfl (Sl.new wc #[.int .i64 xf,.int .i64 xt,.int .i64 xa,.int .i64 xb] _ 4 1 trivial rfl (by omega)) (by simp[Value.oneCell']) (by simp only[maxLen];omega) (by omega) (by simp;omega) ?_;intro A4 c4 w4 ho4 hg4 hat4);exact⟨⟨i+1,m+1,c4,A4,out++[⟨xf,xt,xa,xb⟩],by simp,rfl,hlt,by omega,⟨hst2.out,by rw[SpanV.cells_app];exact ho4,(K2.out.alloc (.cells #[.int .i64 xf,.int .i64 xt,.int .i64 xa,.int .i64 xb] 88)).grown hg4 fun g e=>(HO2.out.lt g e).1⟩⟩,by simp[intOf];omega⟩
  ·obtain rfl:i=n:=by omega
   have heq:=hst.out.eq;rw[List.take_of_length_le (by rw[HLN.out];exact le_)]at heq;have HEQ:=hid heq;clear heq;go_wp2_with fail;go_ret;exact⟨A1,m,cc,rfl,by rw[HEQ.out];exact hst.out.own,hst.out.kp⟩
def cmpA (s:SpanV)(r:Int):Int:=if s.t<r then -1 else if r<s.f then 1 else 0
theorem at1_any (s:SpanV)(r:Int)(w:World):Calls Tryz.prog 90 #[.agg #[.int .i64 s.f,.int .i64 s.t,.int .i64 s.a,.int .i64 s.b],.int .i64 r] w fun en w'=>en=.returned (.int .i64 (cmpA s r))∧Kp w w':=by
 obtain⟨f,t,a,b⟩:=s;dsimp only;by_cases h1:t<r
 ·have HV:Hid (cmpA ⟨f,t,a,b⟩ r= -1):=by show _=_;unfold cmpA;rw[if_pos h1]
  rw[HV.out];go_enter Tryz.func90,Tryz.ntmps90;go_wp2_with fail;go_ret;exact⟨rfl,(Kp.refl _).alloc _⟩
 ·by_cases h2:r<f
  ·have HV:Hid (cmpA ⟨f,t,a,b⟩ r=1):=by show _=_;unfold cmpA;rw[if_neg h1,if_pos h2]
   rw[HV.out];go_enter Tryz.func90,Tryz.ntmps90;go_wp2_with fail;go_ret;exact⟨rfl,(Kp.refl _).alloc _⟩
  ·have HV:Hid (cmpA ⟨f,t,a,b⟩ r=0):=by show _=_;unfold cmpA;rw[if_neg h1,if_neg h2]
   rw[HV.out];go_enter Tryz.func90,Tryz.ntmps90;go_wp2_with fail;go_ret;exact⟨rfl,(Kp.refl _).alloc _⟩
def RetBsf (l:List SpanV)(r:Int)(w:World)(en:Ending)(w':World):Prop:=∃(i:Nat) (ok:Bool),en=.returned (.tuple #[.int .i64 i,.bool ok])∧(ok=true→∃s,l[i]? =some s∧cmpA s r=0)∧Kp w w'
theorem bsf_any (F:Nat→Prop)(A:Option Addr)(n c:Nat)(l:List SpanV)(r:Int)(w:World)(hl:SpW w F A n c l)(hn:n≤1099511627776):
 Calls Tryz.prog 89 #[.slice A n c,.int .i64 r,.func (.func 90) #[] #[]] w (RetBsf l r w):=by
 have hle:=Sl.le hl;have hcap:=Sl.cap hl;unfold maxLen at hcap;obtain⟨HL,H⟩:=hid2 hl.len hl;clear hl;go_enter Tryz.func89,Tryz.ntmps89;go_wp2_with fail;go_loopw [9,10] (fun u v wr=>∃i j:Nat,u=.int .i64 i∧v=.int .i64 j∧i≤j∧j≤n∧Kp w wr) (fun u v _=>(intOf v - intOf u).toNat)
 case atStart=>exact⟨0,n,rfl,rfl,Nat.zero_le _,le_,Kp.refl w⟩
 case round=>
  obtain⟨i,j,rfl,rfl,hij,hjn,kr⟩:=hrel;by_cases hlt:i<j
  ·have hmid:(i+j) / 2<n:=by omega
   obtain⟨s,hs⟩:∃s,l[(i+j) / 2]? =some s:=⟨_,List.getElem?_eq_getElem (by rw[HL.out];exact hmid)⟩;obtain⟨ad,rfl,e0,e1,e2,e3⟩:=SpW.get (H.out.kp kr) hs;clear hs;have HA:=hid (at1_any s r wr);obtain⟨f,t,a,b⟩:=s;dsimp only at e0 e1 e2 e3 HA;obtain⟨v,hv⟩:∃v,v=cmpA ⟨f,t,a,b⟩ r:=⟨_,rfl⟩;rw[←hv]at HA;clear hv;go_wp2_with (refine HA.out.mono ?_;rintro en w1 ⟨rfl,k1⟩)
   ·exact⟨⟨(i+j) / 2+1,j,by rw[show((i:Int)+(j:Int)) / 2+1=(((i+j) / 2+1:Nat):Int) by omega],rfl,by omega,hjn,kr.trans k1⟩,by simp[intOf];omega⟩
   ·exact⟨⟨i,(i+j) / 2,rfl,by rw[show((i:Int)+(j:Int)) / 2=(((i+j) / 2:Nat):Int) by omega],by omega,by omega,kr.trans k1⟩,by simp[intOf];omega⟩
  ·obtain rfl:i=j:=by omega
   by_cases hin:i<n
   ·obtain⟨s,hs⟩:∃s,l[i]? =some s:=⟨_,List.getElem?_eq_getElem (by rw[HL.out];exact hin)⟩
    obtain⟨ad,rfl,e0,e1,e2,e3⟩:=SpW.get (H.out.kp kr) hs;have HS:=hid hs;clear hs;have HA:=hid (at1_any s r wr);obtain⟨v,hv⟩:∃v,v=cmpA s r:=⟨_,rfl⟩;have HVV:=hid hv;rw[←hv]at HA;clear hv;obtain⟨f,t,a,b⟩:=s;dsimp only at e0 e1 e2 e3 HA;rcases hq:(v==0)with _|_
    ·go_wp2_with (refine HA.out.mono ?_;rintro en w1 ⟨rfl,k1⟩)
     go_ret2;exact⟨i,false,rfl,(fun h=>by cases h),kr.trans k1⟩
    ·have hv0:v=0:=by simpa using hq
     have HV0:=hid hv0;subst hv0;clear hq;go_wp2_with (refine HA.out.mono ?_;rintro en w1 ⟨rfl,k1⟩);go_ret2;exact⟨i,true,rfl,(fun _=>⟨_,HS.out,HVV.out.symm⟩),kr.trans k1⟩
   ·go_wp2_with fail
    go_ret2;exact⟨i,false,rfl,(fun h=>by cases h),kr⟩
def RetAt (l:List SpanV)(r:Int)(w:World)(en:Ending)(w':World):Prop:=∃(s:SpanV) (ok:Bool),en=.returned (.tuple #[.agg s.c.toArray,.bool ok])∧(ok=true→s∈l∧s.f≤r∧r≤s.t)∧Kp w w'
theorem at_any (F:Nat→Prop)(A:Option Addr)(n c:Nat)(l:List SpanV)(r:Int)(w:World)(hl:SpW w F A n c l)(hn:n≤1099511627776)(hr:r32 r):
 Calls Tryz.prog 48 #[.slice A n c,.int .i32 r] w (RetAt l r w):=by
 have k0:=(Kp.refl w).alloc (.cells #[.int .i64 0,.int .i64 0,.int .i64 0,.int .i64 0] 88);have b0:=Bx.new w #[.int .i64 0,.int .i64 0,.int .i64 0,.int .i64 0] 88;obtain⟨H,HL⟩:=hid2 (SpW.kp hl k0) hl.len;have HB:=hid (bsf_any F A n c l r _ H.out hn);have hle:=Sl.le hl;have hcap:=Sl.cap hl;unfold maxLen at hcap;obtain⟨hr1,hr2⟩:=hr;clear hl;go_enter Tryz.func48,Tryz.ntmps48;go_upto_region 2 with(go_at_call 89;refine HB.out.mono ?_;rintro en w1 ⟨i,ok,rfl,hok,k1⟩);have hok':=hid hok;obtain⟨K1,H1⟩:=hid2 (k0.trans k1) (SpW.kp H.out k1);have b1:=b0.kp k1;have HSZ:=hid k0.size;clear hok k0 k1 b0 H HB;generalize(w.alloc (.cells #[.int .i64 0,.int .i64 0,.int .i64 0,.int .i64 0] 88))=w0 at *;obtain⟨z0,z1,z2,z3,z4,z5,z6,z7⟩:=b1.four;cases ok with
 |false=>
  go_wp2_with fail;have bw:=(((b1.set 0 (.int .i64 0)).set 1 (.int .i64 0)).set 2 (.int .i64 0)).set 3 (.int .i64 0);simp at bw;have KW:Kp w ((((w1.setCell ⟨w.heap.size,0,none⟩ (.int .i64 0)).setCell ⟨w.heap.size,1,none⟩ (.int .i64 0)).setCell ⟨w.heap.size,2,none⟩ (.int .i64 0)).setCell ⟨w.heap.size,3,none⟩ (.int .i64 0)):=(((K1.out.setCell (p:=⟨w.heap.size,0,none⟩) le_ _).setCell (p:=⟨w.heap.size,1,none⟩) le_ _).setCell (p:=⟨w.heap.size,2,none⟩) le_ _).setCell (p:=⟨w.heap.size,3,none⟩) le_ _;generalize((((w1.setCell ⟨w.heap.size,0,none⟩ (.int .i64 0)).setCell ⟨w.heap.size,1,none⟩ (.int .i64 0)).setCell ⟨w.heap.size,2,none⟩ (.int .i64 0)).setCell ⟨w.heap.size,3,none⟩ (.int .i64 0))=w2 at *;obtain⟨g0,g1,g2,g3,g4,g5,g6,g7⟩:=bw.four;refine bodyPost_ret (v:=.tuple #[.agg #[.int .i64 0,.int .i64 0,.int .i64 0,.int .i64 0],.bool false]) (by simp[results,Tryz.results48,go_sem,g0,g1,g2,g3]) rfl ?_;exact⟨⟨0,0,0,0⟩,false,rfl,(fun h=>by cases h),KW⟩
 |true=>
  obtain⟨s,hs,hc⟩:=hok'.out rfl;obtain⟨ad,rfl,e0,e1,e2,e3⟩:=SpW.get H1.out hs;have hin:i<n:=by have:=(List.getElem?_eq_some_iff.1 hs).1;rw[HL.out]at this;exact this
  have HR:Hid (s∈l∧s.f≤r∧r≤s.t):=by
   refine⟨List.mem_of_getElem? hs,?_⟩;unfold cmpA at hc;by_cases h1:s.t<r
   ·rw[if_pos h1]at hc;omega
   ·rw[if_neg h1]at hc
    by_cases h2:r<s.f
    ·rw[if_pos h2]at hc;omega
    ·omega
  clear hs hc;obtain⟨f,t,a,b⟩:=s;dsimp only at e0 e1 e2 e3;go_wp2_with fail;have bw:=(((b1.set 0 (.int .i64 f)).set 1 (.int .i64 t)).set 2 (.int .i64 a)).set 3 (.int .i64 b);simp at bw;have KW:Kp w ((((w1.setCell ⟨w.heap.size,0,none⟩ (.int .i64 f)).setCell ⟨w.heap.size,1,none⟩ (.int .i64 t)).setCell ⟨w.heap.size,2,none⟩ (.int .i64 a)).setCell ⟨w.heap.size,3,none⟩ (.int .i64 b)):=(((K1.out.setCell (p:=⟨w.heap.size,0,none⟩) le_ _).setCell (p:=⟨w.heap.size,1,none⟩) le_ _).setCell (p:=⟨w.heap.size,2,none⟩) le_ _).setCell (p:=⟨w.heap.size,3,none⟩) le_ _;generalize((((w1.setCell ⟨w.heap.size,0,none⟩ (.int .i64 f)).setCell ⟨w.heap.size,1,none⟩ (.int .i64 t)).setCell ⟨w.heap.size,2,none⟩ (.int .i64 a)).setCell ⟨w.heap.size,3,none⟩ (.int .i64 b))=w2 at *;obtain⟨g0,g1,g2,g3,g4,g5,g6,g7⟩:=bw.four;refine bodyPost_ret (v:=.tuple #[.agg #[.int .i64 f,.int .i64 t,.int .i64 a,.int .i64 b],.bool true]) (by simp[results,Tryz.results48,go_sem,g0,g1,g2,g3]) rfl ?_;exact⟨⟨f,t,a,b⟩,true,rfl,(fun _=>HR.out),KW⟩
end Go.Proofs.YtociefdcccokjaaGreat
namespace Go.Proofs
open Go.Shelf
def Tryz.sortSp_ren:Go.Shelf.Ren:=⟨fun|6=>54|15=>96|14=>95|28=>133|29=>134|20=>125|21=>126|22=>127|23=>128|24=>129|25=>130|26=>131|27=>132|46=>156|47=>157|48=>158|49=>159|50=>160|57=>189|n=>n,fun|22=>85|24=>88|25=>139|3=>3|39=>214|0=>0|53=>256|55=>258|4=>4|46=>250|45=>249|50=>177|5=>5|9=>9|66=>288|70=>292|76=>315|77=>191|n=>n,fun|n=>n⟩
theorem Tryz.sortSp:Go.Proofs.SlLaysF0.n6 Tryz.prog Tryz.sortSp_ren:={
 mixed:=by kernel_rfl
 f6:=⟨Tryz.f54.name,by decide,Tryz.func54.trans (congrArg some (by kernel_rfl))⟩
 f14:=⟨Tryz.f95.name,by decide,Tryz.func95.trans (congrArg some (by kernel_rfl))⟩
 f15:=Tryz.func96.trans (congrArg some (by kernel_rfl))
 f20:=⟨Tryz.f125.name,by decide,Tryz.func125.trans (congrArg some (by kernel_rfl))⟩
 f21:=⟨Tryz.f126.name,by decide,Tryz.func126.trans (congrArg some (by kernel_rfl))⟩
 f22:=⟨Tryz.f127.name,by decide,Tryz.func127.trans (congrArg some (by kernel_rfl))⟩
 f23:=⟨Tryz.f128.name,by decide,Tryz.func128.trans (congrArg some (by kernel_rfl))⟩
 f24:=⟨Tryz.f129.name,by decide,Tryz.func129.trans (congrArg some (by kernel_rfl))⟩
 f25:=⟨Tryz.f130.name,by decide,Tryz.func130.trans (congrArg some (by kernel_rfl))⟩
 f26:=⟨Tryz.f131.name,by decide,Tryz.func131.trans (congrArg some (by kernel_rfl))⟩
 f27:=⟨Tryz.f132.name,by decide,Tryz.func132.trans (congrArg some (by kernel_rfl))⟩
 f28:=Tryz.func133.trans (congrArg some (by kernel_rfl))
 f29:=Tryz.func134.trans (congrArg some (by kernel_rfl))
 f46:=⟨Tryz.f156.name,by decide,Tryz.func156.trans (congrArg some (by kernel_rfl))⟩
 f47:=Tryz.func157.trans (congrArg some (by kernel_rfl))
 f48:=Tryz.func158.trans (congrArg some (by kernel_rfl))
 f49:=⟨Tryz.f159.name,by decide,Tryz.func159.trans (congrArg some (by kernel_rfl))⟩
 f50:=⟨Tryz.f160.name,by decide,Tryz.func160.trans (congrArg some (by kernel_rfl))⟩
 f57:=⟨Tryz.f189.name,by decide,Tryz.func189.trans (congrArg some (by kernel_rfl))⟩
 t0:=Tryz.underlying0
 a0:=Tryz.isAgg0
 z0:=Tryz.sizeOf0
 v0:=Tryz.zeroValue0
 t3:=Tryz.underlying3
 a3:=Tryz.isAgg3
 z3:=Tryz.sizeOf3
 v3:=Tryz.zeroValue3
 t4:=Tryz.underlying4
 a4:=Tryz.isAgg4
 z4:=Tryz.sizeOf4
 v4:=Tryz.zeroValue4
 t5:=Tryz.underlying5
 a5:=Tryz.isAgg5
 z5:=Tryz.sizeOf5
 v5:=Tryz.zeroValue5
 t9:=Tryz.underlying9
 a9:=Tryz.isAgg9
 z9:=Tryz.sizeOf9
 v9:=Tryz.zeroValue9
 t22:=Tryz.underlying85
 a22:=Tryz.isAgg85
 z22:=Tryz.sizeOf85
 v22:=Tryz.zeroValue85
 t25:=Tryz.underlying139
 a25:=Tryz.isAgg139
 z25:=Tryz.sizeOf139
 v25:=Tryz.zeroValue139
 t39:=Tryz.underlying214
 a39:=Tryz.isAgg214
 z39:=Tryz.sizeOf214
 v39:=Tryz.zeroValue214
 t45:=Tryz.underlying249
 a45:=Tryz.isAgg249
 z45:=Tryz.sizeOf249
 v45:=Tryz.zeroValue249
 t46:=Tryz.underlying250
 a46:=Tryz.isAgg250
 z46:=Tryz.sizeOf250
 v46:=Tryz.zeroValue250
 t50:=Tryz.underlying177
 a50:=Tryz.isAgg177
 z50:=Tryz.sizeOf177
 v50:=Tryz.zeroValue177
 t53:=Tryz.underlying256
 a53:=Tryz.isAgg256
 z53:=Tryz.sizeOf256
 v53:=Tryz.zeroValue256
 t55:=Tryz.underlying258
 a55:=Tryz.isAgg258
 z55:=Tryz.sizeOf258
 v55:=Tryz.zeroValue258
 t66:=Tryz.underlying288
 a66:=Tryz.isAgg288
 z66:=Tryz.sizeOf288
 v66:=Tryz.zeroValue288
 t70:=Tryz.underlying292
 a70:=Tryz.isAgg292
 z70:=Tryz.sizeOf292
 v70:=Tryz.zeroValue292
 t76:=Tryz.underlying315
 a76:=Tryz.isAgg315
 z76:=Tryz.sizeOf315
 v76:=Tryz.zeroValue315
 t77:=Tryz.underlying191
 a77:=Tryz.isAgg191
 z77:=Tryz.sizeOf191
 v77:=Tryz.zeroValue191}
end Go.Proofs
namespace Go.Proofs.YtociefdcccokjaaGreat
open Go.RowKit Go.Lib
section
open Go.RowKit Go.Lib Go.Sort Go.Proofs
instance:Inhabited SpanV:=⟨⟨0,0,0,0⟩⟩
theorem kp_grow (w:World)(os:Array Obj):Kp w (grow w os):=⟨rfl,rfl,rfl,by simp[grow],fun k hk=>by simp[grow,Array.getElem?_append,hk]⟩
theorem of1_any (x y:SpanV)(w:World):Calls Tryz.prog 51 #[.agg #[.int .i64 x.f,.int .i64 x.t,.int .i64 x.a,.int .i64 x.b],.agg #[.int .i64 y.f,.int .i64 y.t,.int .i64 y.a,.int .i64 y.b]] w fun en w'=>en=.returned (.int .i64 (cmpI x.f y.f))∧∃q os',w'=grow (w.drewN q) os':=by
 obtain⟨f,t,a,b⟩:=x;obtain⟨f',t',a',b'⟩:=y;dsimp only;have hc:=fun wx=>compare_any f f' wx
 generalize cmpI f f'=r at hc⊢;have HC:=hid hc;clear hc;go_enter Tryz.func51,Tryz.ntmps51;go_wp2_with (go_at_call 52;refine(HC.out _).mono ?_;rintro en w1 ⟨rfl,hw⟩;subst w1);go_ret;exact⟨rfl,0,_,by rw[alloc_eq_grow,alloc_eq_grow,grow_grow];rfl⟩
theorem ltF (x y:SpanV):ltOf (fun x y:SpanV=>cmpI x.f y.f) x y=decide (x.f<y.f):=by
 unfold ltOf cmpI;by_cases h1:x.f<y.f
 ·simp[h1]
 ·by_cases h2:y.f<x.f<;>simp[h1,h2]
theorem swoF:SWO (ltOf fun x y:SpanV=>cmpI x.f y.f) where
 irrefl x:=by rw[ltF];simp
 trans x y z h1 h2:=by rw[ltF]at *;simp at *;omega
 ntrans x y z h1 h2:=by rw[ltF]at *;simp at *;omega
theorem flat_cells (l:List SpanV):flatK SpanV.c 4 l.toArray=(SpanV.cells l).toArray:=by
 refine ext_get! (by simp[SpanV.cells_len]) fun t ht=>?_
 have ht':t<l.length*4:=by simpa using ht
 rw[get_flatK _ _ _ t (by simpa using ht')];obtain⟨x,hx⟩:∃x,l[t / 4]? =some x:=⟨_,List.getElem?_eq_getElem (by omega)⟩;have hf:=yR (k:=4) (css:=l.map SpanV.c) (i:=t / 4) (r:=t % 4) (c:=x.c) (SpanV.c4 l) (by simp[hx]) (by omega);rw[show t / 4*4+t % 4=t by omega]at hf;have h1:l.toArray[t / 4]! =x:=by simp[hx]
 rw[h1];have h2:(SpanV.cells l).toArray[t]! =((SpanV.cells l)[t]?).getD default:=by simp[List.getElem!_eq_getElem?_getD]
 rw[h2,show(SpanV.cells l)[t]? =x.c[t % 4]? from hf,List.getElem!_eq_getElem?_getD]
theorem own_sorted {w:World}{base g n c q:Nat}{l l':List SpanV}{os:Array Obj}(h:Own w base 88 4 (some ⟨g,0,none⟩) n c (SpanV.cells l))(hl:l'.length=l.length):
 Own (sortWorldK SpanV.c 4 w g 0 q l'.toArray os) base 88 4 (some ⟨g,0,none⟩) n c (SpanV.cells l')∧Mu (fun k=>k=g) w (sortWorldK SpanV.c 4 w g 0 q l'.toArray os):=by
 have hlen:=h.len;rw[SpanV.cells_len]at hlen;have hH:Holds id w g 0 (SpanV.cells l).toArray:=by
  intro j hj;have hj':j<n*4:=by simpa[SpanV.cells_len,hlen]using hj
  obtain⟨h1,h2,_⟩:=h.putg hj' (.bool false);rw[Nat.zero_add];refine⟨?_,h1⟩;have hjl:j<(SpanV.cells l).length:=by rw[SpanV.cells_len,hlen];exact hj'
  rw[h2];simp[List.getElem?_eq_getElem hjl]
 unfold sortWorldK putRowK;rw[flat_cells,putRow_eq_setCells id w g 0 (SpanV.cells l).toArray (SpanV.cells l') q hH (by simp[SpanV.cells_len,hl]),List.map_id];have h':=h;obtain⟨_,h2⟩:=h';rcases h2 with⟨h0,_⟩|⟨g',cap,cur,hv,hb,hg,hnc,hcap,hsz,htk⟩
 ·cases h0
 ·cases hv
  have hbx:Bx (w.drewN q) g cur 88:=hg;have hle:n*4≤c*4:=Nat.mul_le_mul_right _ hnc;have hl4:(SpanV.cells l').length=n*4:=by rw[SpanV.cells_len,hl,hlen]
  rw[zY (SpanV.cells l') 0 (w.drewN q) cur hbx (by omega)];rw[List.take_zero,List.nil_append,Nat.zero_add];have kg:=kp_grow ((w.drewN q).setRow g (SpanV.cells l'++cur.toList.drop (SpanV.cells l').length).toArray) os;refine⟨⟨hl4,.inr ⟨g,c,_,rfl,hb,(hbx.setRow _).kp kg,hnc,hcap,?_,?_⟩⟩,((Mu.refl w).drewN q |>.setRow (S:=fun k=>k=g) rfl _).then_kp kg⟩
  ·simp;omega
  ·simp[hl4]
theorem sortSp_any (w:World)(base g n c:Nat)(l:List SpanV)(h:Own w base 88 4 (some ⟨g,0,none⟩) n c (SpanV.cells l))(hn:n≤1099511627776):
 Calls Tryz.prog 54 #[.slice (some ⟨g,0,none⟩) n c,.func (.func 51) #[] #[]] w fun en w'=>en=.returned (.tuple #[])∧∃l':List SpanV,l'.Perm l∧l'.Pairwise (fun x y=>x.f≤y.f)∧Own w' base 88 4 (some ⟨g,0,none⟩) n c (SpanV.cells l')∧Mu (fun k=>k=g) w w':=by
 have hlen:=h.len;rw[SpanV.cells_len]at hlen;have hln:l.length=n:=by omega
 have hH:HoldsK SpanV.c 4 w g 0 l.toArray:=by
  unfold HoldsK;rw[flat_cells];intro j hj;have hj':j<n*4:=by simpa[SpanV.cells_len,hlen]using hj
  obtain⟨h1,h2,_⟩:=h.putg hj' (.bool false);rw[Nat.zero_add];refine⟨?_,h1⟩;have hjl:j<(SpanV.cells l).length:=by rw[SpanV.cells_len,hlen];exact hj'
  rw[h2];simp[List.getElem?_eq_getElem hjl]
 have eg:∀args w,(callFunc 51 args).run Tryz.prog w=.ok (.enter 51 args) w:=enters_of Tryz.func51 (by kernel_rfl) rfl;have hcon:=AnyQ.slices_SortFunc Tryz.sortSp 4 Tryz.isAgg88 Tryz.sizeOf88 SpanV.c (fun _=>rfl) (fun x v hv=>by simp[SpanV.c]at hv;rcases hv with rfl|rfl|rfl|rfl<;>rfl) (fun x y=>cmpI x.f y.f) swoF 51 #[] g 0 c l.toArray w eg (fun _ _ _ _ x y=>of1_any x y _) hH (h.lt g rfl).2 (by simp;omega);have hz:l.toArray.size=n:=by simp[hln]
 rw[hz]at hcon;refine Calls.mono hcon ?_;rintro en w' ⟨rfl,d',m,os,hp,hs,rfl⟩;obtain⟨p1,_,p3⟩:=hp;have hd:d'.size=n:=by rw[p1,hz]
 have e1:d'.extract 0 n=d':=by rw[←hd];simp
 have e2:l.toArray.extract 0 n=l.toArray:=by rw[←hz];simp
 rw[e1,e2]at p3;obtain⟨h1,h2⟩:=own_sorted (q:=m) (os:=os) (l':=d'.toList) h (by rw[Array.length_toList,hd,hln]);refine⟨rfl,d'.toList,by simpa using p3,?_,h1,h2⟩;rw[List.pairwise_iff_getElem];intro i j hi hj hij;have:=hs i j (Nat.zero_le _) hij (by rw[Array.length_toList,hd]at hj;exact hj);rw[ltF]at this;simp at this hi hj;rw[Array.getElem!_eq_getD,Array.getElem!_eq_getD]at this;simpa[Array.getD,hi,hj]using this
end
end Go.Proofs.YtociefdcccokjaaGreat

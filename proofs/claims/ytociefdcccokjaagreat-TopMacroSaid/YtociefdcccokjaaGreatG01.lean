/-
  Lemmas for TopMacro. Conditions: each states its own.
-/
import Derived.WalkKit
import Derived.Maps.AppendAt
import Derived.Deep.AppendLies
import Derived.Deep.Draws
import Derived.Deep.RegionHeld3
import Derived.Lib.Hide
namespace Go.Proofs.YtociefdcccokjaaGreat
open Go.RowKit Go.Lib
theorem hid {p:Prop} (h:p):Hid p:=h
theorem le_ {n:Nat}:n≤n:=Nat.le_refl n
theorem hid2 {a b:Prop} (a1:a) (b1:b):Hid a∧Hid b:=⟨a1,b1⟩
theorem hid3 {a b c:Prop} (a1:a) (b1:b) (c1:c):Hid a∧Hid b∧Hid c:=⟨a1,b1,c1⟩
theorem hid4 {a b c d:Prop} (a1:a) (b1:b) (c1:c) (d1:d):Hid a∧Hid b∧Hid c∧Hid d:=⟨a1,b1,c1,d1⟩
theorem hid5 {a b c d e:Prop} (a1:a) (b1:b) (c1:c) (d1:d) (e1:e):Hid a∧Hid b∧Hid c∧Hid d∧Hid e:=⟨a1,b1,c1,d1,e1⟩
theorem hid6 {a b c d e f:Prop} (a1:a) (b1:b) (c1:c) (d1:d) (e1:e) (f1:f):Hid a∧Hid b∧Hid c∧Hid d∧Hid e∧Hid f:=⟨a1,b1,c1,d1,e1,f1⟩
theorem hid7 {a b c d e f g:Prop} (a1:a) (b1:b) (c1:c) (d1:d) (e1:e) (f1:f) (g1:g):Hid a∧Hid b∧Hid c∧Hid d∧Hid e∧Hid f∧Hid g:=⟨a1,b1,c1,d1,e1,f1,g1⟩
theorem hid8 {a b c d e f g i:Prop} (a1:a) (b1:b) (c1:c) (d1:d) (e1:e) (f1:f) (g1:g) (i1:i):Hid a∧Hid b∧Hid c∧Hid d∧Hid e∧Hid f∧Hid g∧Hid i:=⟨a1,b1,c1,d1,e1,f1,g1,i1⟩
theorem hid9 {a b c d e f g i j:Prop} (a1:a) (b1:b) (c1:c) (d1:d) (e1:e) (f1:f) (g1:g) (i1:i) (j1:j):Hid a∧Hid b∧Hid c∧Hid d∧Hid e∧Hid f∧Hid g∧Hid i∧Hid j:=⟨a1,b1,c1,d1,e1,f1,g1,i1,j1⟩
def Kp (w w':World):Prop:=Below w.heap.size w w'
section
variable {w w' w'' w0:World}
theorem Kp.refl (w:World):Kp w w:=Below.refl _ _
theorem Kp.size (h:Kp w w'):w.heap.size≤w'.heap.size:=Below.size h
theorem Kp.below (h:Kp w w'):Below w.heap.size w w':=h
theorem Kp.trans (h:Kp w w')(k:Kp w' w''):Kp w w'':=Below.trans h (Below.mono k (Below.size h))
theorem Kp.drew (h:Kp w w'):Kp w w'.drew:=Below.drew h
theorem Kp.drewN (h:Kp w w')(n:Nat):Kp w (w'.drewN n):=⟨h.os,h.tape,h.output,h.size,h.block⟩
theorem Kp.alloc (h:Kp w w')(o:Obj):Kp w (w'.alloc o):=Below.alloc h (Below.size h) o
theorem Kp.setCell (h:Kp w w'){p:Addr}(hp:w.heap.size≤p.block)(u:Value):Kp w (w'.setCell p u):=Below.setCell h hp u
theorem Kp.grown {row:Option Nat}(h:Kp w w')(hg:w'.grownBy w'' row)(hr:∀k,row=some k→w.heap.size≤k):Kp w w'':=Below.grown h hg (Below.size h) hr
theorem Kp.cell (h:Kp w w'){p:Addr}(hp:p.block<w.heap.size):w'.cell? p=w.cell? p:=Below.cell h hp
theorem Kp.frozen (h:Kp w w'){p:Addr}(hp:p.block<w.heap.size):w'.frozen? p=w.frozen? p:=Below.frozen h hp
theorem Kp.cells (h:Kp w w'):(∀b o,b<w.heap.size→w'.cell? ⟨b,o,none⟩=w.cell? ⟨b,o,none⟩)∧(∀b o,b<w.heap.size→w'.frozen? ⟨b,o,none⟩=w.frozen? ⟨b,o,none⟩):=
 ⟨fun _ _ hb=>h.cell (p:=⟨_,_,none⟩) hb,fun _ _ hb=>h.frozen (p:=⟨_,_,none⟩) hb⟩
end
theorem block_add (a:Addr)(n:Nat):(a.add n).block=a.block:=by unfold Addr.add;split<;>rfl
theorem xN (a:Addr)(i j:Nat):(a.add i).add j=a.add (i+j):=by
 unfold Addr.add;by_cases hi:i=0<;>by_cases hj:j=0<;>simp[hi,hj,Nat.add_assoc]
theorem add_zero (a:Addr):a.add 0=a:=by simp[Addr.add]
structure Sl (w:World)(F:Nat→Prop)(size:Nat)(A:Option Addr)(n c:Nat)(vs:List Value):Prop where
 le:n≤c
 cap:c≤maxLen
 len:vs.length=n*size
 at_:0<n→∃ad,A=some ad∧F ad.block∧ad.block<w.heap.size∧∀j u,vs[j]? =some u→w.cell? (ad.add j)=some u
def Any (_:Nat):Prop:=True
def From (B k:Nat):Prop:=B≤k
def To (B k:Nat):Prop:=k<B
section
variable {w w':World}{F G:Nat→Prop}{size n c:Nat}{A:Option Addr}{vs:List Value}
theorem Sl.nil (w:World)(F:Nat→Prop)(size:Nat):Sl w F size none 0 0 []:=⟨le_,by simp[maxLen],by simp,fun h=>absurd h (by omega)⟩
theorem Sl.frame (h:Sl w F size A n c vs)(hs:w.heap.size≤w'.heap.size)(hk:∀k,F k→k<w.heap.size→w'.heap[k]? =w.heap[k]?):Sl w' F size A n c vs:=
 ⟨h.le,h.cap,h.len,fun hn=>by
  obtain⟨ad,e,hF,hb,hc⟩:=h.at_ hn;refine⟨ad,e,hF,by omega,fun j u hu=>?_⟩;rw[World.cell?_of_block (w:=w) (by rw[block_add];exact hk _ hF hb)];exact hc j u hu⟩
theorem Sl.kp (h:Sl w F size A n c vs)(k:Kp w w'):Sl w' F size A n c vs:=h.frame k.size fun i _ hi=>k.block i hi
theorem Sl.drew (h:Sl w F size A n c vs):Sl w.drew F size A n c vs:=h.kp (Kp.refl w).drew
theorem Sl.alloc (h:Sl w F size A n c vs)(o:Obj):Sl (w.alloc o) F size A n c vs:=h.kp ((Kp.refl w).alloc o)
theorem Sl.grown {row:Option Nat}(h:Sl w F size A n c vs)(hg:w.grownBy w' row)(hr:∀g,row=some g→¬F g):Sl w' F size A n c vs:=
 h.frame hg.size fun i hF hi=>hg.block i hi (fun e=>hr i e.symm hF)
theorem Sl.setCell (h:Sl w F size A n c vs){p:Addr}(hp:¬F p.block)(u:Value):Sl (w.setCell p u) F size A n c vs:=
 h.frame (by simp[World.setCell]) fun i hF _=>Below.heap_setCell w p u i (by rintro rfl;exact hp hF)
theorem Sl.weak (h:Sl w F size A n c vs)(hG:∀k,k<w.heap.size→F k→G k):Sl w G size A n c vs:=
 ⟨h.le,h.cap,h.len,fun hn=>by
  obtain⟨ad,e,hF,hb,hc⟩:=h.at_ hn;exact⟨ad,e,hG _ hb hF,hb,hc⟩⟩
theorem Sl.any (h:Sl w F size A n c vs):Sl w Any size A n c vs:=h.weak fun _ _ _=>trivial
theorem Sl.get {k:Nat}(h:Sl w F 1 A n c vs)(hk:k<n):∃ad u,A=some ad∧vs[k]? =some u∧w.cell? (ad.add k)=some u:=by
 obtain⟨ad,e,_,hb,hc⟩:=h.at_ (by omega);have hl:k<vs.length:=by have:=h.len;omega
 exact⟨ad,vs[k],e,List.getElem?_eq_getElem hl,hc k _ (List.getElem?_eq_getElem hl)⟩
theorem Sl.take {k:Nat}(h:Sl w F size A n c vs)(hk:k≤n):Sl w F size A k c (vs.take (k*size)):=by
 refine⟨by have:=h.le;omega,h.cap,?_,fun hn=>?_⟩
 ·rw[List.length_take,h.len,Nat.min_eq_left (Nat.mul_le_mul_right _ hk)]
 ·obtain⟨ad,e,hF,hb,hc⟩:=h.at_ (by omega)
  refine⟨ad,e,hF,hb,fun j u hu=>hc j u ?_⟩;rw[List.getElem?_take]at hu
  split at hu
  ·exact hu
  ·cases hu
theorem Sl.drop {k:Nat}(h:Sl w F size A n c vs)(hk:k≤n):
 Sl w F size (if c=k then A else A.map (·.add (k*size))) (n - k) (c - k) (vs.drop (k*size)):=by
 refine⟨by have:=h.le;omega,by have:=h.cap;omega,by rw[List.length_drop,h.len,Nat.sub_mul],fun hn=>?_⟩;obtain⟨ad,rfl,hF,hb,hcell⟩:=h.at_ (by omega);have:=h.le;rw[if_neg (by omega)];refine⟨ad.add (k*size),rfl,by rw[block_add];exact hF,by rw[block_add];exact hb,fun j u hu=>?_⟩;rw[xN];exact hcell _ u (by rw[←hu,List.getElem?_drop])
end
theorem Sl.new {F:Nat→Prop}(w:World)(cs:Array Value)(t:TypeId)(size n:Nat)(hF:F w.heap.size)(hs:cs.size=n*size)(hn:n≤1099511627776):Sl (w.alloc (.cells cs t)) F size (some ⟨w.heap.size,0,none⟩) n n cs.toList:=
 ⟨le_,by simp only[maxLen];omega,by simpa using hs,fun _=>⟨_,rfl,hF,by simp,World.news_of_block (heap_alloc_new w _)⟩⟩
def Own (w:World)(base:Nat)(e:TypeId)(size:Nat)(A:Option Addr)(n c:Nat)(xs:List Value):Prop:=w.ownsRow base e size (.slice A n c) n xs
def zB (A:Option Addr):Option Nat:=A.map (·.block)
section
variable {w w':World}{base:Nat}{e:TypeId}{size n c:Nat}{A:Option Addr}{xs:List Value}
theorem Own.nil (w:World)(base:Nat)(e:TypeId)(size:Nat):Own w base e size none 0 0 []:=World.ownsRow_nil _ _ _ _
theorem rowOf_own (h:Own w base e size A n c xs):(Value.slice A n c).ownBlock=zB A:=by cases A<;>rfl
theorem Own.lt (h:Own w base e size A n c xs):∀k,zB A=some k→base≤k∧k<w.heap.size:=fun k hk=>World.ownsRow.lt h k (by rw[rowOf_own h];exact hk)
theorem Own.cap (h:Own w base e size A n c xs):n≤c∧c≤maxLen:=by
 rcases h.2 with⟨h,h0⟩|⟨g,cap,cur,hv,_,_,hn,hc,_⟩
 ·cases h;simp[maxLen]
 ·cases hv;exact⟨hn,hc⟩
theorem Own.len (h:Own w base e size A n c xs):xs.length=n*size:=h.1
theorem Own.sl (h:Own w base e size A n c xs):Sl w (From base) size A n c xs:=
 ⟨h.cap.1,h.cap.2,h.1,fun hn=>by
  obtain⟨g,cap,hv,hb,hlt⟩:=World.ownsRow.form h hn;cases hv
  exact⟨_,rfl,hb,hlt,World.ownsRow.cells h (g:=g) rfl⟩⟩
theorem Own.frame (h:Own w base e size A n c xs)(hs:∀k,zB A=some k→w'.heap[k]? =w.heap[k]?):Own w' base e size A n c xs:=by
 refine⟨h.1,?_⟩;rcases h.2 with hn|⟨g,cap,cur,hv,hb,hgg,rest⟩
 ·exact .inl hn
 ·refine .inr ⟨g,cap,cur,hv,hb,?_,rest⟩
  cases hv
  rw[hs g rfl];exact hgg
theorem Own.kp (h:Own w base e size A n c xs)(k:Kp w w'):Own w' base e size A n c xs:=h.frame fun i hi=>k.block i (h.lt i hi).2
theorem Own.drew (h:Own w base e size A n c xs):Own w.drew base e size A n c xs:=h
theorem Own.alloc (h:Own w base e size A n c xs)(o:Obj):Own (w.alloc o) base e size A n c xs:=h.kp ((Kp.refl w).alloc o)
theorem Own.grown {row:Option Nat}(h:Own w base e size A n c xs)(hg:w.grownBy w' row)(hr:∀g,zB A=some g→row≠some g):Own w' base e size A n c xs:=
 h.frame fun i hi=>hg.block i (h.lt i hi).2 (fun e=>hr i hi e.symm)
theorem Own.setCell (h:Own w base e size A n c xs){p:Addr}(hp:zB A≠some p.block)(u:Value):Own (w.setCell p u) base e size A n c xs:=
 h.frame fun i hi=>Below.heap_setCell w p u i (by rintro rfl;exact hp hi)
theorem Own.more {base':Nat}(h:Own w base e size A n c xs)(hb:base'≤base):Own w base' e size A n c xs:=by
 refine⟨h.1,?_⟩;rcases h.2 with hn|⟨g,cap,cur,hv,hg,rest⟩
 ·exact .inl hn
 ·exact .inr ⟨g,cap,cur,hv,by omega,rest⟩
end
theorem grown_cells {w w':World}{row:Option Nat}{B:Nat}(hg:w.grownBy w' row)(hr:∀k,row=some k→B≤k)(hB:B≤w.heap.size):
 (∀b o,b<B→w'.cell? ⟨b,o,none⟩=w.cell? ⟨b,o,none⟩)∧(∀b o,b<B→w'.frozen? ⟨b,o,none⟩=w.frozen? ⟨b,o,none⟩):=by
 have hb:∀k,k<B→w'.heap[k]? =w.heap[k]? :=fun k hk=>hg.block k (by omega) (fun e=>by have:=hr k e.symm;omega)
 exact⟨fun b o h=>World.cell?_of_block (hb b h),fun b o h=>World.frozen?_of_block (hb b h)⟩
section
variable {P:Program}(w:World)
theorem run_append_sl (base:Nat)(t ty e:TypeId)(i:TypeInfo)(z:Value)(size bytes:Nat)(ht:P.underlying t=some (.slice e))(hi:P.info? e=some i)(hz:i.zero=some z)
 (hsize:i.size=size)(hby:i.bytes=bytes)(hzs:z.cells.size=size)(hsz:0<size)
 (A:Option Addr)(n c:Nat)(xs:List Value)(hown:Own w base e size A n c xs)
 (F:Nat→Prop)(B:Option Addr)(m d:Nat)(news:List Value)(hr:Sl w F size B m d news)(h1:∀u∈news,u.oneCell'=true)
 (h63:n+m≤maxLen)(hbytes:(n+m)*bytes≤140737488355328)(hbase:base≤w.heap.size):
 ∃A' c' w',(Builtin.append_ #[t,t] ty #[.slice A n c,.slice B m d]).run P w=.ok (.slice A' (n+m) c') w'∧Own w' base e size A' (n+m) c' (xs++news)∧w.grownBy w' (zB A)∧
  (zB A'=zB A∨zB A'=some w.heap.size):=by
 have hform:∀{v':Value} {w':World},w'.ownsRow base e size v' (n+m) (xs++news)→∃A' c',v'=.slice A' (n+m) c':=by
  intro v' w' h;rcases h.2 with⟨rfl,h0⟩|⟨g,cap,cur,rfl,_⟩
  ·exact⟨none,0,by rw[h0]⟩
  ·exact⟨_,_,rfl⟩
 rcases B with _|ad
 ·have hm:m=0:=by
   rcases Nat.eq_zero_or_pos m with h0|h0
   ·exact h0
   ·obtain⟨ad,h,_⟩:=hr.at_ h0
    cases h
  subst hm;have hn:news=[]:=List.eq_nil_of_length_eq_zero (by simpa using hr.len);subst hn;refine⟨A,c,w,?_,by simpa using hown,World.grownBy.refl w _,.inl rfl⟩;rcases hown.2 with⟨h0,h0'⟩|⟨g,cap,cur,hv,_,_,hnc,_⟩
  ·cases h0
   simp[Builtin.append_,run_underlying ht,sizeOf,typeInfo,hi,Builtin.lenOf,Builtin.firstCells]
  ·cases hv
   simp[Builtin.append_,run_underlying ht,sizeOf,typeInfo,hi,Builtin.lenOf,Builtin.firstCells,hnc,storeCells]
 ·have hc:∀j u,news[j]? =some u→w.cell? (ad.add j)=some u:=by
   rcases Nat.eq_zero_or_pos m with h0|h0
   ·have hn:news=[]:=List.eq_nil_of_length_eq_zero (by rw[hr.len,h0,Nat.zero_mul])
    subst hn;intro j u hu;simp at hu
   ·obtain⟨ad',h,_,_,hc⟩:=hr.at_ h0
    cases h
    exact hc
  obtain⟨v',w',hrun,h2,h3,_,h5⟩:=run_append_own_at (P:=P) w base t ty e i z size bytes ht hi hz hsize hby hzs hsz (.slice A n c) n xs hown ad m d news hr.len hc h1 h63 hbytes hbase;obtain⟨A',c',rfl⟩:=hform h2;refine⟨A',c',w',hrun,h2,by rw[←rowOf_own hown];exact h3,?_⟩;rw[rowOf_own hown]at h5;rcases h5 with h5|h5
  ·exact .inl (by rw[←h5];cases A'<;>rfl)
  ·exact .inr (by rw[←h5];cases A'<;>rfl)
theorem wp_append_sl {o:Oper}{a:Act}{K:Act→World→Prop}{Q:Exit→Act→World→Prop}(s x:Operand)(t:TypeId)
 (ho:o.op=.call {callee:=.builtin .append,args:=#[s,x],argTypes:=#[t,t]})
 (base:Nat)(e:TypeId)(z:Value)(size bytes:Nat)(ht:P.underlying t=some (.slice e))(hI:(P.info? e).map (fun i=>(i.zero,i.size,i.bytes))=some (some z,size,bytes))
 (hzs:z.cells.size=size)(hsz:0<size)
 (A:Option Addr)(n c:Nat)(xs:List Value)(hs:a.eval s=.slice A n c)(hown:Own w base e size A n c xs)
 (F:Nat→Prop)(B:Option Addr)(m d:Nat)(news:List Value)(hx:a.eval x=.slice B m d)(hr:Sl w F size B m d news)(h1:∀u∈news,u.oneCell'=true)
 (h63:n+m≤maxLen)(hbytes:(n+m)*bytes≤140737488355328)(hbase:base≤w.heap.size)
 (h:∀A' c' w',Own w' base e size A' (n+m) c' (xs++news)→w.grownBy w' (zB A)→(zB A'=zB A∨zB A'=some w.heap.size)→K (a.put o.dst (.slice A' (n+m) c')) w'):o.wp P a w K Q:=by
 obtain⟨i,hi,hz,hsize,hby⟩:=info_parts hI;obtain⟨A',c',w',hrun,h2,h3,h4⟩:=run_append_sl (P:=P) w base t o.type e i z size bytes ht hi hz hsize hby hzs hsz A n c xs hown F B m d news hr h1 h63 hbytes hbase;unfold Oper.wp execOp;simp only[ho,resolve,invoke,builtin,Sem.run_bind,Sem.run_pure,Result.andThen_ok,List.map_toArray,List.map_cons,List.map_nil,hs,hx,hrun];exact h A' c' w' h2 h3 h4
theorem zA {ops:Array Oper}{rest:List Oper}{o:Oper}{a:Act}{Q:Exit→Act→World→Prop}(hgd:o.guard=none)(s x:Operand)(t:TypeId)
 (ho:o.op=.call {callee:=.builtin .append,args:=#[s,x],argTypes:=#[t,t]})
 (base:Nat)(e:TypeId)(z:Value)(size bytes:Nat)(ht:P.underlying t=some (.slice e))(hI:(P.info? e).map (fun i=>(i.zero,i.size,i.bytes))=some (some z,size,bytes))
 (hzs:z.cells.size=size)(hsz:0<size)
 (A:Option Addr)(n c:Nat)(xs:List Value)(hs:a.eval s=.slice A n c)(hown:Own w base e size A n c xs)
 (F:Nat→Prop)(B:Option Addr)(m d:Nat)(news:List Value)(hx:a.eval x=.slice B m d)(hr:Sl w F size B m d news)(h1:∀u∈news,u.oneCell'=true)
 (h63:n+m≤maxLen)(hbytes:(n+m)*bytes≤140737488355328)(hbase:base≤w.heap.size)
 (h:∀A' c' w',Own w' base e size A' (n+m) c' (xs++news)→w.grownBy w' (zB A)→(zB A'=zB A∨zB A'=some w.heap.size)→wpList P ops Q rest (a.put o.dst (.slice A' (n+m) c')) w'):
 wpList P ops Q (o::rest) a w:=
 wpList_plain hgd fun _ hK=>wp_append_sl w s x t ho base e z size bytes ht hI hzs hsz A n c xs hs hown F B m d news hx hr h1 h63 hbytes hbase fun A' c' w' h2 h3 h4=>hK _ _ (h A' c' w' h2 h3 h4)
theorem zJ {ops:Array Oper}{o:Oper}{a:Act}{K:Act→World→Prop}{Q:Exit→Act→World→Prop}{E:Prop}(hgd:o.guard=none)(s x:Operand)(t:TypeId)
 (ho:o.op=.call {callee:=.builtin .append,args:=#[s,x],argTypes:=#[t,t]})
 (base:Nat)(e:TypeId)(z:Value)(size bytes:Nat)(ht:P.underlying t=some (.slice e))(hI:(P.info? e).map (fun i=>(i.zero,i.size,i.bytes))=some (some z,size,bytes))
 (hzs:z.cells.size=size)(hsz:0<size)
 (A:Option Addr)(n c:Nat)(xs:List Value)(hs:a.eval s=.slice A n c)(hown:Own w base e size A n c xs)
 (F:Nat→Prop)(B:Option Addr)(m d:Nat)(news:List Value)(hx:a.eval x=.slice B m d)(hr:Sl w F size B m d news)(h1:∀u∈news,u.oneCell'=true)
 (h63:n+m≤maxLen)(hbytes:(n+m)*bytes≤140737488355328)(hbase:base≤w.heap.size)
 (h:∀A' c' w',Own w' base e size A' (n+m) c' (xs++news)→w.grownBy w' (zB A)→(zB A'=zB A∨zB A'=some w.heap.size)→K (a.put o.dst (.slice A' (n+m) c')) w'):
 if Region.wanted o (yielded ops a.tmps)=true then Oper.wp P o a w K Q else E:=by
 have hw:Region.wanted o (yielded ops a.tmps)=true:=by simp[Region.wanted,hgd]
 rw[if_pos hw];exact wp_append_sl w s x t ho base e z size bytes ht hI hzs hsz A n c xs hs hown F B m d news hx hr h1 h63 hbytes hbase h
end
def Bx (w:World)(b:Nat)(cs:Array Value)(t:TypeId):Prop:=w.heap[b]? =some (.cells cs t (0,0))
section
variable {w w':World}{b:Nat}{cs:Array Value}{t:TypeId}
theorem Bx.lt (h:Bx w b cs t):b<w.heap.size:=by
 rcases Nat.lt_or_ge b w.heap.size with hlt|hge
 ·exact hlt
 ·unfold Bx at h;rw[Array.getElem?_eq_none hge]at h;cases h
theorem Bx.new (w:World)(cs:Array Value)(t:TypeId):Bx (w.alloc (.cells cs t)) w.heap.size cs t:=heap_alloc_new w _
theorem Bx.kp (h:Bx w b cs t)(k:Kp w w'):Bx w' b cs t:=(k.block b h.lt).trans h
theorem Bx.drew (h:Bx w b cs t):Bx w.drew b cs t:=h
theorem Bx.drewN (h:Bx w b cs t)(n:Nat):Bx (w.drewN n) b cs t:=h
theorem Bx.alloc (h:Bx w b cs t)(o:Obj):Bx (w.alloc o) b cs t:=(Below.heap_alloc w o b h.lt).trans h
theorem Bx.set (h:Bx w b cs t)(i:Nat)(u:Value):Bx (w.setCell ⟨b,i,none⟩ u) b (cs.setIfInBounds i u) t:=by
 unfold Bx at h⊢;simp[World.setCell,Array.getElem?_modify,h]
theorem Bx.far (h:Bx w b cs t){p:Addr}(hp:b≠p.block)(u:Value):Bx (w.setCell p u) b cs t:=(Below.heap_setCell w p u b hp).trans h
theorem Bx.grown {row:Option Nat}(h:Bx w b cs t)(hg:w.grownBy w' row)(hr:row≠some b):Bx w' b cs t:=(hg.block b h.lt (fun e=>hr e.symm)).trans h
theorem Bx.cell (h:Bx w b cs t)(i:Nat):w.cell? ⟨b,i,none⟩=cs[i]? :=cell_of_row w b i cs t (0,0) h
theorem Bx.frozen (h:Bx w b cs t)(i:Nat):w.frozen? ⟨b,i,none⟩=false:=by
 unfold Bx at h;simp[World.frozen?,h]
theorem Bx.three {x y z:Value}(h:Bx w b #[x,y,z] t):w.cell? ⟨b,0,none⟩=some x∧w.cell? ⟨b,1,none⟩=some y∧w.cell? ⟨b,2,none⟩=some z∧
 w.frozen? ⟨b,0,none⟩=false∧w.frozen? ⟨b,1,none⟩=false∧w.frozen? ⟨b,2,none⟩=false:=
 ⟨h.cell 0,h.cell 1,h.cell 2,h.frozen 0,h.frozen 1,h.frozen 2⟩
theorem Bx.one {x:Value}(h:Bx w b #[x] t):w.cell? ⟨b,0,none⟩=some x∧w.frozen? ⟨b,0,none⟩=false:=⟨h.cell 0,h.frozen 0⟩
theorem Bx.set3 {x y z:Value}(h:Bx w b #[x,y,z] t)(u v s:Value):Bx (((w.setCell ⟨b,0,none⟩ u).setCell ⟨b,1,none⟩ v).setCell ⟨b,2,none⟩ s) b #[u,v,s] t:=
 ((h.set 0 u).set 1 v).set 2 s
end
def R32 (xs:List Int):List Value:=xs.map (Value.int .i32)
theorem zG (xs:List Int):(R32 xs).length=xs.length:=by simp[R32]
theorem R32_get (xs:List Int)(k:Nat):(R32 xs)[k]? =xs[k]?.map (Value.int .i32):=by simp[R32]
theorem R32_take (xs:List Int)(k:Nat):(R32 xs).take k=R32 (xs.take k):=by simp[R32]
theorem R32_drop (xs:List Int)(k:Nat):(R32 xs).drop k=R32 (xs.drop k):=by simp[R32]
theorem zM (xs ys:List Int):R32 xs++R32 ys=R32 (xs++ys):=by simp[R32]
theorem zQ (xs:List Int):∀u∈R32 xs,u.oneCell'=true:=by
 intro u hu;simp[R32]at hu;obtain⟨x,_,rfl⟩:=hu;rfl
def Ru (w:World)(F:Nat→Prop)(A:Option Addr)(n c:Nat)(xs:List Int):Prop:=Sl w F 1 A n c (R32 xs)
section
variable {w w':World}{F G:Nat→Prop}{n c:Nat}{A:Option Addr}{xs:List Int}
theorem Ru.len (h:Ru w F A n c xs):xs.length=n:=by have:=Sl.len h;rw[zG]at this;omega
theorem Ru.le (h:Ru w F A n c xs):n≤c:=Sl.le h
theorem Ru.cap (h:Ru w F A n c xs):c≤maxLen:=Sl.cap h
theorem Ru.kp (h:Ru w F A n c xs)(k:Kp w w'):Ru w' F A n c xs:=Sl.kp h k
theorem Ru.any (h:Ru w F A n c xs):Ru w Any A n c xs:=Sl.any h
theorem Ru.weak (h:Ru w F A n c xs)(hG:∀k,k<w.heap.size→F k→G k):Ru w G A n c xs:=Sl.weak h hG
theorem Ru.nil (w:World)(F:Nat→Prop):Ru w F none 0 0 []:=Sl.nil w F 1
theorem Ru.new (w:World)(F:Nat→Prop)(hF:F w.heap.size)(xs:List Int)(t:TypeId)(n:Nat)(hl:xs.length=n)(hn:n≤1099511627776):
 Ru (w.alloc (.cells (R32 xs).toArray t)) F (some ⟨w.heap.size,0,none⟩) n n xs:=Sl.new w (R32 xs).toArray t 1 n hF (by simp[R32,hl]) hn
theorem Ru.one_ (w:World)(F:Nat→Prop)(hF:F w.heap.size)(a:Int)(t:TypeId):Ru (w.alloc (.cells #[.int .i32 a] t)) F (some ⟨w.heap.size,0,none⟩) 1 1 [a]:=
 Ru.new w F hF [a] t 1 rfl (by omega)
theorem Ru.get {k:Nat}(h:Ru w F A n c xs)(hk:k<n):∃ad,A=some ad∧w.cell? (ad.add k)=some (.int .i32 (xs[k]?.getD 0)):=by
 obtain⟨ad,u,hA,hu,hc⟩:=Sl.get h hk;refine⟨ad,hA,?_⟩;rw[hc];rw[R32_get]at hu;have hl:k<xs.length:=by have:=h.len;omega
 rw[List.getElem?_eq_getElem hl]at hu⊢;simpa using hu.symm
theorem Ru.take {k:Nat}(h:Ru w F A n c xs)(hk:k≤n):Ru w F A k c (xs.take k):=by
 have:=Sl.take h hk;rw[Nat.mul_one,R32_take]at this;exact this
theorem Ru.drop {k:Nat}(h:Ru w F A n c xs)(hk:k≤n):Ru w F (if c=k then A else A.map (·.add k)) (n - k) (c - k) (xs.drop k):=by
 have:=Sl.drop h hk;rw[Nat.mul_one,R32_drop]at this;exact this
end
end Go.Proofs.YtociefdcccokjaaGreat

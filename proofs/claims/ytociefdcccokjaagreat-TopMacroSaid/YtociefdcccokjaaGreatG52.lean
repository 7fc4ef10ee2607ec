/-
  Lemmas for TopMacro. Conditions: each states its own.
-/
import Derived.Test.YtociefdcccokjaaGreatG51
set_option maxHeartbeats 6400000
set_option maxRecDepth 100000
namespace Go.Proofs.YtociefdcccokjaaGreat
open Go.RowKit Go.Lib
def MdSt (w:World)(m N:Nat):Prop:=∃D,w.ownsMap Tryz.prog 90 heldR m N D∧∀kl,Maps.has D kl=true→∃c:Int,r32 c∧∀z,D.atKey kl z=.held (.int .i32 c)
def ScSt (w:World)(m N:Nat):Prop:=∃D,w.ownsMap Tryz.prog 21 heldR m N D∧∀kl,Maps.has D kl=true→∃c:Bool,∀z,D.atKey kl z=.held (.bool c)
theorem held_inv {v:Value}{d:DataW Value}{ps:List MemPlace}(h:heldR v=some (d,ps)):d=.held v:=by
 unfold heldR at h;simp at h;exact h.1.symm
section
variable {w w':World}{m N M:Nat}
theorem MdSt.lt (h:MdSt w m N):m<w.heap.size:=by obtain⟨D,h,_⟩:=h;exact h.lt
theorem ScSt.lt (h:ScSt w m N):m<w.heap.size:=by obtain⟨D,h,_⟩:=h;exact h.lt
theorem MdSt.kp (h:MdSt w m N)(k:Kp w w'):MdSt w' m N:=by obtain⟨D,h1,h2⟩:=h;exact⟨D,xZ h1 k,h2⟩
theorem ScSt.kp (h:ScSt w m N)(k:Kp w w'):ScSt w' m N:=by obtain⟨D,h1,h2⟩:=h;exact⟨D,xZ h1 k,h2⟩
theorem MdSt.mono (h:MdSt w m N)(k:N≤M):MdSt w m M:=by obtain⟨D,h1,h2⟩:=h;exact⟨D,h1.mono k,h2⟩
theorem ScSt.mono (h:ScSt w m N)(k:N≤M):ScSt w m M:=by obtain⟨D,h1,h2⟩:=h;exact⟨D,h1.mono k,h2⟩
theorem MdSt.kept {row:Option Nat}(h:MdSt w m N)(hg:w.grownBy w' row)(hne:some m≠row):MdSt w' m N:=by obtain⟨D,h1,h2⟩:=h;exact⟨D,h1.kept hg hne,h2⟩
theorem ScSt.kept {row:Option Nat}(h:ScSt w m N)(hg:w.grownBy w' row)(hne:some m≠row):ScSt w' m N:=by obtain⟨D,h1,h2⟩:=h;exact⟨D,h1.kept hg hne,h2⟩
theorem MdSt.new (w:World):MdSt (w.alloc (.map #[] 0)) w.heap.size 0:=⟨_,World.ownsMap_made w _ _ _,fun kl h=>by simp[Maps.has]at h⟩
theorem ScSt.new (w:World):ScSt (w.alloc (.map #[] 0)) w.heap.size 0:=⟨_,World.ownsMap_made w _ _ _,fun kl h=>by simp[Maps.has]at h⟩
theorem zero32 (w:World):(zeroValue 21).run Tryz.prog w=.ok (.int .i32 0) w:=by kernel_rfl
theorem zeroB (w:World):(zeroValue 4).run Tryz.prog w=.ok (.bool false) w:=by kernel_rfl
theorem MdSt.tell (h:MdSt w m N):∃f:Int→Int→Option Int,(∀a b c,f a b=some c→r32 c)∧MpAt w m (fun w=>∀a b:Int,r32 a→r32 b→
 (Instr.lookup 79 (.map (some m)) (.agg #[.int .i32 a,.int .i32 b]) true).run Tryz.prog w=.ok (.tuple #[.int .i32 ((f a b).getD 0),.bool (f a b).isSome]) w):=by
 have hlt:=h.lt;obtain⟨D,⟨es,clock,hb,F,hs,hD⟩,hv⟩:=h;have key:∀p:Int×Int,∃o:Option Int,(∀c,o=some c→r32 c)∧(r32 p.1→r32 p.2→∀w':World,w'.heap[m]? =some (.map es clock)→
  (Instr.lookup 79 (.map (some m)) (.agg #[.int .i32 p.1,.int .i32 p.2]) true).run Tryz.prog w'=.ok (.tuple #[.int .i32 (o.getD 0),.bool o.isSome]) w'):=by
  intro p;by_cases hp:r32 p.1∧r32 p.2
  ·obtain⟨kl,hk⟩:=valKeyP (V:=.agg #[.int .i32 p.1,.int .i32 p.2]) ⟨p.1,p.2,hp,rfl,rfl⟩
   have look:=fun(w':World) (hw:w'.heap[m]? =some (.map es clock))=>World.ownsMap.look_ok (w:=w') ⟨es,clock,hw,F,hs,hD⟩ valKP Tryz.underlying79 (zero32 w') (zd:=.held (.int .i32 0)) (zp:=[]) rfl hk
   cases hh:Maps.has D kl with
   |false=>
    refine⟨none,by simp,fun _ _ w' hw=>?_⟩;obtain⟨v,ps,hrun,hR⟩:=look w' hw;rw[hh]at hrun;rw[Maps.atKey_of_not_has hh]at hR;have e:=held_inv hR;cases e
    exact hrun
   |true=>
    obtain⟨c,hc,hat⟩:=hv kl hh;refine⟨some c,fun c' e=>by cases e;exact hc,fun _ _ w' hw=>?_⟩;obtain⟨v,ps,hrun,hR⟩:=look w' hw;rw[hh]at hrun;rw[hat]at hR;have e:=held_inv hR;cases e
    exact hrun
  ·exact⟨none,by simp,fun h1 h2=>absurd ⟨h1,h2⟩ hp⟩
 obtain⟨f,hf⟩:=Classical.axiomOfChoice key;exact⟨fun a b=>f (a,b),fun a b c e=>(hf (a,b)).1 c e,es,clock,hb,hlt,fun w' hw a b ha hb'=>(hf (a,b)).2 ha hb' w' hw⟩
theorem ScSt.tell (h:ScSt w m N):∃f:Int→Bool,MpAt w m (fun w=>∀a:Int,r32 a→(Instr.lookup 80 (.map (some m)) (.int .i32 a) false).run Tryz.prog w=.ok (.bool (f a)) w):=by
 have hlt:=h.lt;obtain⟨D,⟨es,clock,hb,F,hs,hD⟩,hv⟩:=h;have key:∀a:Int,∃o:Bool,r32 a→∀w':World,w'.heap[m]? =some (.map es clock)→(Instr.lookup 80 (.map (some m)) (.int .i32 a) false).run Tryz.prog w'=.ok (.bool o) w':=by
  intro a;by_cases ha:r32 a
  ·have look:=fun(w':World) (hw:w'.heap[m]? =some (.map es clock))=>World.ownsMap.lookup (w:=w') ⟨es,clock,hw,F,hs,hD⟩ lawRune Tryz.underlying80 (zeroB w') (zd:=.held (.bool false)) (zp:=[]) rfl (vM ha)
   cases hh:Maps.has D (.int .i32 a)with
   |false=>
    refine⟨false,fun _ w' hw=>?_⟩;obtain⟨v,ps,hrun,hR⟩:=look w' hw;rw[Maps.atKey_of_not_has hh]at hR;have e:=held_inv hR;cases e
    exact hrun
   |true=>
    obtain⟨c,hat⟩:=hv _ hh;refine⟨c,fun _ w' hw=>?_⟩;obtain⟨v,ps,hrun,hR⟩:=look w' hw;rw[hat]at hR;have e:=held_inv hR;cases e
    exact hrun
  ·exact⟨false,fun h=>absurd h ha⟩
 obtain⟨f,hf⟩:=Classical.axiomOfChoice key;exact⟨f,es,clock,hb,hlt,fun w' hw a ha=>hf a ha w' hw⟩
theorem MdSt.entry (h:MdSt w m N)(hN:N<4611686018427387904){a b c:Int}(ha:r32 a)(hb:r32 b)(hc:r32 c):∃(v0 st:Value) (w1:World),(Instr.mapEntry 79 (.map (some m)) (.agg #[.int .i32 a,.int .i32 b])).run Tryz.prog w=.ok (.tuple #[v0,st]) w1∧w.grownBy w1 (some m)∧
 ∀w2:World,w2.heap[m]? =w1.heap[m]?→∃w3,(Instr.entryStore 79 (.map (some m)) st (.int .i32 c)).run Tryz.prog w2=.ok () w3∧MdSt w3 m (N+1)∧w2.grownBy w3 (some m):=by
 obtain⟨D,h1,h2⟩:=h;obtain⟨kl,hk⟩:=valKeyP (V:=.agg #[.int .i32 a,.int .i32 b]) ⟨a,b,⟨ha,hb⟩,rfl,rfl⟩;have hm:=World.ownsMap.isMap h1;obtain⟨v0,st,w1,e1,e2,e3⟩:=entry_own h1 valKP Tryz.underlying79 (by unfold maxLen;omega) zero32 hk (val:=.int .i32 c) (d:=.held (.int .i32 c)) (ps:=[]) rfl;refine⟨v0,st,w1,e1,e2,fun w2 hw=>?_⟩;obtain⟨w3,g1,g2,g3⟩:=e3 w2 hw;refine⟨w3,g1,⟨_,g2,fun kl' hh=>?_⟩,g3⟩;by_cases e:kl'=kl
 ·subst e
  exact⟨c,hc,fun z=>Maps.atKey_put_same hm (valKP.key hk) _ _⟩
 ·rw[Maps.has_put_other e]at hh
  obtain⟨c',hc',hat⟩:=h2 kl' hh;exact⟨c',hc',fun z=>(Maps.atKey_put_other e _ _).trans (hat z)⟩
theorem ScSt.entry (h:ScSt w m N)(hN:N<4611686018427387904){a:Int}(ha:r32 a)(c:Bool):∃(v0 st:Value) (w1:World),(Instr.mapEntry 80 (.map (some m)) (.int .i32 a)).run Tryz.prog w=.ok (.tuple #[v0,st]) w1∧w.grownBy w1 (some m)∧
 ∀w2:World,w2.heap[m]? =w1.heap[m]?→∃w3,(Instr.entryStore 80 (.map (some m)) st (.bool c)).run Tryz.prog w2=.ok () w3∧ScSt w3 m (N+1)∧w2.grownBy w3 (some m):=by
 obtain⟨D,h1,h2⟩:=h;have hk:=vM ha;have hm:=World.ownsMap.isMap h1;obtain⟨v0,st,w1,e1,e2,e3⟩:=entry_own h1 lawRune Tryz.underlying80 (by unfold maxLen;omega) zeroB hk (val:=.bool c) (d:=.held (.bool c)) (ps:=[]) rfl;refine⟨v0,st,w1,e1,e2,fun w2 hw=>?_⟩;obtain⟨w3,g1,g2,g3⟩:=e3 w2 hw;refine⟨w3,g1,⟨_,g2,fun kl' hh=>?_⟩,g3⟩;by_cases e:kl'=.int .i32 a
 ·subst e
  exact⟨c,fun z=>Maps.atKey_put_same hm (lawRune.key hk) _ _⟩
 ·rw[Maps.has_put_other e]at hh
  obtain⟨c',hat⟩:=h2 kl' hh;exact⟨c',fun z=>(Maps.atKey_put_other e _ _).trans (hat z)⟩
end
theorem trP_mu {w w' w'':World}{s nn nb:Nat}{IA BA:Option Addr}{Ic Bc:Nat}(h:BdP w w' s nn 8704 nb IA Ic BA Bc)(hw:w.heap.size≤s)(M:Mu (fun q=>q<w.heap.size) w' w''):∃f:Int→Int×Int,TrAt w'' 147 2 s (fun i=>pairV (f i))∧(∀r,r<0∨1114112≤r→f r=(0,0))∧∀r,r32 (f r).1∧r32 (f r).2:=by
 obtain⟨L,h1,h2⟩:=h.ix;obtain⟨cs,h3,h4⟩:=h.tr.row;obtain⟨g,hg,ht⟩:=tr_at (k:=2) (M.bx h.tr.tb (by omega)) (M.own h3 (fun k e=>by have:=(h3.lt k e).1;omega)) h4 (M.own h1 (fun k e=>by have:=(h1.lt k e).1;omega)) h2;refine⟨fun r=>(vI (gAt g 0 r),vI (gAt g 1 r)),ht.congr fun i hi=>?_,fun r hr=>by dsimp only;rw[(xM g 0 r hr).1,(xM g 1 r hr).1],fun r=>?_⟩
 ·obtain⟨hl,ho⟩:=hg i hi
  obtain⟨x0,x1,_,e⟩:=namesP (g i) hl ho;dsimp only;rw[gAt_in g 0 i hi,gAt_in g 1 i hi,e];rfl
 ·dsimp only
  rcases Int.lt_or_le r 0 with h0|h0
  ·rw[(xM g 0 r (.inl h0)).1,(xM g 1 r (.inl h0)).1];unfold r32;omega
  ·rcases Int.lt_or_le r 1114112 with h5|h5
   ·obtain⟨i,rfl⟩:=Int.eq_ofNat_of_zero_le h0
    obtain⟨hl,ho⟩:=hg i (by omega);obtain⟨x0,x1,hx,e⟩:=namesP (g i) hl ho;rw[gAt_in g 0 i (by omega),gAt_in g 1 i (by omega),e];exact hx
   ·rw[(xM g 0 r (.inr h5)).1,(xM g 1 r (.inr h5)).1];unfold r32;omega
theorem MdSt.mu {w w':World}{m N:Nat}{S:Nat→Prop}(h:MdSt w m N)(k:Mu S w w')(hS:¬S m):MdSt w' m N:=by obtain⟨D,h1,h2⟩:=h;exact⟨D,yV h1 k hS,h2⟩
theorem ScSt.mu {w w':World}{m N:Nat}{S:Nat→Prop}(h:ScSt w m N)(k:Mu S w w')(hS:¬S m):ScSt w' m N:=by obtain⟨D,h1,h2⟩:=h;exact⟨D,yV h1 k hS,h2⟩
structure BuFix (w4 w6 w7:World)(g m1 m2 t1 t2 t3 t4 tB:Nat)(f1 f2 f3:Int→Int)(p0 p1 p2 p3:Int→Bool):Prop where
 a1:TrAt w4 185 1 t1 (fun i=>[.int .i64 (f1 i)])
 a2:TrAt w4 185 1 t2 (fun i=>[.int .i64 (f2 i)])
 a3:TrAt w4 185 1 t3 (fun i=>[.int .i64 (f3 i)])
 a4:TrAt w4 200 4 t4 (fun i=>[.bool (p0 i),.bool (p1 i),.bool (p2 i),.bool (p3 i)])
 o1:∀r,r<0∨1114112≤r→f1 r=0
 o2:∀r,r<0∨1114112≤r→f2 r=0
 o3:∀r,r<0∨1114112≤r→f3 r=0
 o4:∀r,r<0∨1114112≤r→p0 r=false∧p1 r=false∧p2 r=false∧p3 r=false
 lo:w4.heap.size≤m1∧m1<m2∧m2<g∧g<w6.heap.size
 bd:∃(nn nb:Nat) (IA BA:Option Addr) (Ic Bc:Nat),BdP w6 w7 tB nn 8704 nb IA Ic BA Bc
 hi:w6.heap.size≤tB
 kp:Kp w4 w7
structure BuSt (w7:World)(g m1 m2 t1 t2 t3 t4 tB:Nat)(wr:World)(N:Nat):Prop where
 md:MdSt wr m1 N
 sc:ScSt wr m2 N
 bx:Bx wr g #[.pointer (some ⟨t1,0,none⟩),.pointer (some ⟨t2,0,none⟩),.pointer (some ⟨t3,0,none⟩),.pointer (some ⟨t4,0,none⟩),.pointer (some ⟨tB,0,none⟩),.map (some m1),.map (some m2)] 83
 mu:Mu (fun q=>q=m1∨q=m2∨q=g) w7 wr
section
variable {w4 w6 w7 wr w':World}{g m1 m2 t1 t2 t3 t4 tB N M:Nat}{f1 f2 f3:Int→Int}{p0 p1 p2 p3:Int→Bool}
theorem BuSt.kp' (h:BuSt w7 g m1 m2 t1 t2 t3 t4 tB wr N)(k:Kp wr w'):BuSt w7 g m1 m2 t1 t2 t3 t4 tB w' N:=⟨h.md.kp k,h.sc.kp k,h.bx.kp k,h.mu.then_kp k⟩
theorem BuSt.mono (h:BuSt w7 g m1 m2 t1 t2 t3 t4 tB wr N)(k:N≤M):BuSt w7 g m1 m2 t1 t2 t3 t4 tB wr M:=⟨h.md.mono k,h.sc.mono k,h.bx,h.mu⟩
theorem BuSt.kp4 (h:BuSt w7 g m1 m2 t1 t2 t3 t4 tB wr N)(F:BuFix w4 w6 w7 g m1 m2 t1 t2 t3 t4 tB f1 f2 f3 p0 p1 p2 p3):Kp w4 wr:=by
 obtain⟨l1,l2,l3,l4⟩:=F.lo;exact h.mu.kp F.kp (fun q hq=>by rcases hq with rfl|rfl|rfl<;>omega)
theorem BuSt.pairs (h:BuSt w7 g m1 m2 t1 t2 t3 t4 tB wr N)(F:BuFix w4 w6 w7 g m1 m2 t1 t2 t3 t4 tB f1 f2 f3 p0 p1 p2 p3):∃f:Int→Int×Int,TrAt wr 147 2 tB (fun i=>pairV (f i))∧(∀r,r<0∨1114112≤r→f r=(0,0))∧∀r,r32 (f r).1∧r32 (f r).2:=by
 obtain⟨l1,l2,l3,l4⟩:=F.lo;obtain⟨nn,nb,IA,BA,Ic,Bc,hb⟩:=F.bd;exact trP_mu hb F.hi (h.mu.weak fun q _ hq=>by rcases hq with rfl|rfl|rfl<;>omega)
theorem BuSt.tab (h:BuSt w7 g m1 m2 t1 t2 t3 t4 tB wr N)(F:BuFix w4 w6 w7 g m1 m2 t1 t2 t3 t4 tB f1 f2 f3 p0 p1 p2 p3):∃T:TM,TabAt wr g T:=by
 obtain⟨f,h5,q0,q1⟩:=h.pairs F;obtain⟨mf,hm1,hm2⟩:=h.md.tell;obtain⟨sf,hs⟩:=h.sc.tell;have k:=h.kp4 F;exact⟨⟨f1,f2,f3,p0,p2,p3,f,mf,sf⟩,t1,t2,t3,t4,tB,m1,m2,fun i=>p1 i,⟨F.o1,F.o2,F.o3,fun r hr=>(F.o4 r hr).1,fun r hr=>(F.o4 r hr).2.2.1,fun r hr=>(F.o4 r hr).2.2.2,q0,q1,fun a b c e=>hm1 a b c e⟩,h.bx,F.a1.kp k,F.a2.kp k,F.a3.kp k,F.a4.kp k,h5,hm2,hs⟩
end
theorem infoPcP:(Tryz.prog.info? 92).map (fun i=>(i.zero,i.size,i.bytes))=some (some (.agg #[.int .i64 0,.int .i64 0,.int .i32 0,.int .i32 0]),4,24):=by kernel_rfl
def PcsP (w wr:World)(A:Option Addr)(i c:Nat):Prop:=∃ps:List (List Value),Own wr w.heap.size 92 4 A i c ps.flatten∧ps.length=i∧∀p∈ps,∃(fr tt:Int) (cs:List Value),p=.int .i64 fr:: .int .i64 tt::cs∧cs.length=2∧∀u∈cs,okP u
def RetBuild (w:World)(en:Ending)(w':World):Prop:=∃(g:Nat) (T:TM),en=.returned (.pointer (some ⟨g,0,none⟩))∧TabAt w' g T∧w.heap.size≤g∧Kp w w'
theorem build_any (F:Nat→Prop)(A:Option Addr)(n c:Nat)(l:List RowV)(w:World)(h:Sl w F 5 A n c (RowV.cells l))(hl:∀r∈l,rowOk r=true)(hn:n≤2000):
 Calls Tryz.prog 5 #[.slice A n c] w (RetBuild w):=by
 have hmm:=@run_makeMap Tryz.prog;obtain⟨HN,HT,HO⟩:=hid3 (fun(kind:Int) (wx:World) (k:Kp w wx)=>numbers_any F A n c l kind wx (Sl.kp h k) hl hn) (fun(wx:World) (k:Kp w wx)=>truths_any F A n c l wx (Sl.kp h k) hl hn) (fun(kind:Int) (wx:World) (k:Kp w wx)=>rowsOf_any F A n c l kind wx (Sl.kp h k) hl hn);clear h hl;go_enter Tryz.func5,Tryz.ntmps5;go_wp2_with fail;refine(HN.out 1 w (Kp.refl w)).mono ?_;rintro en w1 ⟨t1,f1,rfl,a1,o1,b1,k1⟩;go_wp2_with fail;refine(HN.out 4 w1 k1).mono ?_;rintro en w2 ⟨t2,f2,rfl,a2,o2,b2,k2⟩;have q2:=k1.trans k2;go_wp2_with fail;refine(HN.out 6 w2 q2).mono ?_;rintro en w3 ⟨t3,f3,rfl,a3,o3,b3,k3⟩;have q3:=q2.trans k3;go_wp2_with fail;refine(HT.out w3 q3).mono ?_;rintro en w4 ⟨t4,p0,p1,p2,p3,rfl,a4,o4,b4,k4⟩;have q4:=q3.trans k4;go_upto_region 2 with fail;have hm1:=((MdSt.new w4).kp ((Kp.refl _).alloc (.map #[] 0))).kp ((Kp.refl _).alloc (.cells #[.pointer (some ⟨t1,0,none⟩),.pointer (some ⟨t2,0,none⟩),.pointer (some ⟨t3,0,none⟩),.pointer (some ⟨t4,0,none⟩),.pointer none,.map (some w4.heap.size),.map (some (w4.heap.size+1))] 83));have hm2:=(ScSt.new (w4.alloc (.map #[] 0))).kp ((Kp.refl _).alloc (.cells #[.pointer (some ⟨t1,0,none⟩),.pointer (some ⟨t2,0,none⟩),.pointer (some ⟨t3,0,none⟩),.pointer (some ⟨t4,0,none⟩),.pointer none,.map (some w4.heap.size),.map (some (w4.heap.size+1))] 83));have bg:=Bx.new ((w4.alloc (.map #[] 0)).alloc (.map #[] 0)) #[.pointer (some ⟨t1,0,none⟩),.pointer (some ⟨t2,0,none⟩),.pointer (some ⟨t3,0,none⟩),.pointer (some ⟨t4,0,none⟩),.pointer none,.map (some w4.heap.size),.map (some (w4.heap.size+1))] 83;have k5:=(((Kp.refl w4).alloc (.map #[] 0)).alloc (.map #[] 0)).alloc (.cells #[.pointer (some ⟨t1,0,none⟩),.pointer (some ⟨t2,0,none⟩),.pointer (some ⟨t3,0,none⟩),.pointer (some ⟨t4,0,none⟩),.pointer none,.map (some w4.heap.size),.map (some (w4.heap.size+1))] 83);simp at hm2 bg;obtain⟨m1,hm1e⟩:∃m1,m1=w4.heap.size:=⟨_,rfl⟩;obtain⟨m2,hm2e⟩:∃m2,m2=w4.heap.size+1:=⟨_,rfl⟩;obtain⟨g,hge⟩:∃g,g=w4.heap.size+1+1:=⟨_,rfl⟩;have HM:=hid (show w4.heap.size≤m1∧m1<m2∧m2<g by omega);rw[←hge,←hm2e,←hm1e]at bg⊢;rw[←hm2e,←hm1e]at hm2;rw[←hm2e,←hm1e]at hm1;rw[←hm2e,←hm1e]at k5;clear hge hm2e hm1e;generalize(((w4.alloc (.map #[] 0)).alloc (.map #[] 0)).alloc (.cells #[.pointer (some ⟨t1,0,none⟩),.pointer (some ⟨t2,0,none⟩),.pointer (some ⟨t3,0,none⟩),.pointer (some ⟨t4,0,none⟩),.pointer none,.map (some m1),.map (some m2)] 83))=w5 at *;obtain⟨BG,MD,SC,K45,Q4,A1,A2,A3,A4⟩:=hid9 bg hm1 hm2 k5 q4 (a1.kp ((k2.trans k3).trans k4)) (a2.kp (k3.trans k4)) (a3.kp k4) a4;obtain⟨O1,O2,O3,O4,BZ⟩:=hid5 o1 o2 o3 o4 (show w.heap.size≤w4.heap.size from q4.size);clear a1 a2 a3 a4 o1 o2 o3 o4 k1 k2 k3 k4 q2 q3 q4 k5 hm1 hm2 bg b1 b2 b3 b4;go_wp2_with fail;refine(HO.out 2 w5 (Q4.out.trans K45.out)).mono ?_;rintro en w6 ⟨B,m,d,ss,rfl,hof,hok,hm,hs1,k6⟩;have hcap:=hs1.cap;unfold maxLen at hcap;obtain⟨HS,HOK,K6,HLN,HNB⟩:=hid5 (show SpW w6 (From w5.heap.size) B m d ss from hs1.sl) hok k6 (show ss.length=m by have:=hs1.len;rw[SpanV.cells_len]at this;omega) (show∀a b:Nat,a<m→b≤1114112→a*1114112+b<4611686018427387904 by intro a b ha hb;omega);clear hof hok hs1 k6;go_upto_region 5 with fail;go_loopw [30,4] (fun v u wr=>∃(i cc:Nat) (A1:Option Addr),v=.int .i64 i∧u=.slice A1 i cc∧i≤m∧Hid (Kp w6 wr)∧Hid (PcsP w6 wr A1 i cc)) (fun v _ _=>m - (intOf v).toNat)
 case atStart=>exact⟨0,0,none,rfl,rfl,Nat.zero_le _,Kp.refl _,[],Own.nil _ _ _ _,rfl,fun p hp=>by simp at hp⟩
 case round=>
  obtain⟨i,cc,P1,rfl,rfl,hi,kr,hps⟩:=hrel;by_cases hlt:i<m
  ·obtain⟨⟨xf,xt,xa,xb⟩,hx⟩:∃x,ss[i]? =some x:=⟨_,List.getElem?_eq_getElem (by rw[HLN.out];exact hlt)⟩
   obtain⟨ad,rfl,e0,e1,e2,e3⟩:=SpW.get (HS.out.kp kr.out) hx;obtain⟨x1,x2,x3,x4,x5,x6,x7⟩:=HOK.out _ (List.mem_of_getElem? hx);dsimp only at e0 e1 e2 e3 x1 x2 x3 x4 x5 x6 x7;clear hx;go_upto_region 7 with fail;have ka:=(Kp.refl wr).alloc (.cells #[.int .i64 xf,.int .i64 xt,.int .i64 xa,.int .i64 xb] 88);have bX:=Bx.new wr #[.int .i64 xf,.int .i64 xt,.int .i64 xa,.int .i64 xb] 88;obtain⟨ps,hp1,hp2,hp3⟩:=hps.out;obtain⟨HP1,HP2,HP3,KR⟩:=hid4 (hp1.kp ka) hp2 hp3 (kr.out.trans ka);have hwz:=KR.out.size;obtain⟨X,hX⟩:∃X,X=wr.heap.size:=⟨_,rfl⟩;rw[←hX]at bX⊢;clear e0 e1 e2 e3 hX ka hp1 hp2 hp3 hps kr;generalize(wr.alloc (.cells #[.int .i64 xf,.int .i64 xt,.int .i64 xa,.int .i64 xb] 88))=w7 at *;obtain⟨y0,y1,y2,y3,y4,y5,y6,y7⟩:=bX.four;have hwa:IntKind.i32.wrap xa=xa:=by rw[IntKind.wrap_i32];omega
   have hwb:IntKind.i32.wrap xb=xb:=by rw[IntKind.wrap_i32];omega
   go_wp2_with (at_builtin;refine zA _ rfl _ _ _ rfl w6.heap.size 92 _ 4 24 Tryz.underlying84 infoPcP rfl (by omega) P1 i cc ps.flatten rfl (HP1.out.alloc _) Any _ 1 1 [.int .i64 xf,.int .i64 xt,.int .i32 xa,.int .i32 xb] rfl (Sl.new w7 #[.int .i64 xf,.int .i64 xt,.int .i32 xa,.int .i32 xb] _ 4 1 trivial rfl (by omega)) (by simp[Value.oneCell']) (by simp only[maxLen];omega) (by omega) (by simp;omega) ?_;intro A7 c7 w8 ho7 hg7 hat7);have hq7:PcsP w6 w8 A7 (i+1) c7:=⟨ps++[[.int .i64 xf,.int .i64 xt,.int .i32 xa,.int .i32 xb]],by rw[List.flatten_append];simpa using ho7,by simp[HP2.out],fun p hp=>by
    rcases List.mem_append.1 hp with hp|hp
    ·exact HP3.out p hp
    ·rw[List.mem_singleton]at hp
     rw[hp];refine⟨xf,xt,[.int .i32 xa,.int .i32 xb],rfl,rfl,fun u hu=>?_⟩;simp at hu;rcases hu with rfl|rfl
     ·exact⟨xa,rfl,by unfold r32;omega⟩
     ·exact⟨xb,rfl,by unfold r32;omega⟩⟩
   exact⟨⟨i+1,c7,A7,by simp,rfl,hlt,(KR.out.alloc _).grown hg7 fun g e=>(HP1.out.lt g e).1,hq7⟩,by simp[intOf];omega⟩
  ·obtain rfl:i=m:=by omega
   obtain⟨ps,hp1,hp2,hp3⟩:=hps.out;obtain⟨HB,K7⟩:=hid2 (buildQP P1 i cc (.agg #[.int .i32 0,.int .i32 0]) [.int .i32 0,.int .i32 0] wr ⟨ps,hp1.sl.any,hp2,hp3⟩ ⟨0,0,⟨by unfold r32;omega,by unfold r32;omega⟩,rfl,rfl⟩ (by omega)) (K6.out.trans kr.out);clear hps hp1 hp2 hp3;go_wp2_with fail;refine HB.out.mono ?_;rintro en w7 ⟨tB,nb,nn,s,IA,Ic,BA,Bc,rfl,rfl,hs,hbd⟩;have bg7:=BG.out.kp (K7.out.trans hbd.kp);have c4:=bg7.cell 4;have x4:=bg7.frozen 4;simp at c4;obtain⟨l1,l2,l3⟩:=HM.out;have hgl:=BG.out.lt;have hkz:=K7.out.size;have FX:=hid (show BuFix w4 wr w7 g m1 m2 t1 t2 t3 t4 tB f1 f2 f3 p0 p1 p2 p3 from⟨A1.out,A2.out,A3.out,A4.out,O1.out,O2.out,O3.out,O4.out,⟨l1,l2,l3,by omega⟩,⟨nn,nb,IA,BA,Ic,Bc,hbd⟩,hs,K45.out.trans (K7.out.trans hbd.kp)⟩);have M8:Mu (fun q=>q=m1∨q=m2∨q=g) w7 (w7.setCell ⟨g,4,none⟩ (.pointer (some ⟨tB,0,none⟩))):=(Mu.refl w7).setCell (p:=⟨g,4,none⟩) (.inr (.inr rfl)) _;have M8':Mu (fun q=>q=g) w7 (w7.setCell ⟨g,4,none⟩ (.pointer (some ⟨tB,0,none⟩))):=(Mu.refl w7).setCell (S:=fun q=>q=g) (p:=⟨g,4,none⟩) rfl _;have b8:=bg7.set 4 (.pointer (some ⟨tB,0,none⟩));simp at b8;obtain⟨BU,HSQ,HG5,QW⟩:=hid4 (show BuSt w7 g m1 m2 t1 t2 t3 t4 tB (w7.setCell ⟨g,4,none⟩ (.pointer (some ⟨tB,0,none⟩))) 0 from⟨(MD.out.kp (K7.out.trans hbd.kp)).mu M8' (by omega),(SC.out.kp (K7.out.trans hbd.kp)).mu M8' (by omega),b8,M8⟩) (show SpW w7 (From w5.heap.size) B i d ss from HS.out.kp (kr.out.trans hbd.kp)) hgl (show w.heap.size≤g by have:=BZ.out;omega);clear bg7 M8 M8' b8 hs hbd HB hkz;go_upto_region 11 with fail;clear c4 x4;generalize(w7.setCell ⟨g,4,none⟩ (.pointer (some ⟨tB,0,none⟩)))=w8 at *;go_loopw [58] (fun v wr=>∃j:Nat,v=.int .i64 j∧j≤i∧Hid (BuSt w7 g m1 m2 t1 t2 t3 t4 tB wr (j*1114112))) (fun v _=>i - (intOf v).toNat)
   case atStart=>exact⟨0,rfl,Nat.zero_le _,BuSt.mono BU.out (by omega)⟩
   case round=>
    obtain⟨j,rfl,hj,hbu⟩:=hrel;by_cases hji:j<i
    ·obtain⟨⟨xf,xt,xa,xb⟩,hx⟩:∃x,ss[j]? =some x:=⟨_,List.getElem?_eq_getElem (by rw[HLN.out];exact hji)⟩
     have hsr:SpW wr (From (g+1)) B i d ss:=Sl.frame (Sl.weak (Sl.weak HSQ.out (fun q _ hq=>hq)) (fun q _ hq=>Nat.le_trans HG5.out hq)) hbu.out.mu.size (fun q hq hl=>hbu.out.mu.block q hl (fun e=>by have hq':g+1≤q:=hq;rcases e with rfl|rfl|rfl<;>omega));obtain⟨ad,rfl,e0,e1,e2,e3⟩:=SpW.get hsr hx;obtain⟨x1,x2,x3,x4,x5,x6,x7⟩:=HOK.out _ (List.mem_of_getElem? hx);dsimp only at e0 e1 e2 e3 x1 x2 x3 x4 x5 x6 x7;clear hx hsr;go_upto_region 13 with fail;have ka:=(Kp.refl wr).alloc (.cells #[.int .i64 xf,.int .i64 xt,.int .i64 xa,.int .i64 xb] 88);have bX:=Bx.new wr #[.int .i64 xf,.int .i64 xt,.int .i64 xa,.int .i64 xb] 88;have hgw:=hbu.out.bx.lt;obtain⟨X,hX⟩:∃X,X=wr.heap.size:=⟨_,rfl⟩;have HGX:=hid (show g<X by omega);rw[←hX]at bX⊢;obtain⟨BUA,BX⟩:=hid2 (hbu.out.kp' ka) bX;clear e0 e1 e2 e3 hX ka hgw bX;generalize(wr.alloc (.cells #[.int .i64 xf,.int .i64 xt,.int .i64 xa,.int .i64 xb] 88))=wa at *;obtain⟨y0,y1,y2,y3,y4,y5,y6,y7⟩:=BX.out.four;have hwf:IntKind.i32.wrap xf=xf:=by rw[IntKind.wrap_i32];omega
     go_upto_region 14 with fail;go_loopw [10] (fun v wr=>∃r:Int,v=.int .i32 r∧xf≤r∧r≤xt+1∧Hid (BuSt w7 g m1 m2 t1 t2 t3 t4 tB wr (j*1114112+(r - xf).toNat))∧Hid (Bx wr X #[.int .i64 xf,.int .i64 xt,.int .i64 xa,.int .i64 xb] 88)) (fun v _=>(xt+1 - intOf v).toNat)
     case atStart=>exact⟨xf,rfl,by omega,by omega,BuSt.mono BUA.out (by omega),BX.out⟩
     case round=>
      obtain⟨r,rfl,hr0,hr1,hbu,bx⟩:=hrel;obtain⟨y0,y1,y2,y3,y4,y5,y6,y7⟩:=bx.out.four;by_cases hrt:r≤xt
      ·obtain⟨pf,pt,po,p32⟩:=hbu.out.pairs FX.out
       have bgr:=hbu.out.bx;have c4:=bgr.cell 4;have c5:=bgr.cell 5;have c6:=bgr.cell 6;simp at c4 c5 c6;obtain⟨HGP,HP32⟩:=hid2 (get_pair tB (fun q=>pf q) r (pf r) wr pt (fun h=>by omega) (fun h0 _=>by rw[Int.toNat_of_nonneg h0])) (p32 r);go_upto_region 17 with(go_at_call 23;refine HGP.out.mono ?_;rintro en wb ⟨rfl,kb⟩);have hpp:=HP32.out;generalize pf r=pr at hpp⊢;obtain⟨pa,pb⟩:=pr;obtain⟨hpa,hpb⟩:=hpp;dsimp only at hpa hpb⊢;have kc:=kb.trans ((Kp.refl wb).alloc (.cells #[.int .i32 pa,.int .i32 pb] 90));have bY:=Bx.new wb #[.int .i32 pa,.int .i32 pb] 90;have hgb:=hbu.out.bx.lt;have hxb:=bx.out.lt;have hwb:=kb.size;obtain⟨Y,hY⟩:∃Y,Y=wb.heap.size:=⟨_,rfl⟩;have HGY:=hid (show g<Y∧X<Y by omega);rw[←hY]at bY⊢;obtain⟨BUC,BXC,BYC,HPA,HPB⟩:=hid5 (hbu.out.kp' kc) (bx.out.kp kc) bY hpa hpb;clear hY kc kb hgb hxb hwb bY c4 c5 c6 bgr y0 y1 y2 y3 y4 y5 y6 y7 pt po p32 HGP HP32 hpa hpb;generalize(wb.alloc (.cells #[.int .i32 pa,.int .i32 pb] 90))=we at *;obtain⟨mf,hmf1,hmf2⟩:=BUC.out.md.tell;have hlk:=(hmf2.kp (Kp.refl we).drew).now pa pb HPA.out HPB.out;have hlk':=hmf2.now pa pb HPA.out HPB.out;have c5:=BUC.out.bx.cell 5;have c6:=BUC.out.bx.cell 6;have v0:=BYC.out.cell 0;have v1:=BYC.out.cell 1;simp at c5 c6 v0 v1;generalize(mf pa pb).isSome=mok at *;generalize(mf pa pb).getD 0=mval at *;clear hmf1 hmf2;go_cut [12,13] (fun q v wx=>q=.int .i32 mval∧v=.bool mok∧Dr we wx)
       case first=>
        go_region
        all_goals(go_wp2_with fail;go_meet;exact⟨rfl,rfl,⟨_,rfl⟩⟩)
       obtain⟨rfl,rfl,dr⟩:=hcut;clear hlk hlk' c5 c6 v0 v1;have kd:Kp we wc:=dr.kp;obtain⟨BUD,BXD,BYD⟩:=hid3 (BUC.out.kp' kd) (BXC.out.kp kd) (BYC.out.kp kd);clear kd dr;have hrn:IntKind.i32.wrap (r+1)=r+1:=by rw[IntKind.wrap_i32];omega
       cases mok with
       |true=>
        go_wp2_with fail;exact⟨⟨r+1,rfl,by omega,by omega,BuSt.mono BUD.out (by omega),BXD.out⟩,by simp[intOf];omega⟩
       |false=>
        obtain⟨T,hT⟩:=BUD.out.tab FX.out;have HOU:=hid (out_any g T r wc hT (by unfold r32;omega));clear hT;generalize T.out r=ob at HOU;cases ob with
        |true=>
         go_wp2_with (go_at_call 24;refine HOU.out.mono ?_;rintro en wo ⟨rfl,ko⟩);exact⟨⟨r+1,rfl,by omega,by omega,BuSt.mono (BUD.out.kp' ko) (by omega),BXD.out.kp ko⟩,by simp[intOf];omega⟩
        |false=>
         go_upto_region 19 with(go_at_call 24;refine HOU.out.mono ?_;rintro en wo ⟨rfl,ko⟩);have BUU:=(BUD.out.kp' ko).kp' (Kp.refl wo).drew;obtain⟨l1,l2,l3,l4⟩:=FX.out.lo;obtain⟨gy1,gy2⟩:=HGY.out;have hNb:j*1114112+(r - xf).toNat<4611686018427387904:=HNB.out j _ hji (by omega);obtain⟨q1,st1,u1,r1,g1,n1⟩:=BUU.md.entry hNb (c:=r) HPA.out HPB.out (by unfold r32;omega);obtain⟨u2,r2,md2,g2⟩:=n1 u1 rfl;have sc2:=(BUU.sc.kept g1 (fun e=>by cases e;omega)).kept g2 (fun e=>by cases e;omega);obtain⟨q3,st3,u3,r3,g3,n3⟩:=sc2.entry hNb HPB.out true;obtain⟨u4,r4,sc4,g4⟩:=n3 u3 rfl;have bu:=BUU.bx;have c5:=bu.cell 5;have c6:=bu.cell 6;have by0:=(BYD.out.kp ko).drew;have by1:=by0.grown g1 (fun e=>by cases e;omega);have by2:=by1.grown g2 (fun e=>by cases e;omega);have v0:=by0.cell 0;have v1:=by0.cell 1;have v2:=by1.cell 1;have v3:=by2.cell 1;simp at c5 c6 v0 v1 v2 v3;have N1:Mu (fun q=>q=m1∨q=m2∨q=g) wo.drew u1:=Mu.of_grown g1 fun q e _=>by cases e;exact .inl rfl
         have N2:Mu (fun q=>q=m1∨q=m2∨q=g) u1 u2:=Mu.of_grown g2 fun q e _=>by cases e;exact .inl rfl
         have N3:Mu (fun q=>q=m1∨q=m2∨q=g) u2 u3:=Mu.of_grown g3 fun q e _=>by cases e;exact .inr (.inl rfl)
         have N4:Mu (fun q=>q=m1∨q=m2∨q=g) u3 u4:=Mu.of_grown g4 fun q e _=>by cases e;exact .inr (.inl rfl)
         have M4:=((N1.trans N2 (fun _ _ h=>h)).trans N3 (fun _ _ h=>h)).trans N4 (fun _ _ h=>h);obtain⟨BU4,BX4⟩:=hid2 (show BuSt w7 g m1 m2 t1 t2 t3 t4 tB u4 (j*1114112+(r - xf).toNat+1)from⟨(md2.kept g3 (fun e=>by cases e;omega)).kept g4 (fun e=>by cases e;omega),sc4,(((bu.grown g1 (fun e=>by cases e;omega)).grown g2 (fun e=>by cases e;omega)).grown g3 (fun e=>by cases e;omega)).grown g4 (fun e=>by cases e;omega),BUU.mu.trans M4 (fun _ _ h=>h)⟩) (M4.bx (BXD.out.kp ko).drew (by have:=HGX.out;omega));clear BUU g1 g2 g3 g4 n1 n3 md2 sc2 sc4 bu by0 by1 by2 M4 N1 N2 N3 N4;go_region
         all_goals(go_wp2_with fail;exact⟨⟨r+1,rfl,by omega,by omega,BuSt.mono BU4.out (by omega),BX4.out⟩,by simp[intOf];omega⟩)
      ·have e:r=xt+1:=by omega
       subst e;go_wp2_with fail;exact⟨⟨j+1,by simp,hji,BuSt.mono hbu.out (by omega)⟩,by simp[intOf];omega⟩
    ·obtain rfl:j=i:=by omega
     go_wp2_with fail;go_ret;obtain⟨T,hT⟩:=hbu.out.tab FX.out;exact⟨g,T,rfl,hT,QW.out,Q4.out.trans (hbu.out.kp4 FX.out)⟩
end Go.Proofs.YtociefdcccokjaaGreat

/-
  Lemmas for TopMacro. Conditions: each states its own.
-/
import Derived.DeepKeys4
import Derived.Test.YtociefdcccokjaaGreatG44
set_option maxHeartbeats 3200000
set_option maxRecDepth 100000
namespace Go.Proofs.YtociefdcccokjaaGreat
open Go.RowKit Go.Lib
section
open Go.RowKit Go.Lib Go.Maps
def okP (u:Value):Prop:=∃x:Int,u=.int .i32 x∧r32 x
theorem oneP {u:Value}(h:okP u):u.oneCell'=true:=by obtain⟨x,rfl,_⟩:=h;rfl
theorem laidP:laidOutB Tryz.prog=true:=by kernel_rfl
theorem arrKP:Keyed Tryz.prog 156:=Keyed.of_law (deep_law_laid laidP (m:=3) (by omega) (of_decide_eq_true (by kernel_rfl)) (by kernel_rfl) (by kernel_rfl))
theorem valKP:Keyed Tryz.prog 90:=Keyed.of_law (deep_law_laid laidP (m:=2) (by omega) (of_decide_eq_true (by kernel_rfl)) (by kernel_rfl) (by kernel_rfl))
theorem keyP (cs:List Value)(h:cs.length=2)(ho:∀u∈cs,okP u)(d:Nat):(Tryz.prog.keyLits (d+2) 90 cs).isSome=true:=by
 match cs,h with
 |[u0,u1],_=>
  obtain⟨a,rfl,ha⟩:=ho u0 (by simp);obtain⟨b,rfl,hb⟩:=ho u1 (by simp);have h1:Tryz.prog.keyLits (d+1) 21 [.int .i32 a]=some [.int .i32 a]:=by simp[Program.keyLits,Tryz.underlying21,wf32 ha]
  have h2:Tryz.prog.keyLits (d+1) 21 [.int .i32 b]=some [.int .i32 b]:=by simp[Program.keyLits,Tryz.underlying21,wf32 hb]
  have h3:Tryz.prog.keyLits (d+2) 90 [.int .i32 a,.int .i32 b]=((Tryz.prog.keyLits (d+1) 21 [.int .i32 a]).bind fun x=>(Tryz.prog.keyLits (d+1) 21 [.int .i32 b]).bind fun y=>some [x,y]).map List.flatten:=by kernel_rfl
  rw[h3,h1,h2];rfl
theorem arrKeyP (cs:List Value)(h:cs.length=256)(ho:∀u∈cs,okP u):∃kl,keyOf Tryz.prog 156 (.agg cs.toArray)=some kl:=
 arr_key (z:=2) Tryz.underlying156 (by kernel_rfl) (by kernel_rfl) (by kernel_rfl) ⟨_,rfl⟩ cs h fun d i hi=>keyP _ (by simp[h];omega) (fun u hu=>ho u (List.mem_of_mem_drop (List.mem_of_mem_take hu))) d
theorem infoArrP:(Tryz.prog.info? 156).map (fun i=>(i.zero,i.size,i.bytes))=some (some (.agg (Array.replicate 256 (Value.int .i32 0))),256,1024):=by kernel_rfl
def TyP:TrTy:=⟨147,152,156,90,3,256⟩
abbrev MkP:=MkB Tryz.prog TyP okP
theorem placeQP (n base tB mB kB eB:Nat)(size:Int)(I:Value)(A:Option Addr)(c:Nat)(nb:Nat)(b:List Value)(w:World)(hb:b.length=256)(hw:∀x∈b,okP x)
 (h:MkP w n base tB mB kB eB nb size I A c)(hn:n≤20000)(hl:nb≤20000):
 Calls Tryz.prog 58 #[.pointer (some ⟨mB,0,none⟩),.agg b.toArray] w (RetPl Tryz.prog TyP okP w (n+1) base tB mB kB eB nb size I A):=by
 obtain⟨kl,hkl⟩:=arrKeyP b hb hw;have HW:=hid hw;clear hw;have kp1:Kp w (w.alloc (.cells b.toArray 156)):=(Kp.refl w).alloc _;have h1:=h.kp kp1;have bx1:=Bx.new w b.toArray 156;have hkn:NM Tryz.prog 156 3 (w.alloc (.cells b.toArray 156)).drew kB n nb:=h.known.mu (S:=fun _=>False) (Mu.of_kp kp1.drew) id;have hbase:=h.lt;have hne:=h.ne;have hU:=Tryz.underlying156;have hI:(Tryz.prog.info? 156).map (·.size)=some b.length:=by rw[hb];kernel_rfl
 obtain⟨cv,β,hlk,hβ⟩:=NM.look hkn arrKP Tryz.underlying149 Tryz.underlying3 rfl hkl;cases β with
 |true=>
  obtain⟨x,rfl,hx⟩:=hβ rfl;obtain⟨m0,m1,m2,_,_,_⟩:=h1.mb.three;have rg1:=bx1.range0;have H1:=hid h1;clear h h1 bx1 hkn hβ;go_enter Tryz.func58,Tryz.ntmps58;go_upto_region 1 with fail;go_region_held3 (fun w'=>w'.cell? ⟨mB,1,none⟩=some (.map (some kB))∧w'.rangeAt w.heap.size 0 b) (first|(with_reducible exact⟨m1,rg1⟩)|go_keep) (fail);clear hU hI;go_wp2_with fail;go_ret;exact⟨x,nb,A,c,rfl,hx,le_,by omega,(H1.out.kp (Kp.refl _).drew).mono (Nat.le_succ _),.of_kp kp1.drew,fun k hk=>.inl hk⟩
 |false=>
  obtain⟨w2,hput,kno2,hg2⟩:=NM.put (w:=(w.alloc (.cells b.toArray 156)).drew.drew) (nb':=nb+1) (x:=nb) (hkn.mu (S:=fun _=>False) (Mu.of_kp (Kp.refl _).drew) id) arrKP Tryz.underlying149 Tryz.underlying3 (by omega) hkl (Nat.lt_succ_self _) (Nat.le_succ _) (by omega);have fr2:Mu (fun k=>k=kB) w w2:=(Mu.of_kp (S:=fun k=>k=kB) kp1.drew.drew).trans (S':=fun k=>k=kB) (.of_grown hg2 fun k hk _=>by cases hk;rfl) fun _ _ h=>h
  have tb2:=fr2.bx h.tb hne.2.1.symm;have mb2:=fr2.bx h.mb hne.2.2.1.symm;have bx2:=(Mu.of_grown (S:=fun k=>k=kB) hg2 fun k hk _=>by cases hk;rfl).bx bx1.drew.drew (by show¬w.heap.size=kB;omega);have ev2:=(h.even.mu fr2 hne.2.2.2.2.2.symm).mono (n':=n+1) (nb':=nb+1) (Nat.le_succ _) (Nat.le_succ _);obtain⟨rcs,hro,hrc⟩:=h.row;have row2:=fr2.own hro fun k hk e=>by have:=hro.lt k hk;omega
  have hz2:=fr2.size;have hz2':w.heap.size<w2.heap.size:=bx2.lt;obtain⟨m0,m1,m2,_,_,_⟩:=h1.mb.three;obtain⟨t0,t1,t2,_,_,t5⟩:=h1.tb.three;have rg1:=bx1.range0;obtain⟨m0',m1',m2',_,_,_⟩:=mb2.three;obtain⟨t0',t1',t2',_,_,t5'⟩:=tb2.three;have rg1':=bx2.range0;have mb3:=mb2.drew.alloc (.cells b.toArray 156);have tb3:=tb2.drew.alloc (.cells b.toArray 156);have bx3:=bx2.drew.alloc (.cells b.toArray 156);have row3:=row2.drew.alloc (.cells b.toArray 156);have m0'':=mb3.three.1;have t2'':=tb3.three.2.2.1;have t5'':=tb3.three.2.2.2.2.2;have rg1'':=bx3.range0;obtain⟨HB,HT,HX,HROW,HRC,HK2,HE2,HF⟩:=hid8 mb3 tb3 bx3 row3 hrc kno2 ev2 fr2;have HLT:Hid (∀k,zB A=some k→base≤k∧k<w.heap.size):=hro.lt;clear h h1 bx1 mb2 tb2 bx2 mb3 tb3 bx3 row2 row3 hro hrc hkn hβ kno2 ev2 fr2 hg2;go_enter Tryz.func58,Tryz.ntmps58;go_upto_region 1 with fail;go_region_held3 (fun w'=>w'.cell? ⟨mB,1,none⟩=some (.map (some kB))∧w'.rangeAt w.heap.size 0 b) (first|(with_reducible exact⟨m1,rg1⟩)|go_keep) (fail);go_upto_region 4 with fail;go_region_held3 (fun w'=>w'.cell? ⟨mB,1,none⟩=some (.map (some kB))∧w'.rangeAt w.heap.size 0 b) (first|(with_reducible exact⟨m1,rg1⟩)|(with_reducible exact⟨m1',rg1'⟩)|go_keep) (fail);go_upto_region 5 with fail;clear rg1 hlk hput;have hS:w2.drew.cell? ⟨mB,0,none⟩=some (.pointer (some ⟨tB,0,none⟩))∧w2.drew.cell? ⟨tB,2,none⟩=some (.slice A nb c)∧w2.drew.rangeAt w.heap.size 0 b:=⟨m0',t2',rg1'⟩;refine wp_region_noPanic ?_;refine yI (fun w'=>w'.cell? ⟨mB,0,none⟩=some (.pointer (some ⟨tB,0,none⟩))∧w'.cell? ⟨tB,2,none⟩=some (.slice A nb c)∧w'.rangeAt w.heap.size 0 b) 16 (by kernel_rfl) (by kernel_rfl) fun inv=>?_
  refine tkT 0 inv hS fun inv=>?_
  refine tkT 1 inv hS fun inv=>?_
  refine tkT 2 inv hS fun inv=>?_
  refine tkT 3 inv hS fun inv=>?_
  refine tkT 4 inv hS fun inv=>?_
  refine tkT 5 inv hS fun inv=>?_
  refine tkT 6 inv hS fun inv=>?_
  refine tkT 7 inv hS fun inv=>?_
  refine tkT 8 inv hS fun inv=>?_
  refine tkT 9 inv hS fun inv=>?_
  refine tkT 10 inv hS fun inv=>?_
  try go_frame
  refine yJ (i:=11) (v:=?v12) inv (by simp only[List.getElem?_toArray,List.getElem?_cons_succ,List.getElem?_cons_zero];rfl) (by decide) (by kernel_rfl) (by kernel_rfl) ?hQ12 hS ?hy12 (fun inv=>?rest12)
  case hy12=>
   refine xW ?_ (yieldsIf_load_mid (by rfl) _ (.tmp 3) (by rfl) w.heap.size 0 (by rfl) _ _ (by intro wy hy;exact hy.2.2) hU rfl hI)
   with_reducible rfl
  case hQ12=>exact fun _ _ _ h=>h
  go_frame;refine onT 12 inv fun K hK=>?_
  refine step_build (by rfl) _ 156 _ (by rfl) _ 256 1024 Tryz.underlying145 infoArrP (by omega) (by omega) b hb (by rfl) ?_;refine hK.out _ _ ?_ (fun inv=>?_)
  ·exact⟨m0'',t2'',rg1''⟩
  clear hK K hS;try go_frame
  refine onT 13 inv fun K hK=>?_
  refine zJ _ (by rfl) _ _ _ (by rfl) base 156 _ 256 1024 Tryz.underlying145 infoArrP (by simp[Value.cells]) (by omega) A nb c rcs (by rfl) HROW.out Any _ 1 1 b (by rfl) (Sl.new _ _ _ _ _ trivial (by simp[hb]) (by omega)) (fun u hu=>oneP (HW.out u hu)) (by simp only[maxLen];omega) (by omega) (by simp;omega) ?_;intro A4 c4 w4 hown4 hg4 hat4;have hrow:∀k,zB A=some k→base≤k∧k<w.heap.size:=HLT.out;have mb4:=HB.out.grown hg4 (fun e=>by have:=hrow _ e;omega);have tb4:=HT.out.grown hg4 (fun e=>by have:=hrow _ e;omega);have bx4:=HX.out.grown hg4 (fun e=>by have:=hrow _ e;omega);obtain⟨x0,x1,x2,x3,x4,x5⟩:=tb4.three;refine hK.out _ _ ?_ (fun inv=>?_)
  ·exact⟨mb4.three.1,x2,bx4.range0⟩
  clear hK K;try go_frame
  have hS:w4.cell? ⟨mB,0,none⟩=some (.pointer (some ⟨tB,0,none⟩))∧w4.cell? ⟨tB,2,none⟩=some (.slice A nb c)∧w4.rangeAt w.heap.size 0 b:=⟨mb4.three.1,x2,bx4.range0⟩;refine tkT 14 inv hS fun inv=>?_
  refine tkT 15 inv hS fun inv=>?_
  try go_frame
  refine laT fun K hK=>?_
  go_simp;refine hK.out _ _ ?_;clear hK K;refine NoPanic.normal ?_;go_wp2_with fail;go_ret;have f5:Mu (fun k=>k=tB∨zB A=some k) w2 (w4.setCell ⟨tB,2,none⟩ (.slice A4 (nb+1) c4)):=
   ((Mu.of_kp (S:=fun k=>k=tB∨zB A=some k) ((Kp.refl w2).drew.alloc _)).trans (S':=fun k=>k=tB∨zB A=some k) (.of_grown hg4 fun k hk _=>.inr hk) fun _ _ h=>h).setCell (p:=⟨tB,2,none⟩) (.inl rfl) _
  have hk5:¬(kB=tB∨zB A=some kB):=by rintro(h|h);exact hne.2.1 h;have:=hrow _ h;omega
  have he5:¬(eB=tB∨zB A=some eB):=by rintro(h|h);exact hne.2.2.2.1 h;have:=hrow _ h;omega
  refine⟨nb,nb+1,A4,c4,rfl,Nat.lt_succ_self _,Nat.le_succ _,le_,⟨tb4.set 2 _,mb4.far (p:=⟨tB,2,none⟩) hne.1.symm _,⟨rcs++b,hown4.setCell (fun e=>by have:=(hown4.lt _ e).1;dsimp only at this;omega) _,?_⟩,HK2.out.mu f5 hk5,HE2.out.mu f5 he5,⟨hbase.1,hbase.2.1,hbase.2.2.1,hbase.2.2.2.1,?_⟩,hne⟩,?_,?_⟩
  ·intro u hu
   rcases List.mem_append.1 hu with hu|hu
   ·exact HRC.out u hu
   ·exact HW.out u hu
  ·have:=f5.size;omega
  ·exact(HF.out.weak fun k _ hk=>.inr (.inl hk)).trans (S':=fun k=>k=tB∨zB A=some k) f5 fun k _ hk=>by rcases hk with h|h;exact .inl h;exact .inr (.inr (.inr h))
  ·intro k hk
   rcases hat4 with h|h
   ·exact .inl (h▸hk)
   ·rw[h]at hk
    cases hk
    right
    simp;omega
end
def ValP (V:Value)(cs:List Value):Prop:=∃(x0 x1:Int),(r32 x0∧r32 x1)∧V=.agg #[.int .i32 x0,.int .i32 x1]∧cs=[.int .i32 x0,.int .i32 x1]
theorem namesP (cs:List Value)(h:cs.length=2)(ho:∀u∈cs,okP u):∃(x0 x1:Int),(r32 x0∧r32 x1)∧cs=[.int .i32 x0,.int .i32 x1]:=by
 match cs,h with
 |[u0,u1],_=>
  obtain⟨x0,rfl,h0⟩:=ho u0 (by simp);obtain⟨x1,rfl,h1⟩:=ho u1 (by simp);exact⟨x0,x1,⟨h0,h1⟩,rfl⟩
def PcWP (w:World)(A:Option Addr)(n c:Nat):Prop:=∃ps:List (List Value),Sl w Any 4 A n c ps.flatten∧ps.length=n∧∀p∈ps,∃(fr tt:Int) (cs:List Value),p=.int .i64 fr:: .int .i64 tt::cs∧cs.length=2∧∀u∈cs,okP u
theorem PcWP.kp {w w':World}{A:Option Addr}{n c:Nat}(h:PcWP w A n c)(k:Kp w w'):PcWP w' A n c:=by obtain⟨ps,h1,h2⟩:=h;exact⟨ps,h1.kp k,h2⟩
theorem PcWP.get {w:World}{A:Option Addr}{n c:Nat}(h:PcWP w A n c){i:Nat}(hi:i<n):∃(ad:Addr) (fr tt:Int) (x0 x1:Int),A=some ad∧(r32 x0∧r32 x1)∧w.cell? (ad.add (i*4))=some (.int .i64 fr)∧w.cell? ⟨(ad.add (i*4)).block,(ad.add (i*4)).off+1,none⟩=some (.int .i64 tt)∧w.cell? ⟨(ad.add (i*4)).block,(ad.add (i*4)).off+2,none⟩=some (.int .i32 x0)∧w.cell? ⟨(ad.add (i*4)).block,(ad.add (i*4)).off+3,none⟩=some (.int .i32 x1):=by
 obtain⟨ps,h1,h2,h3⟩:=h;obtain⟨p,hp⟩:∃p,ps[i]? =some p:=⟨_,List.getElem?_eq_getElem (by omega)⟩;obtain⟨fr,tt,cs,rfl,hl,ho⟩:=h3 p (List.mem_of_getElem? hp);obtain⟨x0,x1,hw,rfl⟩:=namesP cs hl ho;obtain⟨ad,e,_,_,hc⟩:=Sl.at_ h1 (by omega);have g:=fun r (hr:r<4)=>yR (k:=4) (css:=ps) (i:=i) (r:=r) (fun c hc=>by obtain⟨_,_,cs,rfl,hl,_⟩:=h3 c hc;simp[hl]) hp hr
 refine⟨ad,fr,tt,x0,x1,e,hw,hc _ _ (g 0 (by omega)),?_,?_,?_⟩
 ·have:=hc _ _ (g 1 (by omega));rwa[zF _ _ 0]at this
 ·have:=hc _ _ (g 2 (by omega));rwa[zF _ _ 1]at this
 ·have:=hc _ _ (g 3 (by omega));rwa[zF _ _ 2]at this
def RetFindP (w:World)(en:Ending)(w':World):Prop:=∃(V:Value) (cs:List Value) (u:Int),en=.returned (.tuple #[V,.int .i64 u])∧ValP V cs∧Kp w w'
structure FiStP (w wr:World)(S R:Nat)(z0 z1:Int):Prop where
 bz:Bx wr S #[.int .i32 z0,.int .i32 z1] 90
 br:Bx wr R #[.int .i32 0,.int .i32 0] 90
 kp:Kp w wr
 ne:w.heap.size≤R
theorem FiStP.kp' {w wr w':World}{S R:Nat}{z0 z1:Int}(h:FiStP w wr S R z0 z1)(k:Kp wr w'):FiStP w w' S R z0 z1:=⟨h.bz.kp k,h.br.kp k,h.kp.trans k,h.ne⟩
theorem retP {w wr:World}{R:Nat}{t:TypeId}(x0 x1:Int)(u:Int)(hw:(r32 x0∧r32 x1))(hb:Bx wr R #[.int .i32 0,.int .i32 0] t)(hk:Kp w wr)(hR:w.heap.size≤R):
 Bx ((wr.setCell ⟨R,0,none⟩ (.int .i32 x0)).setCell ⟨R,1,none⟩ (.int .i32 x1)) R #[.int .i32 x0,.int .i32 x1] t∧RetFindP w (.returned (.tuple #[.agg #[.int .i32 x0,.int .i32 x1],.int .i64 u])) ((wr.setCell ⟨R,0,none⟩ (.int .i32 x0)).setCell ⟨R,1,none⟩ (.int .i32 x1)):=by
 refine⟨?_,_,_,u,rfl,⟨x0,x1,hw,rfl,rfl⟩,((hk.setCell (p:=⟨R,0,none⟩) hR _).setCell (p:=⟨R,1,none⟩) hR _)⟩;have:=((hb.set 0 (.int .i32 x0)).set 1 (.int .i32 x1));simpa using this
theorem RetFindP.drew {w w':World}{en:Ending}(h:RetFindP w en w'):RetFindP w en w'.drew:=by obtain⟨V,cs,u,h1,h2,h3⟩:=h;exact⟨V,cs,u,h1,h2,h3.drew⟩
theorem findQP (A:Option Addr)(n c:Nat)(V:Value)(zs:List Value)(i last:Int)(w:World)(hP:PcWP w A n c)(hz:ValP V zs)(hn:n≤1099511627776):
 Calls Tryz.prog 56 #[.slice A n c,V,.int .i64 i,.int .i64 last] w (RetFindP w):=by
 have HP:=hid hP;obtain⟨ps,hsl,_,_⟩:=hP;have hle:=Sl.le hsl;have hcp:=Sl.cap hsl;unfold maxLen at hcp;obtain⟨z0,z1,hw0,rfl,rfl⟩:=hz;have HW0:=hid hw0;clear hsl hw0;have st0:FiStP w ((w.alloc (.cells #[.int .i32 z0,.int .i32 z1] 90)).alloc (.cells #[.int .i32 0,.int .i32 0] 90)) w.heap.size (w.heap.size+1) z0 z1:=⟨(Bx.new w _ _).alloc _,by have:=Bx.new (w.alloc (.cells #[.int .i32 z0,.int .i32 z1] 90)) #[.int .i32 0,.int .i32 0] 90;simpa using this,((Kp.refl w).alloc _).alloc _,by omega⟩;go_enter Tryz.func56,Tryz.ntmps56;go_wp2_with fail;have ST0:=hid st0;obtain⟨S,hS⟩:∃S,S=w.heap.size:=⟨_,rfl⟩;obtain⟨R,hR⟩:∃R,R=w.heap.size+1:=⟨_,rfl⟩;rw[←hR,←hS]at ST0;rw[←hR,←hS];clear st0;generalize((w.alloc (.cells #[.int .i32 z0,.int .i32 z1] 90)).alloc (.cells #[.int .i32 0,.int .i32 0] 90))=w0 at *;have HSR:=hid (show S≠R by omega);clear hS hR;go_loopg [14,3] n (fun g iv lv wr=>∃(k:Nat) (lt:Int),k+g=n∧iv=.int .i64 k∧lv=.int .i64 lt∧Hid (FiStP w wr S R z0 z1))
 case atStart=>exact⟨0,last,by omega,rfl,rfl,ST0.out⟩
 case round=>
  clear ST0;obtain⟨k,lt,hk,rfl,rfl,hst⟩:=hrel;by_cases hkn:k<n
  ·obtain⟨ad,fr,tt,x0,x1,rfl,hwv,c0,c1,c2,c3⟩:=(HP.out.kp hst.out.kp).get hkn
   have HV:=hid hwv;clear hwv;go_upto_region 4 with fail;have kp1:=(Kp.refl wr).alloc (.cells #[.int .i64 fr,.int .i64 tt,.int .i32 x0,.int .i32 x1] 92);have bX:=Bx.new wr #[.int .i64 fr,.int .i64 tt,.int .i32 x0,.int .i32 x1] 92;have hRz:=hst.out.br.lt;obtain⟨X,hX⟩:∃X,X=wr.heap.size:=⟨_,rfl⟩;rw[←hX]at bX hRz⊢;obtain⟨HX,st1⟩:=hid2 (show X≠R by omega) (hst.out.kp' kp1);clear hX kp1 hst c0 c1 c2 c3;generalize(wr.alloc (.cells #[.int .i64 fr,.int .i64 tt,.int .i32 x0,.int .i32 x1] 92))=w1 at *;have d0:=bX.cell 0;have d1:=bX.cell 1;have d2:=bX.cell 2;have d3:=bX.cell 3;simp at d0 d1 d2 d3;have f0:=st1.out.br.frozen 0;have r0:=st1.out.br.cell 0;simp at r0;have f1:=st1.out.br.frozen 1;have r1:=st1.out.br.cell 1;simp at r1;have hRw:=st1.out.br.lt;by_cases ha:fr≤i
   ·by_cases hb:i≤tt
    ·have RR:=hid (fun u=>retP (t:=90) x0 x1 u HV.out st1.out.br st1.out.kp st1.out.ne)
     have bXs:=Bx.drew (((bX.far (p:=⟨R,0,none⟩) HX.out (.int .i32 x0)).far (p:=⟨R,1,none⟩) HX.out (.int .i32 x1)));have e1:=bXs.cell 1;have e2:=bXs.cell 2;have e3:=bXs.cell 3;simp at e1 e2 e3;go_upto_region 5 with fail;go_region_held3 (fun w'=>w'.cell? ⟨X,1,none⟩=some (.int .i64 tt)∧w'.cell? ⟨X,2,none⟩=some (.int .i32 x0)∧w'.cell? ⟨X,3,none⟩=some (.int .i32 x1)) (first|(with_reducible exact⟨d1,d2,d3⟩)|(with_reducible exact⟨e1,e2,e3⟩)|go_keep) (fail)
     all_goals
      have rb:=(RR.out 0).1.drew;have rr:=fun u=>(RR.out u).2.drew
      generalize(((w1.setCell ⟨R,0,none⟩ (.int .i32 x0)).setCell ⟨R,1,none⟩ (.int .i32 x1))).drew=w2 at *;have g0:=rb.cell 0;have g1:=rb.cell 1;simp at g0 g1;go_wp2_with fail
      all_goals first
      |(refine bodyPost_ret (v:=.tuple #[.agg #[.int .i32 x0,.int .i32 x1],.int .i64 tt]) ?_ rfl (rr tt);(simp[results,Tryz.results56,go_sem,g0,g1];done))
      |(refine bodyPost_ret (v:=.tuple #[.agg #[.int .i32 x0,.int .i32 x1],.int .i64 lt]) ?_ rfl (rr lt);(simp[results,Tryz.results56,go_sem,g0,g1];done))
    ·have hb':decide (i≤tt)=false:=by simp;omega
     have hc1:decide (i<fr)=false:=by simp;omega
     clear hb;go_wp2_with fail;go_roundg (n - (k+1))
     case measure=>omega
     case rel=>exact⟨k+1,lt,by omega,by go_num,rfl,st1⟩
   ·have ha':decide (fr≤i)=false:=by simp;omega
    have hc1:decide (i<fr)=true:=by simp;omega
    clear ha;by_cases hb:fr≤lt
    ·go_wp2_with fail
     go_roundg (n - (k+1))
     case measure=>omega
     case rel=>exact⟨k+1,_,by omega,by go_num,rfl,st1⟩
    ·have hb':decide (fr≤lt)=false:=by simp;omega
     clear hb;go_wp2_with fail;go_roundg (n - (k+1))
     case measure=>omega
     case rel=>exact⟨k+1,lt,by omega,by go_num,rfl,st1⟩
  ·have d0:=hst.out.bz.cell 0
   have d1:=hst.out.bz.cell 1;simp at d0 d1;have hRw:=hst.out.br.lt;have f0:=hst.out.br.frozen 0;have r0:=hst.out.br.cell 0;simp at r0;have f1:=hst.out.br.frozen 1;have r1:=hst.out.br.cell 1;simp at r1;have RR:=retP (t:=90) z0 z1 lt HW0.out hst.out.br hst.out.kp hst.out.ne;have RR':=hid RR;clear RR hst;go_wp2_with fail;obtain⟨rb,rr⟩:=RR'.out;generalize((wr.setCell ⟨R,0,none⟩ (.int .i32 z0)).setCell ⟨R,1,none⟩ (.int .i32 z1))=w2 at *;have g0:=rb.cell 0;have g1:=rb.cell 1;simp at g0 g1;exact bodyPost_ret (v:=.tuple #[.agg #[.int .i32 z0,.int .i32 z1],.int .i64 lt]) (by simp[results,Tryz.results56,go_sem,g0,g1]) rfl rr
section
open Go.RowKit Go.Lib Go.Maps
theorem val_keyP {ka:TypeId}{fs:Array Field}(hu:Tryz.prog.underlying ka=some (.struct fs))(cs:List Value)(hf:(Tryz.prog.keyType ka&&(Value.agg cs.toArray).formed Tryz.prog ka)=true)(hs:∀d,(Tryz.prog.keyLits (d+2) ka cs).isSome=true)(hts:∃q,Tryz.prog.types.size=q+1):∃kl,keyOf Tryz.prog ka (.agg cs.toArray)=some kl:=by
 obtain⟨q,hq⟩:=hts;obtain⟨r,hr⟩:=Option.isSome_iff_exists.1 (hs q);unfold keyOf;simp only[hu];rw[if_pos hf,hq];exact⟨_,by simp only[Value.cells];rw[hr];rfl⟩
theorem valKeyP {V:Value}{cs:List Value}(h:ValP V cs):∃kl,keyOf Tryz.prog 90 V=some kl:=by
 obtain⟨x0,x1,hw,rfl,rfl⟩:=h;exact val_keyP (fs:=Tryz.prog.fieldsOf 90) (by kernel_rfl) [.int .i32 x0,.int .i32 x1] (by kernel_rfl) (keyP [.int .i32 x0,.int .i32 x1] rfl (by
  intro u hu;simp at hu;rcases hu with rfl|rfl
  ·exact⟨_,rfl,hw.1⟩
  ·exact⟨_,rfl,hw.2⟩)) ⟨_,rfl⟩
def RwP (w:World)(b:Nat):Prop:=∃cs:List Value,Bx w b cs.toArray 156∧cs.length=256∧∀u∈cs,okP u
theorem RwP.new (w:World):RwP (w.alloc (.cells Tryz.zeroCells156 156)) w.heap.size:=by
 have h:(Tryz.zeroCells156).toList=List.replicate 256 (Value.int .i32 0):=by kernel_rfl
 refine⟨(Tryz.zeroCells156).toList,Bx.new w _ _,by rw[h,List.length_replicate],fun u hu=>?_⟩;rw[h]at hu;rw[List.eq_of_mem_replicate hu];exact⟨0,rfl,by unfold r32;omega⟩
theorem RwP.kp {w w':World}{b:Nat}(h:RwP w b)(k:Kp w w'):RwP w' b:=by obtain⟨cs,h1,h2⟩:=h;exact⟨cs,h1.kp k,h2⟩
theorem RwP.set {w:World}{b:Nat}(h:RwP w b)(o:Nat){u:Value}(hu:okP u):RwP (w.setCell ⟨b,o,none⟩ u) b:=by
 obtain⟨cs,h1,h2,h3⟩:=h;refine⟨cs.set o u,by have:=h1.set o u;rwa[List.setIfInBounds_toArray]at this,by simpa using h2,fun x hx=>?_⟩;rcases List.mem_or_eq_of_mem_set hx with hx|rfl
 ·exact h3 x hx
 ·exact hu
theorem RwP.at_ {w:World}{b:Nat}(h:RwP w b){o:Nat}(ho:o<256):(∃u,w.cell? ⟨b,o,none⟩=some u)∧w.frozen? ⟨b,o,none⟩=false:=by
 obtain⟨cs,h1,h2,h3⟩:=h;exact⟨⟨cs[o]'(by omega),by rw[h1.cell];simp⟩,h1.frozen o⟩
theorem plainQP (n base tB mB kB eB:Nat)(size:Int)(I:Value)(A:Option Addr)(c nb:Nat)(V:Value)(vs:List Value)(w:World)(hv:ValP V vs)(h:MkP w n base tB mB kB eB nb size I A c)(hn:n≤19999)(hl:nb≤19999):
 Calls Tryz.prog 57 #[.pointer (some ⟨mB,0,none⟩),V] w (RetPl Tryz.prog TyP okP w (n+2) base tB mB kB eB nb size I A):=by
 obtain⟨kl,hkl⟩:=valKeyP hv;obtain⟨x0,x1,hw,rfl,rfl⟩:=hv;have hbase:=h.lt;have hne:=h.ne;have k1:=(Kp.refl w).alloc (.cells #[.int .i32 x0,.int .i32 x1] 90);have h1:=h.kp k1;have bv:=Bx.new w #[.int .i32 x0,.int .i32 x1] 90;have hek:NM Tryz.prog 90 3 (w.alloc (.cells #[.int .i32 x0,.int .i32 x1] 90)).drew eB n nb:=h1.even.mu (S:=fun _=>False) (Mu.of_kp (Kp.refl _).drew) id;obtain⟨m0,m1,m2,_,_,_⟩:=h1.mb.three;obtain⟨cv,β,hlk,hβ⟩:=NM.look hek valKP Tryz.underlying150 Tryz.underlying3 rfl hkl;have v0:=bv.cell 0;have v1:=bv.cell 1;simp at v0 v1;obtain⟨H,HW,HBV⟩:=hid3 h hw bv;clear h hw h1 hek bv;cases β with
 |true=>
  obtain⟨x,rfl,hx⟩:=hβ rfl;clear hβ HBV;go_enter Tryz.func57,Tryz.ntmps57;go_upto_region 1 with fail;go_region_held3 (fun w'=>w'.cell? ⟨mB,2,none⟩=some (.map (some eB))∧w'.cell? ⟨w.heap.size,0,none⟩=some (.int .i32 x0)∧w'.cell? ⟨w.heap.size,1,none⟩=some (.int .i32 x1)) (first|(with_reducible exact⟨m2,v0,v1⟩)|go_keep) (fail);go_wp2_with fail;go_ret;exact⟨x,nb,A,c,rfl,hx,le_,by omega,(H.out.mono (by omega)).kp k1.drew,.of_kp k1.drew,fun k hk=>.inl hk⟩
 |false=>
  clear hβ;go_enter Tryz.func57,Tryz.ntmps57;go_upto_region 1 with fail;go_region_held3 (fun w'=>w'.cell? ⟨mB,2,none⟩=some (.map (some eB))∧w'.cell? ⟨w.heap.size,0,none⟩=some (.int .i32 x0)∧w'.cell? ⟨w.heap.size,1,none⟩=some (.int .i32 x1)) (first|(with_reducible exact⟨m2,v0,v1⟩)|go_keep) (fail);clear hlk;go_wp2_with fail;have hst:RwP (((w.alloc (.cells #[.int .i32 x0,.int .i32 x1] 90)).alloc (.cells Tryz.zeroCells156 156)).drew) (w.heap.size+1):=by
   have:=(RwP.new (w.alloc (.cells #[.int .i32 x0,.int .i32 x1] 90))).kp (Kp.refl _).drew;simpa using this
  have hkS:=(k1.alloc (.cells Tryz.zeroCells156 156)).drew;have hbS:=(HBV.out.alloc (.cells Tryz.zeroCells156 156)).drew;obtain⟨S,hS⟩:∃S,S=w.heap.size:=⟨_,rfl⟩;obtain⟨R,hR⟩:∃R,R=w.heap.size+1:=⟨_,rfl⟩;have HSR:=hid (show w.heap.size≤R∧S≠R∧w.heap.size≤S by omega);rw[←hR]at hst;rw[←hS]at hbS;rw[←hR,←hS];obtain⟨HST,HKS,HBS⟩:=hid3 hst hkS hbS;clear hst hkS hbS hS hR k1 v0 v1 m0 m1 m2 HBV;generalize(((w.alloc (.cells #[.int .i32 x0,.int .i32 x1] 90)).alloc (.cells Tryz.zeroCells156 156)).drew)=w0 at *;go_loopg [20] 128 (fun g iv wr=>∃k:Nat,k+g=128∧iv=.int .i64 k∧Hid (RwP wr R)∧Hid (Kp w wr)∧Hid (Bx wr S #[.int .i32 x0,.int .i32 x1] 90))
  case atStart=>exact⟨0,rfl,rfl,HST.out,HKS.out,HBS.out⟩
  case round=>
   clear HST HKS HBS;obtain⟨k,hk,rfl,hrow,kp,hbv⟩:=hrel;by_cases hlt:k<128
   ·have v0:=hbv.out.cell 0
    have v1:=hbv.out.cell 1;simp at v0 v1;have hk0:(0:Int)≤(k:Int):=by omega
    have hk1:(k:Int)<128:=by omega
    obtain⟨⟨u0,a0⟩,f0⟩:=hrow.out.at_ (o:=k*2) (by omega);obtain⟨⟨u1,a1⟩,f1⟩:=hrow.out.at_ (o:=k*2+1) (by omega);obtain⟨HR2,HB2,HK2⟩:=hid3 (((hrow.out.set (k*2) (u:=.int .i32 x0) ⟨x0,rfl,HW.out.1⟩).set (k*2+1) (u:=.int .i32 x1) ⟨x1,rfl,HW.out.2⟩)) (((hbv.out.far (p:=⟨R,k*2,none⟩) HSR.out.2.1 (.int .i32 x0)).far (p:=⟨R,k*2+1,none⟩) HSR.out.2.1 (.int .i32 x1))) (((kp.out.setCell (p:=⟨R,k*2,none⟩) HSR.out.1 (.int .i32 x0)).setCell (p:=⟨R,k*2+1,none⟩) HSR.out.1 (.int .i32 x1)));go_wp2_with fail;generalize((wr.setCell ⟨R,k*2,none⟩ (.int .i32 x0)).setCell ⟨R,k*2+1,none⟩ (.int .i32 x1))=w2 at *;go_roundg (128 - (k+1))
    case measure=>omega
    case rel=>exact⟨k+1,by omega,by go_num,HR2,HK2,HB2⟩
   ·have hkk:k=128:=by omega
    subst hkk;obtain⟨cs,hb,hcl,hco⟩:=hrow.out;have HCO:=hid hco;clear hlt hrow hco;have hrg:=hb.range0;have hU:=Tryz.underlying156;have hI:(Tryz.prog.info? 156).map (·.size)=some cs.length:=by rw[hcl];kernel_rfl
    have hT:=H.out.kp kp.out;obtain⟨HI,HU,HPL⟩:=hid3 hI hU (placeQP n base tB mB kB eB size I A c nb cs wr hcl HCO.out hT (by omega) (by omega));clear hI hU hcl hb hT;go_upto_region 10 with(first
     |(refine wpList_load_mid (by rfl) 156 (.tmp 7) (by rfl) R 0 (by rfl) cs _ hrg HU.out rfl HI.out ?_)
     |(go_at_call 58;refine HPL.out.mono ?_;rintro e w2 ⟨x,nb2,A2,c2,rfl,hx,hb1,hb2,hT2,hf2,hr2⟩))
    have HB2:=hf2.bx hbv.out (by
     have h1:=H.out.lt;have h2:=HSR.out;rintro(h|h|h|h)
     ·omega
     ·omega
     ·omega
     ·have:=H.out.rl _ h;omega)
    have v0:=HB2.cell 0;have v1:=HB2.cell 1;simp at v0 v1;obtain⟨m0,m1,m2,_,_,_⟩:=hT2.mb.three;obtain⟨w3,hput,he3,hg3⟩:=NM.put (w:=w2.drew) (x:=x) (nb':=nb2) (hT2.even.mu (S:=fun _=>False) (Mu.of_kp (Kp.refl _).drew) id) valKP Tryz.underlying150 Tryz.underlying3 (by omega) hkl hx le_ (by omega);have hf3:Mu (fun k=>k=eB) w2 w3:=(Mu.of_kp (S:=fun k=>k=eB) (Kp.refl w2).drew).trans (S':=fun k=>k=eB) (.of_grown hg3 fun k hk _=>by cases hk;rfl) fun _ _ h=>h
    have hT3:=hT2.even_put hf3 he3 (Nat.le_succ _);have hB3:=hf3.bx HB2 (by have:=H.out.lt;have:=HSR.out;omega);obtain⟨n0,n1,n2,_,_,_⟩:=hT3.mb.three;have w0':=hB3.cell 0;have w1':=hB3.cell 1;simp at w0' w1';obtain⟨HT3,HF3,HX⟩:=hid3 hT3 hf3 (And.intro hx (And.intro hb1 hb2));clear he3 hg3 hT2 hT3 hrg hx hb1 hb2 HB2 hf3 hB3;go_region_held3 (fun w'=>w'.cell? ⟨mB,2,none⟩=some (.map (some eB))∧w'.cell? ⟨S,0,none⟩=some (.int .i32 x0)∧w'.cell? ⟨S,1,none⟩=some (.int .i32 x1)) (first|(with_reducible exact⟨m2,v0,v1⟩)|(with_reducible exact⟨n2,w0',w1'⟩)|go_keep) (fail);go_wp2_with fail;go_ret;exact⟨x,nb2,A2,c2,rfl,HX.out.1,HX.out.2.1,HX.out.2.2,HT3.out.mono (by omega),((Mu.of_kp (S:=TrOwn tB kB eB A) kp.out).trans (S':=TrOwn tB kB eB A) hf2 fun _ _ h=>h).trans (S':=fun k=>k=eB) HF3.out fun k _ h=>.inr (.inr (.inl h)),fun k hk=>(hr2 k hk).imp id fun h=>by have:=kp.out.size;omega⟩
end
end Go.Proofs.YtociefdcccokjaaGreat

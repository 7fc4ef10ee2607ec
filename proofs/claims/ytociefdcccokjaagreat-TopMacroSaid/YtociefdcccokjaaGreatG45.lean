/-
  Lemmas for TopMacro. Conditions: each states its own.
-/
import Derived.DeepKeys4
import Derived.Maps.OwnOps
import Derived.Carry
import Derived.Test.YtociefdcccokjaaGreatG44
set_option maxHeartbeats 6400000
set_option maxRecDepth 100000
namespace Go.Proofs.YtociefdcccokjaaGreat
open Go.RowKit Go.Lib
section
open Go.RowKit Go.Lib Go.Maps
def okI (u:Value):Prop:=∃x:Int,u=.int .i64 x∧(-9223372036854775808≤x∧x≤9223372036854775807)
theorem oneI {u:Value}(h:okI u):u.oneCell'=true:=by obtain⟨x,rfl,_⟩:=h;rfl
theorem laidI:laidOutB Tryz.prog=true:=by kernel_rfl
theorem arrKI:Keyed Tryz.prog 193:=Keyed.of_law (deep_law_laid laidI (m:=2) (by omega) (of_decide_eq_true (by kernel_rfl)) (by kernel_rfl) (by kernel_rfl))
theorem valKI:Keyed Tryz.prog 3:=int_keyed Tryz.underlying3
theorem keyI (cs:List Value)(h:cs.length=1)(ho:∀u∈cs,okI u)(d:Nat):(Tryz.prog.keyLits (d+2) 3 cs).isSome=true:=by
 match cs,h with
 |[u],_=>
  obtain⟨x,rfl,hx⟩:=ho u (by simp);simp[Program.keyLits,Tryz.underlying3,wfI64 hx.1 hx.2]
theorem arrKeyI (cs:List Value)(h:cs.length=128)(ho:∀u∈cs,okI u):∃kl,keyOf Tryz.prog 193 (.agg cs.toArray)=some kl:=
 arr_key (z:=1) Tryz.underlying193 (by kernel_rfl) (by kernel_rfl) (by kernel_rfl) ⟨_,rfl⟩ cs h fun d i hi=>keyI _ (by simp[h];omega) (fun u hu=>ho u (List.mem_of_mem_drop (List.mem_of_mem_take hu))) d
theorem infoArrI:(Tryz.prog.info? 193).map (fun i=>(i.zero,i.size,i.bytes))=some (some (.agg (Array.replicate 128 (Value.int .i64 0))),128,1024):=by kernel_rfl
def TyI:TrTy:=⟨185,190,193,3,3,128⟩
abbrev MkI:=MkB Tryz.prog TyI okI
theorem placeQI (n base tB mB kB eB:Nat)(size:Int)(I:Value)(A:Option Addr)(c:Nat)(nb:Nat)(b:List Value)(w:World)(hb:b.length=128)(hw:∀x∈b,okI x)
 (h:MkI w n base tB mB kB eB nb size I A c)(hn:n≤20000)(hl:nb≤20000):
 Calls Tryz.prog 88 #[.pointer (some ⟨mB,0,none⟩),.agg b.toArray] w (RetPl Tryz.prog TyI okI w (n+1) base tB mB kB eB nb size I A):=by
 obtain⟨kl,hkl⟩:=arrKeyI b hb hw;have HW:=hid hw;clear hw;have kp1:Kp w (w.alloc (.cells b.toArray 193)):=(Kp.refl w).alloc _;have h1:=h.kp kp1;have bx1:=Bx.new w b.toArray 193;have hkn:NM Tryz.prog 193 3 (w.alloc (.cells b.toArray 193)).drew kB n nb:=h.known.mu (S:=fun _=>False) (Mu.of_kp kp1.drew) id;have hbase:=h.lt;have hne:=h.ne;have hU:=Tryz.underlying193;have hI:(Tryz.prog.info? 193).map (·.size)=some b.length:=by rw[hb];kernel_rfl
 obtain⟨cv,β,hlk,hβ⟩:=NM.look hkn arrKI Tryz.underlying187 Tryz.underlying3 rfl hkl;cases β with
 |true=>
  obtain⟨x,rfl,hx⟩:=hβ rfl;obtain⟨m0,m1,m2,_,_,_⟩:=h1.mb.three;have rg1:=bx1.range0;have H1:=hid h1;clear h h1 bx1 hkn hβ;go_enter Tryz.func88,Tryz.ntmps88;go_upto_region 1 with fail;go_region_held3 (fun w'=>w'.cell? ⟨mB,1,none⟩=some (.map (some kB))∧w'.rangeAt w.heap.size 0 b) (first|(with_reducible exact⟨m1,rg1⟩)|go_keep) (fail);clear hU hI;go_wp2_with fail;go_ret;exact⟨x,nb,A,c,rfl,hx,le_,by omega,(H1.out.kp (Kp.refl _).drew).mono (Nat.le_succ _),.of_kp kp1.drew,fun k hk=>.inl hk⟩
 |false=>
  obtain⟨w2,hput,kno2,hg2⟩:=NM.put (w:=(w.alloc (.cells b.toArray 193)).drew.drew) (nb':=nb+1) (x:=nb) (hkn.mu (S:=fun _=>False) (Mu.of_kp (Kp.refl _).drew) id) arrKI Tryz.underlying187 Tryz.underlying3 (by omega) hkl (Nat.lt_succ_self _) (Nat.le_succ _) (by omega);have fr2:Mu (fun k=>k=kB) w w2:=(Mu.of_kp (S:=fun k=>k=kB) kp1.drew.drew).trans (S':=fun k=>k=kB) (.of_grown hg2 fun k hk _=>by cases hk;rfl) fun _ _ h=>h
  have tb2:=fr2.bx h.tb hne.2.1.symm;have mb2:=fr2.bx h.mb hne.2.2.1.symm;have bx2:=(Mu.of_grown (S:=fun k=>k=kB) hg2 fun k hk _=>by cases hk;rfl).bx bx1.drew.drew (by show¬w.heap.size=kB;omega);have ev2:=(h.even.mu fr2 hne.2.2.2.2.2.symm).mono (n':=n+1) (nb':=nb+1) (Nat.le_succ _) (Nat.le_succ _);obtain⟨rcs,hro,hrc⟩:=h.row;have row2:=fr2.own hro fun k hk e=>by have:=hro.lt k hk;omega
  have hz2:=fr2.size;have hz2':w.heap.size<w2.heap.size:=bx2.lt;obtain⟨m0,m1,m2,_,_,_⟩:=h1.mb.three;obtain⟨t0,t1,t2,_,_,t5⟩:=h1.tb.three;have rg1:=bx1.range0;obtain⟨m0',m1',m2',_,_,_⟩:=mb2.three;obtain⟨t0',t1',t2',_,_,t5'⟩:=tb2.three;have rg1':=bx2.range0;have mb3:=mb2.drew.alloc (.cells b.toArray 193);have tb3:=tb2.drew.alloc (.cells b.toArray 193);have bx3:=bx2.drew.alloc (.cells b.toArray 193);have row3:=row2.drew.alloc (.cells b.toArray 193);have m0'':=mb3.three.1;have t2'':=tb3.three.2.2.1;have t5'':=tb3.three.2.2.2.2.2;have rg1'':=bx3.range0;obtain⟨HB,HT,HX,HROW,HRC,HK2,HE2,HF⟩:=hid8 mb3 tb3 bx3 row3 hrc kno2 ev2 fr2;have HLT:Hid (∀k,zB A=some k→base≤k∧k<w.heap.size):=hro.lt;clear h h1 bx1 mb2 tb2 bx2 mb3 tb3 bx3 row2 row3 hro hrc hkn hβ kno2 ev2 fr2 hg2;go_enter Tryz.func88,Tryz.ntmps88;go_upto_region 1 with fail;go_region_held3 (fun w'=>w'.cell? ⟨mB,1,none⟩=some (.map (some kB))∧w'.rangeAt w.heap.size 0 b) (first|(with_reducible exact⟨m1,rg1⟩)|go_keep) (fail);go_upto_region 4 with fail;go_region_held3 (fun w'=>w'.cell? ⟨mB,1,none⟩=some (.map (some kB))∧w'.rangeAt w.heap.size 0 b) (first|(with_reducible exact⟨m1,rg1⟩)|(with_reducible exact⟨m1',rg1'⟩)|go_keep) (fail);go_upto_region 5 with fail;clear rg1 hlk hput;have hS:w2.drew.cell? ⟨mB,0,none⟩=some (.pointer (some ⟨tB,0,none⟩))∧w2.drew.cell? ⟨tB,2,none⟩=some (.slice A nb c)∧w2.drew.rangeAt w.heap.size 0 b:=⟨m0',t2',rg1'⟩;refine wp_region_noPanic ?_;refine yI (fun w'=>w'.cell? ⟨mB,0,none⟩=some (.pointer (some ⟨tB,0,none⟩))∧w'.cell? ⟨tB,2,none⟩=some (.slice A nb c)∧w'.rangeAt w.heap.size 0 b) 16 (by kernel_rfl) (by kernel_rfl) fun inv=>?_
  refine tkT 0 inv hS fun inv=>?_
  refine tkT 1 inv hS fun inv=>?_
  refine tkT 2 inv hS fun inv=>?_
  refine tkT 3 inv hS fun inv=>?_
  refine tkT 4 inv hS fun inv=>?_
  refine tkT 5 inv hS fun inv=>?_
  refine tkT 6 inv hS fun inv=>?_
  refine tkT 7 inv hS fun inv=>?_
  refine tkT 8 inv hS fun inv=>?_
  refine tkT 9 inv hS fun inv=>?_
  refine tkT 10 inv hS fun inv=>?_
  try go_frame
  refine yJ (i:=11) (v:=?v12) inv (by simp only[List.getElem?_toArray,List.getElem?_cons_succ,List.getElem?_cons_zero];rfl) (by decide) (by kernel_rfl) (by kernel_rfl) ?hQ12 hS ?hy12 (fun inv=>?rest12)
  case hy12=>
   refine xW ?_ (yieldsIf_load_mid (by rfl) _ (.tmp 3) (by rfl) w.heap.size 0 (by rfl) _ _ (by intro wy hy;exact hy.2.2) hU rfl hI)
   with_reducible rfl
  case hQ12=>exact fun _ _ _ h=>h
  go_frame;refine onT 12 inv fun K hK=>?_
  refine step_build (by rfl) _ 193 _ (by rfl) _ 128 1024 Tryz.underlying183 infoArrI (by omega) (by omega) b hb (by rfl) ?_;refine hK.out _ _ ?_ (fun inv=>?_)
  ·exact⟨m0'',t2'',rg1''⟩
  clear hK K hS;try go_frame
  refine onT 13 inv fun K hK=>?_
  refine zJ _ (by rfl) _ _ _ (by rfl) base 193 _ 128 1024 Tryz.underlying183 infoArrI (by simp[Value.cells]) (by omega) A nb c rcs (by rfl) HROW.out Any _ 1 1 b (by rfl) (Sl.new _ _ _ _ _ trivial (by simp[hb]) (by omega)) (fun u hu=>oneI (HW.out u hu)) (by simp only[maxLen];omega) (by omega) (by simp;omega) ?_;intro A4 c4 w4 hown4 hg4 hat4;have hrow:∀k,zB A=some k→base≤k∧k<w.heap.size:=HLT.out;have mb4:=HB.out.grown hg4 (fun e=>by have:=hrow _ e;omega);have tb4:=HT.out.grown hg4 (fun e=>by have:=hrow _ e;omega);have bx4:=HX.out.grown hg4 (fun e=>by have:=hrow _ e;omega);obtain⟨x0,x1,x2,x3,x4,x5⟩:=tb4.three;refine hK.out _ _ ?_ (fun inv=>?_)
  ·exact⟨mb4.three.1,x2,bx4.range0⟩
  clear hK K;try go_frame
  have hS:w4.cell? ⟨mB,0,none⟩=some (.pointer (some ⟨tB,0,none⟩))∧w4.cell? ⟨tB,2,none⟩=some (.slice A nb c)∧w4.rangeAt w.heap.size 0 b:=⟨mb4.three.1,x2,bx4.range0⟩;refine tkT 14 inv hS fun inv=>?_
  refine tkT 15 inv hS fun inv=>?_
  try go_frame
  refine laT fun K hK=>?_
  go_simp;refine hK.out _ _ ?_;clear hK K;refine NoPanic.normal ?_;go_wp2_with fail;go_ret;have f5:Mu (fun k=>k=tB∨zB A=some k) w2 (w4.setCell ⟨tB,2,none⟩ (.slice A4 (nb+1) c4)):=
   ((Mu.of_kp (S:=fun k=>k=tB∨zB A=some k) ((Kp.refl w2).drew.alloc _)).trans (S':=fun k=>k=tB∨zB A=some k) (.of_grown hg4 fun k hk _=>.inr hk) fun _ _ h=>h).setCell (p:=⟨tB,2,none⟩) (.inl rfl) _
  have hk5:¬(kB=tB∨zB A=some kB):=by rintro(h|h);exact hne.2.1 h;have:=hrow _ h;omega
  have he5:¬(eB=tB∨zB A=some eB):=by rintro(h|h);exact hne.2.2.2.1 h;have:=hrow _ h;omega
  refine⟨nb,nb+1,A4,c4,rfl,Nat.lt_succ_self _,Nat.le_succ _,le_,⟨tb4.set 2 _,mb4.far (p:=⟨tB,2,none⟩) hne.1.symm _,⟨rcs++b,hown4.setCell (fun e=>by have:=(hown4.lt _ e).1;dsimp only at this;omega) _,?_⟩,HK2.out.mu f5 hk5,HE2.out.mu f5 he5,⟨hbase.1,hbase.2.1,hbase.2.2.1,hbase.2.2.2.1,?_⟩,hne⟩,?_,?_⟩
  ·intro u hu
   rcases List.mem_append.1 hu with hu|hu
   ·exact HRC.out u hu
   ·exact HW.out u hu
  ·have:=f5.size;omega
  ·exact(HF.out.weak fun k _ hk=>.inr (.inl hk)).trans (S':=fun k=>k=tB∨zB A=some k) f5 fun k _ hk=>by rcases hk with h|h;exact .inl h;exact .inr (.inr (.inr h))
  ·intro k hk
   rcases hat4 with h|h
   ·exact .inl (h▸hk)
   ·rw[h]at hk
    cases hk
    right
    simp;omega
end
def ValI (V:Value)(cs:List Value):Prop:=∃(x0:Int),(-9223372036854775808≤x0∧x0≤9223372036854775807)∧V=.int .i64 x0∧cs=[.int .i64 x0]
theorem namesI (cs:List Value)(h:cs.length=1)(ho:∀u∈cs,okI u):∃(x0:Int),(-9223372036854775808≤x0∧x0≤9223372036854775807)∧cs=[.int .i64 x0]:=by
 match cs,h with
 |[u0],_=>
  obtain⟨x0,rfl,h0⟩:=ho u0 (by simp);exact⟨x0,h0,rfl⟩
def PcWI (w:World)(A:Option Addr)(n c:Nat):Prop:=∃ps:List (List Value),Sl w Any 3 A n c ps.flatten∧ps.length=n∧∀p∈ps,∃(fr tt:Int) (cs:List Value),p=.int .i64 fr:: .int .i64 tt::cs∧cs.length=1∧∀u∈cs,okI u
theorem PcWI.kp {w w':World}{A:Option Addr}{n c:Nat}(h:PcWI w A n c)(k:Kp w w'):PcWI w' A n c:=by obtain⟨ps,h1,h2⟩:=h;exact⟨ps,h1.kp k,h2⟩
theorem PcWI.get {w:World}{A:Option Addr}{n c:Nat}(h:PcWI w A n c){i:Nat}(hi:i<n):∃(ad:Addr) (fr tt:Int) (x0:Int),A=some ad∧(-9223372036854775808≤x0∧x0≤9223372036854775807)∧w.cell? (ad.add (i*3))=some (.int .i64 fr)∧w.cell? ⟨(ad.add (i*3)).block,(ad.add (i*3)).off+1,none⟩=some (.int .i64 tt)∧w.cell? ⟨(ad.add (i*3)).block,(ad.add (i*3)).off+2,none⟩=some (.int .i64 x0):=by
 obtain⟨ps,h1,h2,h3⟩:=h;obtain⟨p,hp⟩:∃p,ps[i]? =some p:=⟨_,List.getElem?_eq_getElem (by omega)⟩;obtain⟨fr,tt,cs,rfl,hl,ho⟩:=h3 p (List.mem_of_getElem? hp);obtain⟨x0,hw,rfl⟩:=namesI cs hl ho;obtain⟨ad,e,_,_,hc⟩:=Sl.at_ h1 (by omega);have g:=fun r (hr:r<3)=>yR (k:=3) (css:=ps) (i:=i) (r:=r) (fun c hc=>by obtain⟨_,_,cs,rfl,hl,_⟩:=h3 c hc;simp[hl]) hp hr
 refine⟨ad,fr,tt,x0,e,hw,hc _ _ (g 0 (by omega)),?_,?_⟩
 ·have:=hc _ _ (g 1 (by omega));rwa[zF _ _ 0]at this
 ·have:=hc _ _ (g 2 (by omega));rwa[zF _ _ 1]at this
def RetFindI (w:World)(en:Ending)(w':World):Prop:=∃(V:Value) (cs:List Value) (u:Int),en=.returned (.tuple #[V,.int .i64 u])∧ValI V cs∧Kp w w'
theorem findQI (A:Option Addr)(n c:Nat)(V:Value)(zs:List Value)(i last:Int)(w:World)(hP:PcWI w A n c)(hz:ValI V zs)(hn:n≤1099511627776):
 Calls Tryz.prog 86 #[.slice A n c,V,.int .i64 i,.int .i64 last] w (RetFindI w):=by
 obtain⟨HP,HZ⟩:=hid2 hP hz;obtain⟨ps,hsl,_,_⟩:=hP;have hle:=Sl.le hsl;have hcp:=Sl.cap hsl;unfold maxLen at hcp;obtain⟨z0,hw0,rfl,rfl⟩:=hz;clear hsl;go_enter Tryz.func86,Tryz.ntmps86;go_wp2_with fail;go_loopg [14,3] n (fun g iv lv wr=>∃(k:Nat) (lt:Int),k+g=n∧iv=.int .i64 k∧lv=.int .i64 lt∧Kp w wr)
 case atStart=>exact⟨0,last,by omega,rfl,rfl,Kp.refl _⟩
 case round=>
  obtain⟨k,lt,hk,rfl,rfl,kp⟩:=hrel;by_cases hkn:k<n
  ·obtain⟨ad,fr,tt,x0,rfl,hwv,c0,c1,c2⟩:=(HP.out.kp kp).get hkn
   have HV:=hid hwv;have kp1:=kp.alloc (.cells #[.int .i64 fr,.int .i64 tt,.int .i64 x0] 121);have ne:=Nat.ne_of_gt (World.block_lt_of_cell? wr _ c0);clear hwv;by_cases ha:fr≤i
   ·by_cases hb:i≤tt
    ·go_upto_region 5 with fail
     go_quiet (fail);go_wp2_with fail
     all_goals
      go_ret2;exact⟨_,_,_,rfl,⟨x0,HV.out,rfl,rfl⟩,kp1.drewN _⟩
    ·have hb':decide (i≤tt)=false:=by simp;omega
     have hc1:decide (i<fr)=false:=by simp;omega
     clear hb;go_wp2_with fail;go_roundg (n - (k+1))
     case measure=>omega
     case rel=>exact⟨k+1,lt,by omega,by go_num,rfl,kp1⟩
   ·have ha':decide (fr≤i)=false:=by simp;omega
    have hc1:decide (i<fr)=true:=by simp;omega
    clear ha;by_cases hb:fr≤lt
    ·obtain⟨q,hq⟩:∃q,q=IntKind.i64.wrap (fr - 1):=⟨_,rfl⟩
     go_wp2_with fail;go_roundg (n - (k+1))
     case measure=>omega
     case rel=>exact⟨k+1,_,by omega,by go_num,rfl,kp1⟩
    ·have hb':decide (fr≤lt)=false:=by simp;omega
     clear hb;go_wp2_with fail;go_roundg (n - (k+1))
     case measure=>omega
     case rel=>exact⟨k+1,lt,by omega,by go_num,rfl,kp1⟩
  ·go_wp2_with fail
   go_ret2;exact⟨_,_,_,rfl,HZ.out,kp⟩
section
open Go.RowKit Go.Lib Go.Maps
theorem valKeyI {V:Value}{cs:List Value}(h:ValI V cs):∃kl,keyOf Tryz.prog 3 V=some kl:=by
 obtain⟨x0,hw,rfl,rfl⟩:=h;exact⟨.int .i64 x0,by simp[keyOf,mapKey,Tryz.underlying3,wfI64 hw.1 hw.2]⟩
def RowI (w:World)(b:Nat):Prop:=∃cs:List Value,Bx w b cs.toArray 193∧cs.length=128∧∀u∈cs,okI u
theorem RowI.new (w:World):RowI (w.alloc (.cells Tryz.zeroCells193 193)) w.heap.size:=by
 have h:(Tryz.zeroCells193).toList=List.replicate 128 (Value.int .i64 0):=by kernel_rfl
 refine⟨(Tryz.zeroCells193).toList,Bx.new w _ _,by rw[h,List.length_replicate],fun u hu=>?_⟩;rw[h]at hu;rw[List.eq_of_mem_replicate hu];exact⟨0,rfl,by omega,by omega⟩
theorem RowI.kp {w w':World}{b:Nat}(h:RowI w b)(k:Kp w w'):RowI w' b:=by obtain⟨cs,h1,h2⟩:=h;exact⟨cs,h1.kp k,h2⟩
theorem RowI.set {w:World}{b:Nat}(h:RowI w b)(o:Nat){u:Value}(hu:okI u):RowI (w.setCell ⟨b,o,none⟩ u) b:=by
 obtain⟨cs,h1,h2,h3⟩:=h;refine⟨cs.set o u,by have:=h1.set o u;rwa[List.setIfInBounds_toArray]at this,by simpa using h2,fun x hx=>?_⟩;rcases List.mem_or_eq_of_mem_set hx with hx|rfl
 ·exact h3 x hx
 ·exact hu
theorem RowI.at_ {w:World}{b:Nat}(h:RowI w b){o:Nat}(ho:o<128):(∃u,w.cell? ⟨b,o,none⟩=some u)∧w.frozen? ⟨b,o,none⟩=false:=by
 obtain⟨cs,h1,h2,h3⟩:=h;exact⟨⟨cs[o]'(by omega),by rw[h1.cell];simp⟩,h1.frozen o⟩
theorem plainQI (n base tB mB kB eB:Nat)(size:Int)(I:Value)(A:Option Addr)(c nb:Nat)(V:Value)(vs:List Value)(w:World)(hv:ValI V vs)(h:MkI w n base tB mB kB eB nb size I A c)(hn:n≤19999)(hl:nb≤19999):
 Calls Tryz.prog 87 #[.pointer (some ⟨mB,0,none⟩),V] w (RetPl Tryz.prog TyI okI w (n+2) base tB mB kB eB nb size I A):=by
 obtain⟨kl,hkl⟩:=valKeyI hv;obtain⟨x0,hw,rfl,rfl⟩:=hv;have hbase:=h.lt;have hne:=h.ne;obtain⟨m0,m1,m2,_,_,_⟩:=h.mb.three;obtain⟨cv,β,hlk,hβ⟩:=NM.look h.even valKI Tryz.underlying188 Tryz.underlying3 rfl hkl;obtain⟨H,HW⟩:=hid2 h hw;clear h hw;cases β with
 |true=>
  obtain⟨x,rfl,hx⟩:=hβ rfl;clear hβ;go_enter Tryz.func87,Tryz.ntmps87;go_wp2_with fail;go_ret;exact⟨x,nb,A,c,rfl,hx,le_,by omega,H.out.mono (by omega),.refl _,fun k hk=>.inl hk⟩
 |false=>
  clear hβ;go_enter Tryz.func87,Tryz.ntmps87;go_wp2_with fail;go_loopg [20] 128 (fun g iv wr=>∃k:Nat,k+g=128∧iv=.int .i64 k∧Hid (RowI wr w.heap.size)∧Kp w wr)
  case atStart=>exact⟨0,rfl,rfl,RowI.new w,(Kp.refl _).alloc _⟩
  case round=>
   obtain⟨k,hk,rfl,hrow,kp⟩:=hrel;by_cases hlt:k<128
   ·obtain⟨⟨u,hcu⟩,hfz⟩:=hrow.out.at_ (o:=k) (by omega)
    have hk0:(0:Int)≤(k:Int):=by omega
    have hk1:(k:Int)<128:=by omega
    have HR2:=hid (hrow.out.set k (u:=.int .i64 x0) ⟨x0,rfl,HW.out⟩);go_wp2_with fail;go_roundg (128 - (k+1))
    case measure=>omega
    case rel=>exact⟨k+1,by omega,by go_num,HR2,kp.setCell (p:=⟨w.heap.size,k,none⟩) le_ _⟩
   ·have hkk:k=128:=by omega
    subst hkk;obtain⟨cs,hb,hcl,hco⟩:=hrow.out;have HCO:=hid hco;clear hlt hrow hco;have hrg:=hb.range0;have hU:=Tryz.underlying193;have hI:(Tryz.prog.info? 193).map (·.size)=some cs.length:=by rw[hcl];kernel_rfl
    have hT:=H.out.kp kp;obtain⟨HI,HU,HPL⟩:=hid3 hI hU (placeQI n base tB mB kB eB size I A c nb cs wr hcl HCO.out hT (by omega) (by omega));clear hI hU m0 m1 m2 hlk hcl hb hT;go_upto_region 10 with(first
     |(refine wpList_load_mid (by rfl) 193 (.tmp 7) (by rfl) w.heap.size 0 (by rfl) cs _ hrg HU.out rfl HI.out ?_)
     |(go_at_call 88;refine HPL.out.mono ?_;rintro e w2 ⟨x,nb2,A2,c2,rfl,hx,hb1,hb2,hT2,hf2,hr2⟩))
    obtain⟨m0,m1,m2,_,_,_⟩:=hT2.mb.three;obtain⟨w3,hput,he3,hg3⟩:=NM.put (x:=x) (nb':=nb2) hT2.even valKI Tryz.underlying188 Tryz.underlying3 (by omega) hkl hx le_ (by omega);obtain⟨HE3,HG3,HT2,HX⟩:=hid4 he3 hg3 hT2 (And.intro hx (And.intro hb1 hb2));clear he3 hg3 hT2 hrg hx hb1 hb2;go_wp2_with fail;go_ret;have f3:Mu (fun k=>k=eB) w2 w3:=.of_grown HG3.out fun k hk _=>by cases hk;rfl
    exact⟨x,nb2,A2,c2,rfl,HX.out.1,HX.out.2.1,HX.out.2.2,HT2.out.even_put f3 HE3.out (by omega),((Mu.of_kp (S:=TrOwn tB kB eB A) kp).trans (S':=TrOwn tB kB eB A) hf2 fun _ _ h=>h).trans (S':=fun k=>k=eB) f3 fun k _ h=>.inr (.inr (.inl h)),fun k hk=>(hr2 k hk).imp id fun h=>by have:=kp.size;omega⟩
end
section
open Go.RowKit Go.Lib Go.Maps
attribute [local go_sem] run_makeMap
theorem infoIntI:(Tryz.prog.info? 3).map (fun i=>(i.zero,i.size,i.bytes))=some (some (.int .i64 0),1,8):=by kernel_rfl
structure BdI (w wr:World)(s nn q nb:Nat)(IA:Option Addr)(Ic:Nat)(BA:Option Addr)(Bc:Nat):Prop where
 tr:MkI wr nn (s+4) s (s+3) (s+1) (s+2) nb 1114112 (.slice IA q Ic) BA Bc
 ix:∃L:List Nat,Own wr (s+4) 3 1 IA q Ic (L.map fun x:Nat=>Value.int .i64 (x:Int))∧∀x∈L,x<nb
 far:∀k,zB IA=some k→zB BA≠some k
 kp:Kp w wr
section
variable {w wr wx wq w3 w4:World}{s nn n' q nb nb' x:Nat}{IA IA4 BA BA3:Option Addr}{Ic Ic4 Bc Bc3:Nat}
theorem BdI.kp' (h:BdI w wr s nn q nb IA Ic BA Bc)(k:Kp wr wx):BdI w wx s nn q nb IA Ic BA Bc:=by
 obtain⟨L,h1,h2⟩:=h.ix;exact⟨h.tr.kp k,⟨L,h1.kp k,h2⟩,h.far,h.kp.trans k⟩
theorem BdI.rl (h:BdI w wr s nn q nb IA Ic BA Bc):∀k,zB IA=some k→s+4≤k∧k<wr.heap.size:=by obtain⟨L,h1,_⟩:=h.ix;exact h1.lt
theorem BdI.mono (h:BdI w wr s nn q nb IA Ic BA Bc)(hn:nn≤n'):BdI w wr s n' q nb IA Ic BA Bc:=⟨h.tr.mono hn,h.ix,h.far,h.kp⟩
theorem laidQI {xs:List Nat}(st:BdI w wr s nn q nb IA Ic BA Bc)(hs:w.heap.size≤s)(hk:Kp wr wq)(hxs:∀y∈xs,y<nb)(hx:x<nb)
 (hown:Own w4 (s+4) 3 1 IA4 (q+1) Ic4 (xs.map (fun x:Nat=>Value.int .i64 (x:Int))++[.int .i64 (x:Int)]))(hg:wq.grownBy w4 (zB IA))(hat:zB IA4=zB IA∨zB IA4=some wq.heap.size):
 BdI w (w4.setCell ⟨s,1,none⟩ (.slice IA4 (q+1) Ic4)) s nn (q+1) nb IA4 Ic4 BA Bc:=by
 obtain⟨hT,hI,hd,hkp⟩:=st;have hrow:∀k,zB IA=some k→s+4≤k∧k<wr.heap.size:=by obtain⟨L,h1,_⟩:=hI;exact h1.lt
 have f:Mu (fun k=>zB IA=some k∨k=s) wr (w4.setCell ⟨s,1,none⟩ (.slice IA4 (q+1) Ic4)):=
  ((Mu.of_kp (S:=fun k=>zB IA=some k∨k=s) hk).trans (S':=fun k=>zB IA=some k∨k=s) (.of_grown hg fun k hk _=>.inl hk) fun _ _ h=>h).setCell (p:=⟨s,1,none⟩) (.inr rfl) _
 have hlt:=hT.lt;have no:∀k,k<s+4→k≠s→¬(zB IA=some k∨k=s):=by
  rintro k h1 h2 (h|h)
  ·have:=hrow k h;omega
  ·exact h2 h
 obtain⟨cs,hr,hc⟩:=hT.row;refine⟨⟨?_,f.bx hT.mb (no _ (by omega) (by omega)),⟨cs,f.own hr ?_,hc⟩,hT.known.mu f (no _ (by omega) (by omega)),hT.even.mu f (no _ (by omega) (by omega)),⟨hlt.1,hlt.2.1,hlt.2.2.1,hlt.2.2.2.1,Nat.le_trans hlt.2.2.2.2 f.size⟩,hT.ne⟩,⟨xs++[x],?_,?_⟩,?_,?_⟩
 ·exact((hT.tb.kp hk).grown hg fun e=>by have:=hrow _ e;omega).set 1 _
 ·rintro k hk' (h|h)
  ·exact hd k h hk'
  ·have:=hr.lt k hk';omega
 ·rw[List.map_append]
  exact hown.setCell (fun e=>by have:=(hown.lt _ e).1;dsimp only at this;omega) _
 ·intro y hy
  rcases List.mem_append.1 hy with hy|hy
  ·exact hxs y hy
  ·rw[List.mem_singleton]at hy;rw[hy];exact hx
 ·intro k h1 h2
  rcases hat with h|h
  ·exact hd k (h▸h1) h2
  ·rw[h]at h1
   cases h1
   have:=hr.lt _ h2;have:=hk.size;omega
 ·exact f.kp hkp fun k h=>by
   rcases h with h|h
   ·have:=hrow k h;omega
   ·omega
theorem turnQI (st:BdI w wr s nn q nb IA Ic BA Bc)(hs:w.heap.size≤s)(hT:MkI w3 n' (s+4) s (s+3) (s+1) (s+2) nb' 1114112 (.slice IA q Ic) BA3 Bc3)(hb:nb≤nb')(hf:Mu (TrOwn s (s+1) (s+2) BA) wr w3)(hr:∀k,zB BA3=some k→zB BA=some k∨wr.heap.size≤k):
 BdI w w3 s n' q nb' IA Ic BA3 Bc3:=by
 obtain⟨hT0,⟨L,hO,hL⟩,hd,hkp⟩:=st;have h0:=hT0.rl;refine⟨hT,⟨L,hf.own hO ?_,fun x hx=>Nat.lt_of_lt_of_le (hL x hx) hb⟩,?_,hf.kp hkp ?_⟩
 ·rintro k hk (h|h|h|h)
  ·have:=hO.lt k hk;omega
  ·have:=hO.lt k hk;omega
  ·have:=hO.lt k hk;omega
  ·exact hd k hk h
 ·intro k h1 h2
  rcases hr k h2 with h|h
  ·exact hd k h1 h
  ·have:=hO.lt k h1;omega
 ·rintro k (h|h|h|h)
  ·omega
  ·omega
  ·omega
  ·have:=h0 k h;omega
end
theorem begunI (w:World):BdI w ((((w.alloc (.cells #[.int .i64 1114112,.slice none 0 0,.slice none 0 0] 185)).alloc (.map #[] 0)).alloc (.map #[] 0)).alloc (.cells #[.pointer (some ⟨w.heap.size,0,none⟩),.map (some (w.heap.size+1)),.map (some (w.heap.size+2))] 190))
 w.heap.size 0 0 0 none 0 none 0:=by
 obtain⟨w1,h1⟩:∃w1,w1=w.alloc (.cells #[.int .i64 1114112,.slice none 0 0,.slice none 0 0] 185):=⟨_,rfl⟩;obtain⟨w2,h2⟩:∃w2,w2=w1.alloc (.map #[] 0):=⟨_,rfl⟩;obtain⟨w3,h3⟩:∃w3,w3=w2.alloc (.map #[] 0):=⟨_,rfl⟩;have z1:w1.heap.size=w.heap.size+1:=by rw[h1];simp
 have z2:w2.heap.size=w.heap.size+2:=by rw[h2];simp[z1]
 have z3:w3.heap.size=w.heap.size+3:=by rw[h3];simp[z2]
 have b1:=Bx.new w #[.int .i64 1114112,.slice none 0 0,.slice none 0 0] 185;rw[←h1]at b1;have k2:=NM.made w1 Tryz.prog 193 3;have k3:=NM.made w2 Tryz.prog 3 3;have b4:=Bx.new w3 #[.pointer (some ⟨w.heap.size,0,none⟩),.map (some (w.heap.size+1)),.map (some (w.heap.size+2))] 190;rw[←h2,z1]at k2;rw[←h3,z2]at k3;rw[z3]at b4;rw[←h1,←h2,←h3];have p12:Kp w1 w2:=by rw[h2];exact(Kp.refl _).alloc _
 have p23:Kp w2 w3:=by rw[h3];exact(Kp.refl _).alloc _
 have p34:Kp w3 (w3.alloc (.cells #[.pointer (some ⟨w.heap.size,0,none⟩),.map (some (w.heap.size+1)),.map (some (w.heap.size+2))] 190)):=(Kp.refl _).alloc _;have p01:Kp w w1:=by rw[h1];exact(Kp.refl _).alloc _
 refine⟨⟨b1.kp ((p12.trans p23).trans p34),b4,⟨[],Own.nil _ _ _ _,fun u hu=>by simp at hu⟩,(k2.mu (S:=fun _=>False) (.of_kp (p23.trans p34)) id),(k3.mu (S:=fun _=>False) (.of_kp p34) id),⟨by omega,by omega,by omega,by omega,by simp[z3]⟩,⟨by omega,by omega,by omega,by omega,by omega,by omega⟩⟩,⟨[],Own.nil _ _ _ _,fun x hx=>by simp at hx⟩,?_,((p01.trans p12).trans p23).trans p34⟩;intro k hk;cases hk
def RetQI (w:World)(en:Ending)(w':World):Prop:=∃(tB nb nn s:Nat) (IA:Option Addr) (Ic:Nat) (BA:Option Addr) (Bc:Nat),en=.returned (.pointer (some ⟨tB,0,none⟩))∧tB=s∧w.heap.size≤s∧BdI w w' s nn 8704 nb IA Ic BA Bc
theorem buildQI (A:Option Addr)(n c:Nat)(Z:Value)(zs:List Value)(w:World)(hP:PcWI w A n c)(hz:ValI Z zs)(hn:n≤1099511627776):
 Calls Tryz.prog 46 #[.int .i64 1114112,Z,.slice A n c] w (RetQI w):=by
 have HFIND:Hid (∀(wx:World) (i:Int),Kp w wx→Calls Tryz.prog 86 #[.slice A n c,Z,.int .i64 i,.int .i64 1114111] wx (RetFindI wx)):=fun wx i k=>findQI A n c Z zs i 1114111 wx (hP.kp k) hz hn
 have st0:=begunI w;have hzv:=hz;clear hz;go_enter Tryz.func46,Tryz.ntmps46;go_upto_region 5 with fail;generalize((((w.alloc (.cells #[.int .i64 1114112,.slice none 0 0,.slice none 0 0] 185)).alloc (.map #[] 0)).alloc (.map #[] 0)).alloc (.cells #[.pointer (some ⟨w.heap.size,0,none⟩),.map (some (w.heap.size+1)),.map (some (w.heap.size+2))] 190))=w0 at *;go_upto_region 6 with(go_at_call 86;refine(HFIND.out w0 0 st0.kp).mono ?_;rintro e w1 ⟨_,_,u1,rfl,⟨x0,hv1,rfl,rfl⟩,k1⟩);obtain⟨st1,HV1⟩:=hid2 (st0.kp' k1) hv1;clear st0 k1 hv1 hzv;go_wp2_with fail;go_loopg [11,9,10] 8704 (fun g tv vv uv wr=>∃(a nb:Nat) (x0:Int) (u:Int) (IA:Option Addr) (Ic:Nat) (BA:Option Addr) (Bc:Nat),a+g=8704∧nb≤a∧tv=.int .i64 (128*(a:Int))∧vv=.int .i64 x0∧uv=.int .i64 u∧Hid (-9223372036854775808≤x0∧x0≤9223372036854775807)∧Hid (BdI w wr w.heap.size (2*a) a nb IA Ic BA Bc))
 case atStart=>exact⟨0,0,x0,u1,none,0,none,0,rfl,le_,rfl,rfl,rfl,HV1,st1⟩
 case round=>
  clear st1 HV1;obtain⟨a,nb,x0,u,IA,Ic,BA,Bc,hg,hnb,rfl,rfl,rfl,hv,st⟩:=hrel;obtain⟨t,ht⟩:∃t:Int,t=128*(a:Int):=⟨_,rfl⟩;rw[←ht];by_cases hc:t<1114112
  ·have ha7:a≤8703:=by omega
   have hw128:IntKind.i64.wrap (t+128)=t+128:=zV (by omega) (by omega);have ht0:0≤t:=by omega
   have HT:=hid ht;clear ht;go_upto_if 41 with fail;go_cut [9,10] (fun v' u' wx=>∃(x0:Int) (u2:Int),v'=.int .i64 x0∧u'=.int .i64 u2∧Hid (-9223372036854775808≤x0∧x0≤9223372036854775807)∧Hid (Kp wr wx))
   case first=>
    by_cases hgt:u<t
    ·have HFT:=hid (HFIND.out wr t st.out.kp)
     go_wp2_with fail;refine HFT.out.mono ?_;rintro e w1 ⟨_,_,u1,rfl,⟨x0,hv1,rfl,rfl⟩,k1⟩;obtain⟨HV1,HK1⟩:=hid2 hv1 k1;clear hv1 k1;go_wp2_with fail;go_meet;exact⟨x0,u1,rfl,rfl,HV1,HK1⟩
    ·go_wp2_with fail
     go_meet;exact⟨x0,u,rfl,rfl,hv,Kp.refl _⟩
   case rest=>
    clear hv;obtain⟨x0,u2,rfl,rfl,hv2,k2⟩:=hcut;have st2:=hid (st.out.kp' k2.out);clear st k2;by_cases hun:min (t+128) 1114112 - 1≤u2
    ·have HPL:=hid (plainQI (2*a) (w.heap.size+4) w.heap.size (w.heap.size+3) (w.heap.size+1) (w.heap.size+2) 1114112 (.slice IA a Ic) BA Bc nb (.int .i64 x0) [.int .i64 x0] wc ⟨x0,hv2.out,rfl,rfl⟩ st2.out.tr (by omega) (by omega))
     go_upto_region 13 with fail;generalize(if 1114112<t+128 then 1114112 else t+128)=en at *;go_wp2_with (go_at_call 87;refine HPL.out.mono ?_;rintro e w3 ⟨x,nb3,BA3,Bc3,rfl,hx,hb1,hb2,hT3,hf3,hr3⟩);obtain⟨st3,HX⟩:=hid2 (turnQI st2.out le_ hT3 hb1 hf3 hr3) hx;clear HPL st2 hT3 hf3 hr3 hx;go_loopg [11] (8704 - a) (fun g tv wr=>∃(q:Nat) (IA:Option Addr) (Ic:Nat),q+g=8704∧a≤q∧tv=.int .i64 (128*(q:Int))∧Hid (128*(q:Int)<1114112+128)∧Hid (BdI w wr w.heap.size (2*a+2) q nb3 IA Ic BA3 Bc3))
     case atStart=>exact⟨a,IA,Ic,by omega,le_,by rw[HT.out],hid (by have:=HT.out;omega),st3⟩
     case round=>
      clear st3;obtain⟨q,IB,Ib,hg2,haq,rfl,hv3,st4⟩:=hrel;obtain⟨tq,htq⟩:∃tq:Int,tq=128*(q:Int):=⟨_,rfl⟩;rw[←htq]at hv3⊢;have htb:t≤tq∧tq<1114112+128∧0≤tq:=⟨by have:=HT.out;omega,hv3.out,by omega⟩;have hwq:IntKind.i64.wrap (tq+128)=tq+128:=zV (by omega) (by omega);have hwm:IntKind.i64.wrap (tq - 128)=tq - 128:=zV (by omega) (by omega);have hwmm:IntKind.i64.wrap (tq - 128+128)=tq:=by rw[zV (by omega) (by omega)];omega
      have HTQ:=hid htq;clear htq;obtain⟨kb,hkb⟩:∃kb:Bool,kb=decide (tq<1114112∧min (tq+128) 1114112 - 1≤u2):=⟨_,rfl⟩;have HKB:=hid hkb;clear hkb;go_upto_region 14 with fail;go_cut [73] (fun v wx=>v=.bool kb∧wx=wr)
      case first=>
       by_cases h1:tq<1114112
       ·go_wp2_with fail
        all_goals
         go_meet;refine⟨?_,rfl⟩;rw[HKB.out]
         congr 1
         rw[decide_eq_decide];omega
       ·have hkf:kb=false:=by rw[HKB.out];simp[h1]
        go_wp2_with fail;go_meet;exact⟨by rw[hkf],rfl⟩
      case rest=>
       obtain⟨rfl,rfl⟩:=hcut;cases kb with
       |true=>
        have h12:tq<1114112∧min (tq+128) 1114112 - 1≤u2:=of_decide_eq_true HKB.out.symm;have hq8:q≤8703:=by have:=HTQ.out;omega
        obtain⟨t0,t1,t2,_,t4,_⟩:=st4.out.tr.tb.three;obtain⟨L,hL1,hL2⟩:=st4.out.ix;obtain⟨HL1,HL2⟩:=hid2 hL1 hL2;clear hL1 hL2;go_wp2_with (at_builtin;refine zA _ rfl (.tmp 80) (.tmp 82) _ rfl (w.heap.size+4) 3 _ 1 8 Tryz.underlying126 infoIntI rfl (by omega) IB q Ib (L.map fun x:Nat=>Value.int .i64 (x:Int)) rfl (HL1.out.alloc _) Any _ 1 1 [.int .i64 (x:Int)] rfl (Sl.new _ _ _ _ _ trivial rfl (by omega)) (by simp[Value.oneCell']) (by simp only[maxLen];omega) (by omega) (by have:=st4.out.tr.lt;simp;omega) ?_;intro A4 c4 w4 hown4 hg4 hat4;have tb4:=(st4.out.tr.tb.alloc (.cells #[.int .i64 (x:Int)] 3)).grown hg4 (fun e=>by have:=(st4.out.rl _ e).1;omega);obtain⟨x0,x1,x2,_,x4,_⟩:=tb4.three);have ap:=hid (laidQI st4.out le_ ((Kp.refl _).alloc _) HL2.out HX.out hown4 hg4 hat4);go_roundg (8704 - (q+1))
        case measure=>omega
        case rel=>exact⟨q+1,A4,c4,by omega,by omega,by have:=HTQ.out;go_num,hid (by have:=HTQ.out;omega),ap⟩
       |false=>
        have h12:¬(tq<1114112∧min (tq+128) 1114112 - 1≤u2):=of_decide_eq_false HKB.out.symm;have hqa:a<q:=by
         rcases Nat.lt_or_ge a q with h|h
         ·exact h
         ·exfalso
          have :q=a:=by omega
          have h5:tq=t:=by have:=HTQ.out;have:=HT.out;omega
          exact h12 (by rw[h5];exact⟨hc,hun⟩)
        have H12:=hid h12;clear h12;go_wp2_with fail;go_roundg (8704 - q)
        case measure=>omega
        case rel=>exact⟨q,nb3,x0,u2,IB,Ib,BA3,Bc3,by omega,by omega,by have:=HTQ.out;go_num,rfl,rfl,hv2,st4.out.mono (by omega)⟩
    ·go_upto_region 18 with fail
     generalize(if 1114112<t+128 then 1114112 else t+128)=en at *;obtain⟨wd,hwd⟩:∃wd:World,wd=wc:=⟨_,rfl⟩;subst hwd;have hsz0:=st2.out.tr.lt.2.2.2.2;have HUN:=hid hun;clear hun;go_wp2_with fail;go_loopg [88,9,10] 128 (fun g iv vv uv wr=>∃(i:Nat) (x0:Int) (u:Int),i+g=128∧iv=.int .i64 (i:Int)∧vv=.int .i64 x0∧uv=.int .i64 u∧Hid (-9223372036854775808≤x0∧x0≤9223372036854775807)∧Hid (RowI wr wd.heap.size)∧Hid (Kp wd wr))
     case atStart=>exact⟨0,x0,u2,rfl,rfl,rfl,rfl,hv2,RowI.new wd,(Kp.refl _).alloc _⟩
     case round=>
      clear hv2;obtain⟨i,x0,u,hi,rfl,rfl,rfl,hv4,hrow,kp⟩:=hrel;by_cases hlt:i<128
      ·have hwi:IntKind.i64.wrap (t+(i:Int))=t+(i:Int):=zV (by omega) (by omega)
       obtain⟨kb,hkb⟩:∃kb:Bool,kb=decide (u<t+(i:Int)∧t+(i:Int)<1114112):=⟨_,rfl⟩;have HKB:=hid hkb;clear hkb;go_upto_region 22 with fail;go_cut [102] (fun v wx=>v=.bool kb∧wx=wr)
       case first=>
        by_cases h1:u<t+(i:Int)
        ·have hkk:kb=decide (t+(i:Int)<1114112):=by rw[HKB.out];simp[h1]
         have HKK:=hid hkk;clear hkk;go_wp2_with fail;go_meet;exact⟨by rw[HKK.out],rfl⟩
        ·have hkf:kb=false:=by rw[HKB.out];simp[h1]
         go_wp2_with fail;go_meet;exact⟨by rw[hkf],rfl⟩
       case rest=>
        obtain⟨rfl,rfl⟩:=hcut;obtain⟨wq,hwq⟩:∃wq:World,wq=wc:=⟨_,rfl⟩;subst hwq;go_upto_if 102 with fail;go_cut [9,10] (fun v' u' wx=>∃(x0:Int) (u5:Int),v'=.int .i64 x0∧u'=.int .i64 u5∧Hid (-9223372036854775808≤x0∧x0≤9223372036854775807)∧Hid (Kp wq wx))
        case first=>
         cases kb with
         |true=>
          have HFT:=hid (HFIND.out wq (t+(i:Int)) (st2.out.kp.trans kp.out));go_wp2_with fail;refine HFT.out.mono ?_;rintro e w1 ⟨_,_,u1,rfl,⟨x0,hv1,rfl,rfl⟩,k1⟩;obtain⟨HV1,HK1⟩:=hid2 hv1 k1;clear hv1 k1;go_wp2_with fail;go_meet;exact⟨x0,u1,rfl,rfl,HV1,HK1⟩
         |false=>
          go_wp2_with fail;go_meet;exact⟨x0,u,rfl,rfl,hv4,Kp.refl _⟩
        case rest=>
         clear hv4;obtain⟨x0,u5,rfl,rfl,hv5,k5⟩:=hcut;have hb5:=hrow.out.kp k5.out;have kp5:=hid (kp.out.trans k5.out);clear hrow kp k5;obtain⟨⟨uu,hcu⟩,hfz⟩:=hb5.at_ (o:=i) (by omega);have HR2:=hid (hb5.set i (u:=.int .i64 x0) ⟨x0,rfl,hv5.out⟩);clear hb5;go_wp2_with fail;go_roundg (128 - (i+1))
         case measure=>omega
         case rel=>exact⟨i+1,x0,u5,by omega,by go_num,rfl,rfl,hv5,HR2,kp5.out.setCell (p:=⟨wd.heap.size,i,none⟩) le_ _⟩
      ·have hii:i=128:=by omega
       subst hii;obtain⟨cs,hb,hcl,hco⟩:=hrow.out;have HCO:=hid hco;clear hlt hrow hco;have st5:=hid (st2.out.kp' kp.out.drew);have bx5:=hb.drew;have rg5:=bx5.range0;have hU:=Tryz.underlying193;have hI:(Tryz.prog.info? 193).map (·.size)=some cs.length:=by rw[hcl];kernel_rfl
       obtain⟨HPL,HRB,HRI⟩:=hid3 (placeQI (2*a) (w.heap.size+4) w.heap.size (w.heap.size+3) (w.heap.size+1) (w.heap.size+2) 1114112 (.slice IA a Ic) BA Bc nb cs wr.drew hcl HCO.out st5.out.tr (by omega) (by omega)) st2.out.tr.rl st2.out.rl;clear hb;go_upto_region 26 with fail;have hS:wr.drew.cell? ⟨w.heap.size,1,none⟩=some (.slice IA a Ic)∧wr.drew.rangeAt wd.heap.size 0 cs:=⟨st5.out.tr.tb.three.2.1,rg5⟩;refine wp_region_noPanic ?_;refine yI (fun w'=>w'.cell? ⟨w.heap.size,1,none⟩=some (.slice IA a Ic)∧w'.rangeAt wd.heap.size 0 cs) 12 (by kernel_rfl) (by kernel_rfl) fun inv=>?_
       refine tkT 0 inv hS fun inv=>?_
       refine tkT 1 inv hS fun inv=>?_
       refine tkT 2 inv hS fun inv=>?_
       refine tkT 3 inv hS fun inv=>?_
       refine tkT 4 inv hS fun inv=>?_
       refine tkT 5 inv hS fun inv=>?_
       try go_frame
       refine yJ (i:=6) (v:=?v7) inv (by simp only[List.getElem?_toArray,List.getElem?_cons_succ,List.getElem?_cons_zero];rfl) (by decide) (by kernel_rfl) (by kernel_rfl) ?hQ7 hS ?hy7 (fun inv=>?rest7)
       case hy7=>
        refine xW ?_ (yieldsIf_load_mid (by rfl) _ (.tmp 14) (by rfl) wd.heap.size 0 (by rfl) _ _ (by intro wy hy;exact hy.2) hU rfl hI)
        with_reducible rfl
       case hQ7=>exact fun _ _ _ h=>h
       go_frame;refine onT 7 inv fun K hK=>?_
       go_simp;go_at_call 88;refine HPL.out.mono ?_;rintro e w3 ⟨k0,nb3,BA3,Bc3,rfl,hx,hb1,hb2,hT3,hf3,hr3⟩;obtain⟨st6,HX⟩:=hid2 (turnQI st5.out le_ hT3 hb1 hf3 hr3) hx;have bx6:=hf3.bx bx5 (by
        rintro(h|h|h|h)
        ·omega
        ·omega
        ·omega
        ·have:=HRB.out _ h;omega)
       obtain⟨L,ix6,hL2⟩:=st6.out.ix;have HL2:=hid hL2;have tb6:=st6.out.tr.tb.alloc (.cells #[.int .i64 (k0:Int)] 3);have bx7:=bx6.alloc (.cells #[.int .i64 (k0:Int)] 3);have hb6:=st6.out.tr.lt.2.2.2.2;refine hK.out _ _ ?_ (fun inv=>?_)
       ·exact⟨st6.out.tr.tb.three.2.1,bx6.range0⟩
       clear hK K hS HPL st5 hT3 hf3 hr3 bx5 rg5 hx hL2;try go_frame
       refine onT 8 inv fun K hK=>?_
       go_simp;refine hK.out _ _ ?_ (fun inv=>?_)
       ·exact⟨tb6.three.2.1,bx7.range0⟩
       clear hK K;try go_frame
       refine onT 9 inv fun K hK=>?_
       refine zJ _ (by rfl) _ _ _ (by rfl) (w.heap.size+4) 3 _ 1 8 Tryz.underlying126 infoIntI rfl (by omega) IA a Ic (L.map fun x:Nat=>Value.int .i64 (x:Int)) (by rfl) (ix6.alloc _) Any _ 1 1 [.int .i64 (k0:Int)] (by rfl) (Sl.new _ _ _ _ _ trivial rfl (by omega)) (by simp[Value.oneCell']) (by simp only[maxLen];omega) (by omega) (by simp;omega) ?_;intro A4 c4 w4 hown4 hg4 hat4;have tb8:=tb6.grown hg4 (fun e=>by have:=(ix6.lt _ e).1;omega);have bx8:=bx7.grown hg4 (fun e=>by have:=(HRI.out _ e).2;omega);obtain⟨x0',x1',x2',_,x4',_⟩:=tb8.three;refine hK.out _ _ ?_ (fun inv=>?_)
       ·exact⟨x1',bx8.range0⟩
       clear hK K;try go_frame
       have hS:w4.cell? ⟨w.heap.size,1,none⟩=some (.slice IA a Ic)∧w4.rangeAt wd.heap.size 0 cs:=⟨x1',bx8.range0⟩;refine tkT 10 inv hS fun inv=>?_
       refine tkT 11 inv hS fun inv=>?_
       try go_frame
       refine laT fun K hK=>?_
       go_simp;refine hK.out _ _ ?_;clear hK K hS;refine NoPanic.normal ?_;have ap:=hid (laidQI st6.out le_ ((Kp.refl _).alloc _) HL2.out HX.out hown4 hg4 hat4);go_wp2_with fail;go_roundg (8704 - (a+1))
       case measure=>omega
       case rel=>exact⟨a+1,nb3,x0,u,A4,c4,BA3,Bc3,by omega,by omega,by have:=HT.out;go_num,rfl,rfl,hv4,ap.out.mono (by omega)⟩
  ·have ha:a=8704:=by omega
   have HA:=hid ha;clear ht ha hg hnb;go_wp2_with fail;go_ret;have hh:=st.out;rw[HA.out]at hh;exact⟨_,_,_,_,_,_,_,_,rfl,rfl,le_,hh⟩
end
end Go.Proofs.YtociefdcccokjaaGreat

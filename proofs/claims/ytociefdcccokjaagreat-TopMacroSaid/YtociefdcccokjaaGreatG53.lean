/-
  Lemmas for TopMacro. Conditions: each states its own.
-/
import Derived.Defers
import Derived.Deep.RegionLaw
import Derived.Deep.RegionWith
import Derived.Test.YtociefdcccokjaaGreatG44
import Derived.Test.YtociefdcccokjaaGreatG50
set_option maxHeartbeats 3200000
set_option maxRecDepth 100000
namespace Go.Proofs.YtociefdcccokjaaGreat
open Go.RowKit Go.Lib
section
open Go
def LeavesX (P:Program)(fn:Func)(tmps:Array Value)(R:Ending→World→Prop):List Deferred→World→Prop
 |[],w=>∃v,(results fn tmps).run P w=.ok v w∧R (.returned v) w
 |d::ds,w=>∃b t y cs v w',d.target=.builtin b t y cs∧(builtin b t y cs d.args).run P w=.ok (.value v) w'∧LeavesX P fn tmps R ds w'
def bodyPostX (P:Program)(fn:Func)(R:Ending→World→Prop):Exit→Act→World→Prop
 |.normal,a,w|.ret,a,w=>LeavesX P fn a.tmps R a.defers w
 |.outgrown,_,w=>R .outgrown w
 |_,_,_=>False
variable {P:Program}
theorem step_deferX {fr:Frame}{cs:List Frame}{w w':World}{d:Deferred}{ds:List Deferred}{b:Builtin}{t:Array TypeId}{y:TypeId}{cc:Array Bool}{v:Value}(hm:fr.mode=.returning)(hd:fr.defers=d::ds)
 (ht:d.target=.builtin b t y cc)(hi:(builtin b t y cc d.args).run P w=.ok (.value v) w'):step P (lone fr cs w)=.next (lone {fr with defers:=ds} cs w'):=by
 obtain⟨tg,a⟩:=d;simp only at ht hi;subst ht;have hi':(invoke (.builtin b t y cc) a).run P w=.ok (.value v) w':=hi;refine step_lone_go ?_;simp[stepG,unwind,callDeferred,hm,hd,hi']
theorem leavesX_steps {fn:Func}{tmps:Array Value}{R:Ending→World→Prop}:∀(ds:List Deferred) (w:World) (fr:Frame)
 (cs:List Frame),fr.mode=.returning→fr.defers=ds→fr.tmps=tmps→P.funcs[fr.fn]? =some fn→fr.kind=.normal→LeavesX P fn tmps R ds w→
 ∃e w' fr',R e w'∧Comes P (lone fr cs w) (lone fr' cs w') e∧fr'.fn=fr.fn∧fr'.leaving P w' e:=by
 intro ds
 induction ds with
 |nil=>
  intro w fr cs hu hd ht hf hk h;obtain⟨v,hr,hR⟩:=h;exact⟨.returned v,w,fr,hR,Steps.refl P _,rfl,hu,hd,hk,fn,hf,ht▸hr⟩
 |cons d ds ih=>
  intro w fr cs hu hd ht hf hk h;obtain⟨b,t,y,cc,v,w1,htg,hi,hl⟩:=h;have h1:=step_deferX (cs:=cs) hu hd htg hi;obtain⟨e',w'',fr',hR',hs',hfn',hl'⟩:=ih w1 {fr with defers:=ds} cs hu rfl ht hf hk hl;exact⟨e',w'',fr',hR',Comes.of_steps (.one h1) hs',hfn',hl'⟩
theorem calls_of_wp_defX {f:FuncId}{fn:Func}{c:Code}{args:Array Value}{w:World}{R:Ending→World→Prop}
 (hf:P.funcs[f]? =some fn)(hb:fn.body=some c)
 (h:c.wp P (bodyPostX P fn R) {tmps:=args++Array.replicate (fn.ntmps - args.size) undef,defers:=[]} w):Calls P f args w R:=by
 intro cs
 let b:Frame:={(default:Frame)with fn:=f,kind:=.normal}
 have henter:Frame.enter P f args .normal=
  b.at {tmps:=args++Array.replicate (fn.ntmps - args.size) undef,defers:=[]} [.code c]:=by
  simp[Frame.enter,Frame.at,hf,hb,b]
 obtain⟨e,a',w',hq,harr⟩:=h b [] cs;rw[←henter]at harr;cases e with
 |normal=>
  obtain⟨e',w'',fr',hR,hs,hfn,hl⟩:=leavesX_steps a'.defers w' {b.at a' []with mode:=.returning} cs rfl rfl rfl hf rfl hq;exact⟨e',w'',fr',hR,Comes.of_steps (Steps.trans harr (.one step_end)) hs,hfn,hl⟩
 |ret=>
  obtain⟨todo,hs₀⟩:=harr;obtain⟨e',w'',fr',hR,hs,hfn,hl⟩:=leavesX_steps a'.defers w' {b.at a' todo with mode:=.returning} cs rfl rfl rfl hf rfl hq;exact⟨e',w'',fr',hR,Comes.of_steps hs₀ hs,hfn,hl⟩
 |panic chain=>exact hq.elim
 |exit id=>exact hq.elim
 |goto l=>exact hq.elim
 |outgrown=>exact⟨.outgrown,w',b,hq,harr.resolve_left (by simp[b]),rfl,trivial⟩
end
theorem infoKey:(Tryz.prog.info? 43).map (fun i=>(i.zero,i.size,i.bytes))=some (some (.agg #[.int .i64 0,.int .i32 0,.bool false,.slice none 0 0]),4,40):=by kernel_rfl
def Nil0 (w:World)(o:Nat):Prop:=w.ownsMap Tryz.prog 21 heldR o 0 (.map [])
theorem Nil0.look {w:World}{o:Nat}(h:Nil0 w o){x:Int}(hx:r32 x):(Instr.lookup 80 (.map (some o)) (.int .i32 x) false).run Tryz.prog w=.ok (.bool false) w:=by
 obtain⟨v,ps,hrun,hR⟩:=World.ownsMap.lookup h lawRune Tryz.underlying80 (z:=.bool false) (by kernel_rfl) (zd:=.held (.bool false)) (zp:=[]) rfl (vM hx);unfold heldR at hR;simp only[DataW.atKey,Option.some.injEq,Prod.mk.injEq]at hR;have h1:=hR.1;simp at h1;rw[←h1];exact hrun
structure NmSt (G:Nat→Prop)(m P o:Nat)(ks:List KeyV)(w wr:World)(i:Nat)(A1:Option Addr)(cc:Nat)(css:List (List Value)):Prop where
 bx:Bx wr P #[.map (some m),.slice A1 i cc,.map (some o),.int .i64 i] 117
 own:Own wr w.heap.size 43 4 A1 i cc css.flatten
 rel:RelL (KyC (fun q=>G q∧q<w.heap.size) wr) (ks.take i) css
 mu:Mu (fun q=>q=P∨q=o) w wr
def NmMid (P m o i:Nat)(A1:Option Addr)(vs:List Value)(w w1 wx:World):Prop:=∃A2 c2,Bx wx P #[.map (some m),.slice A2 (i+1) c2,.map (some o),.int .i64 ((i:Int)+1)] 117∧
 Own wx w.heap.size 43 4 A2 (i+1) c2 vs∧Mu (fun q=>q=P∨zB A1=some q) w1 wx
theorem nmMid_mk {P m o i c c4:Nat}{A1 A4:Option Addr}{vs:List Value}{w w1 w4:World}{row:Array Value}(hPw:P<w.heap.size)(b1:Bx w1 P #[.map (some m),.slice A1 i c,.map (some o),.int .i64 ((i:Int)+1)] 117)
 (hr:∀g,zB A1=some g→w.heap.size≤g)(ho:Own w4 w.heap.size 43 4 A4 (i+1) c4 vs)(hg:(w1.drew.alloc (.cells row 43)).grownBy w4 (zB A1)):
 NmMid P m o i A1 vs w w1 (w4.setCell ⟨P,1,none⟩ (.slice A4 (i+1) c4)):=by
 have k1:Kp w1 (w1.drew.alloc (.cells row 43)):=((Kp.refl w1).drew).alloc _;have b4:=((Bx.drew b1).alloc (.cells row 43)).grown hg (fun e=>by have:=hr _ e;omega);have m1:Mu (fun q=>q=P∨zB A1=some q) w1 w4:=(Mu.of_kp (S:=fun q=>q=P∨zB A1=some q) k1).trans (S':=fun q=>q=P∨zB A1=some q) (Mu.of_grown hg (fun q hq _=>.inr hq)) (fun _ _ h=>h);exact⟨A4,c4,b4.set 1 _,ho.setCell (p:=⟨P,1,none⟩) (fun e=>by have:=(ho.lt _ e).1;simp at this;omega) _,m1.setCell (p:=⟨P,1,none⟩) (.inl rfl) _⟩
theorem nm_step {G:Nat→Prop}{m P o i:Nat}{ks:List KeyV}{A1:Option Addr}{css:List (List Value)}{cs:List Value}{k:KeyV}{w w1 w5:World}(hm:NmMid P m o i A1 (css.flatten++cs) w w1 w5)(hw:Mu (fun q=>q=P∨q=o) w w1)(hr:∀g,zB A1=some g→w.heap.size≤g)
 (hrl:RelL (KyC (fun q=>G q∧q<w.heap.size) w1) (ks.take i) css)(hky:KyC (fun q=>G q∧q<w.heap.size) w1 k cs)(hk:ks[i]? =some k)(hG:∀q,G q→q≠P∧q≠o):∃A c,NmSt G m P o ks w w5 (i+1) A c (css++[cs]):=by
 obtain⟨A2,c2,h1,h2,h3⟩:=hm;have hb:∀q,(G q∧q<w.heap.size)→q<w1.heap.size→w5.heap[q]? =w1.heap[q]? :=fun q hq hl=>h3.block q hl (fun e=>by
  have h4:=hG q hq.1;rcases e with e|e
  ·exact h4.1 e
  ·have:=hr q e;omega)
 refine⟨A2,c2,h1,by rw[List.flatten_append];simpa using h2,?_,hw.trans (S':=fun q=>q=P∨zB A1=some q) h3 (fun q hq h=>?_)⟩
 ·have e:ks.take (i+1)=ks.take i++[k]:=by rw[List.take_add_one,hk];rfl
  rw[e];exact(hrl.mono (KyC.frame h3.size hb)).app (RelL.one (KyC.frame h3.size hb k _ hky))
 ·rcases h with h|h
  ·exact .inl h
  ·have:=hr q h;omega
theorem run_delete {w:World}{o:Nat}{x:Int}{v:Value}(h:w.ownsMap Tryz.prog 21 heldR o 1 ((DataW.map []).put (.int .i32 x) (.held v)))(hx:r32 x):
 ∃w',(builtin .delete #[80,21] 0 #[false,false] #[.map (some o),.int .i32 x]).run Tryz.prog w=.ok (.value (.tuple #[])) w'∧Mu (fun q=>q=o) w w':=by
 obtain⟨w',hrun,_,ht⟩:=World.ownsMap.drop h lawRune Tryz.underlying80 (vM hx) 0;exact⟨w',by simp[builtin,hrun,Result.andThen],Mu.of_grown ht.grown (fun q hq _=>by cases hq;rfl)⟩
theorem name_any (F G:Nat→Prop)(A:Option Addr)(n c:Nat)(ks:List KeyV)(x:Int)(m P o:Nat)(w:World)(h:SsW F G w A n c ks)(hn:n≤1000)(hone:One w m x (.slice A n c))(hx:r32 x)
 (hb:Bx w P #[.map (some m),.slice none 0 0,.map (some o),.int .i64 0] 117)(ho:Nil0 w o)(hF:∀q,F q→q≠P∧q≠o)(hG:∀q,G q→q≠P∧q≠o)(hne:P≠o):
 Calls Tryz.prog 44 #[.pointer (some ⟨P,0,none⟩),.int .i32 x] w fun en w'=>en=.returned (.int .i64 0)∧∃A' c' css,NmSt G m P o ks w w' n A' c' css:=by
 have hl:=hone.look Tryz.underlying48 (z:=.slice none 0 0) (by kernel_rfl) hx;have hl2:=ho.look hx;have p0:=hb.cell 0;have p1:=hb.cell 1;have p2:=hb.cell 2;have p3:=hb.cell 3;simp at p0 p1 p2 p3;obtain⟨H,HB,HF,HG⟩:=hid4 (SsW.weak (F':=F) (G':=fun q=>G q∧q<w.heap.size) h (fun _ _ hq=>hq) (fun q hl hq=>⟨hq,hl⟩)) hb hF hG;clear h hb hF hG;refine calls_of_wp_defX Tryz.func44 rfl ?_;simp only[Tryz.ntmps44,List.size_toArray,List.length_cons,List.length_nil,Nat.reduceAdd,Nat.reduceSub,Array.replicate_succ,Array.replicate_zero,List.push_toArray,List.append_toArray,List.nil_append,List.cons_append];go_wp2_with (at_mapUpdate;refine wpList_mapUpdate_own _ rfl _ _ _ 80 rfl 21 4 lawRune Tryz.underlying80 _ o 0 _ rfl ho (by unfold maxLen;omega) _ _ _ rfl rfl (vM hx) _ [] rfl ?_;intro w5 hown5 hg5;have M5:=hid (Mu.of_grown (S:=fun q=>q=o) hg5 (fun q hq _=>by cases hq;rfl));have B5:=hid (M5.out.bx HB.out hne);have q2:=B5.out.cell 2;simp at q2);obtain⟨HLN,HPW,HOZ⟩:=hid3 H.out.len HB.out.lt ho.lt;have hle:=H.out.le;have hcap:=H.out.cap;unfold maxLen at hcap;obtain⟨M0,HOW⟩:=hid2 (show Mu (fun q=>q=P∨q=o) w w5 from M5.out.weak fun q _ h=>.inr h) hown5;clear hl hl2 p0 p1 p2 p3 q2 hown5 hg5 hone ho;go_loopw [42] (fun v wr=>∃(i cc:Nat) (A1:Option Addr) (css:List (List Value)),v=.int .i64 i∧i≤n∧Hid (NmSt G m P o ks w wr i A1 cc css)∧Hid (wr.ownsMap Tryz.prog 21 heldR o 1 ((DataW.map []).put (.int .i32 x) (.held (.bool true))))) (fun v _=>n - (intOf v).toNat)
 case atStart=>exact⟨0,0,none,[],rfl,Nat.zero_le _,⟨B5.out,Own.nil _ _ _ _,trivial,M0.out⟩,HOW.out⟩
 case round=>
  clear M5 B5 M0 HOW;obtain⟨i,cc,A1,css,rfl,hi,hst,hom⟩:=hrel;by_cases hlt:i<n
  ·obtain⟨k,hk⟩:∃k,ks[i]? =some k:=⟨_,List.getElem?_eq_getElem (by rw[HLN.out];exact hlt)⟩
   have hS:=H.out.frame hst.out.mu.size (fun q hq hl=>hst.out.mu.block q hl (fun e=>by have:=HF.out q hq;omega)) (fun q hq hl=>hst.out.mu.block q hl (fun e=>by have:=HG.out q hq.1;omega));obtain⟨ad,B,m',d,rfl,e0,e1,e2,e3,e4,e5,hru⟩:=SsW.get hS hk;have HK:=hid hk;obtain⟨kk,hkk⟩:∃x,x=k.kind:=⟨_,rfl⟩;obtain⟨kru,hkr⟩:∃x,x=k.rune:=⟨_,rfl⟩;obtain⟨kme,hkm⟩:∃x,x=k.meta_:=⟨_,rfl⟩;rw[←hkk]at e0;rw[←hkr]at e1;rw[←hkm]at e2;have HKY:=hid (show KyC (fun q=>G q∧q<w.heap.size) wr k [.int .i64 kk,.int .i32 kru,.bool kme,.slice B m' d]from⟨B,m',d,by rw[hkk,hkr,hkm],hru⟩);have p0:=hst.out.bx.cell 3;simp at p0;have f3:=hst.out.bx.frozen 3;have hPz:=hst.out.bx.lt;have hn2:¬(20000:Int)<(i:Int)+1:=by omega
   have hnw:w.heap.size≤wr.heap.size:=hst.out.mu.size;clear hk hru hkk hkr hkm hS;go_upto_region 18 with fail;have b1:=(hst.out.bx.set 3 (.int .i64 ((i:Int)+1))).alloc (.cells #[.int .i64 kk,.int .i32 kru,.bool kme,.slice B m' d,.bool false,.int .i32 0] 111);simp at b1;have hs1:(wr.setCell ⟨P,3,none⟩ (.int .i64 ((i:Int)+1))).heap.size=wr.heap.size:=by simp[World.setCell]
   have bs:=Bx.new (wr.setCell ⟨P,3,none⟩ (.int .i64 ((i:Int)+1))) #[.int .i64 kk,.int .i32 kru,.bool kme,.slice B m' d,.bool false,.int .i32 0] 111;rw[hs1]at bs;have M1:Mu (fun q=>q=P) wr ((wr.setCell ⟨P,3,none⟩ (.int .i64 ((i:Int)+1))).alloc (.cells #[.int .i64 kk,.int .i32 kru,.bool kme,.slice B m' d,.bool false,.int .i32 0] 111)):=((Mu.refl wr).setCell (S:=fun q=>q=P) (p:=⟨P,3,none⟩) rfl _).then_kp ((Kp.refl _).alloc _);have hrow:=hst.out.own.lt;have hPw:=HPW.out;have o1:Own ((wr.setCell ⟨P,3,none⟩ (.int .i64 ((i:Int)+1))).alloc (.cells #[.int .i64 kk,.int .i32 kru,.bool kme,.slice B m' d,.bool false,.int .i32 0] 111)) w.heap.size 43 4 A1 i cc css.flatten:=(hst.out.own.setCell (p:=⟨P,3,none⟩) (fun e=>by have:=(hrow _ e).1;simp at this;omega) _).alloc _;have hz1:((wr.setCell ⟨P,3,none⟩ (.int .i64 ((i:Int)+1))).alloc (.cells #[.int .i64 kk,.int .i32 kru,.bool kme,.slice B m' d,.bool false,.int .i32 0] 111)).heap.size=wr.heap.size+1:=by simp[World.setCell]
   obtain⟨HR1,HM1,HOM1,HRL1,HKY1⟩:=hid5 (show∀g,zB A1=some g→w.heap.size≤g from fun g h=>(hrow g h).1) (hst.out.mu.trans (S':=fun q=>q=P) M1 (fun q _ hq=>.inl hq)) (yV hom.out M1 (fun e=>hne e.symm)) (hst.out.rel.mono (KyC.frame M1.size fun q hq hl=>M1.block q hl (fun e=>by have:=HG.out q hq.1;omega))) (KyC.frame M1.size (fun q hq hl=>M1.block q hl (fun e=>by have:=HG.out q hq.1;omega)) k _ HKY.out);clear e0 e1 e2 e3 e4 e5 p0 f3 hPz hn2 M1 hs1 hrow;generalize((wr.setCell ⟨P,3,none⟩ (.int .i64 ((i:Int)+1))).alloc (.cells #[.int .i64 kk,.int .i32 kru,.bool kme,.slice B m' d,.bool false,.int .i32 0] 111))=w1 at *;obtain⟨s,hs⟩:∃s,s=wr.heap.size:=⟨_,rfl⟩;rw[←hs]at bs hz1⊢;have HSS:=hid (show w.heap.size≤s by rw[hs];exact hnw);clear hs hnw hst hom;have y0:=bs.cell 0;have y1:=bs.cell 1;have y2:=bs.cell 2;have y3:=bs.cell 3;have a1:=b1.cell 1;simp at y0 y1 y2 y3 a1;have g1:=b1.frozen 1;have a1':∀ob,(w1.alloc ob).cell? ⟨P,1,none⟩=some (.slice A1 i cc):=fun ob=>(b1.alloc ob).cell 1
   have hic:i≤1000:=by omega
   go_region_law ((refine zJ _ (by rfl) _ _ _ (by rfl) w.heap.size 43 _ 4 40 Tryz.underlying22 infoKey rfl (by omega) A1 i cc css.flatten (by rfl) (Own.alloc (Own.drew o1) _) Any _ 1 1 [.int .i64 kk,.int .i32 kru,.bool kme,.slice B m' d] (by rfl) (Sl.new_ w1.drew #[.int .i64 kk,.int .i32 kru,.bool kme,.slice B m' d] _ 4 1 _ hz1 trivial (by simp) (by omega)) (by simp[Value.oneCell']) (by simp only[maxLen];omega) (by omega) (by have:=HSS.out;simp;omega) ?_;intro A4 c4 w4 hown4 hg4 hat4;have hr4:∀g,zB A1=some g→w.heap.size≤g:=fun g h=>(o1.lt g h).1;have b4:=((Bx.drew b1).alloc (.cells #[.int .i64 kk,.int .i32 kru,.bool kme,.slice B m' d] 43)).grown hg4 (fun e=>by have:=hr4 _ e;omega);have x1:=b4.cell 1;simp at x1;have x2:=b4.frozen 1))
   all_goals
    have hmid:=hid (nmMid_mk hPw b1 hr4 hown4 hg4);clear hown4 hg4 hat4 b4 hr4 a1' y0 y1 y2 y3 a1 g1 bs o1 b1;go_wp2_with fail;generalize(w4.setCell ⟨P,1,none⟩ (.slice A4 (i+1) c4))=w5 at *;go_roundw
    case rel=>
     obtain⟨A5,c5,h5⟩:=nm_step hmid.out HM1.out HR1.out HRL1.out HKY1.out HK.out HG.out;exact⟨i+1,c5,A5,_,by simp,hlt,h5,yV HOM1.out (hmid.out.choose_spec.choose_spec.2.2) (fun e=>e.elim (fun e=>hne e.symm) (fun e=>by have:=HR1.out o e;have:=HOZ.out;omega))⟩
    case measure=>simp[intOf];omega
  ·obtain rfl:i=n:=by omega
   have hkt:ks.take i=ks:=by rw[List.take_of_length_le (by rw[HLN.out];exact le_)]
   obtain⟨w6,hrun,hm6⟩:=run_delete hom.out hx;go_wp2_with fail;refine⟨_,_,_,_,_,w6,rfl,hrun,_,by simp[results,Tryz.results44],rfl,A1,cc,css,?_⟩;have hn6:∀q,q≠o→q<wr.heap.size→w6.heap[q]? =wr.heap[q]? :=fun q hq hl=>hm6.block q hl hq
   refine⟨hm6.bx hst.out.bx hne,hst.out.own.frame (fun q hq=>hn6 q (fun e=>?_) (hst.out.own.lt q hq).2),hst.out.rel.mono (KyC.frame hm6.size fun q hq hl=>hn6 q (HG.out q hq.1).2 hl),hst.out.mu.trans (S':=fun q=>q=o) hm6 (fun q _ hq=>.inr hq)⟩;have:=(hst.out.own.lt q hq).1;have:=HOZ.out;omega
structure ExpSt (G:Nat→Prop)(m P o:Nat)(ks:List KeyV)(w wr:World)(base n:Nat)(A:Option Addr)(c:Nat)(css:List (List Value)):Prop where
 bx:Bx wr P #[.map (some m),.slice A n c,.map (some o),.int .i64 n] 117
 own:Own wr base 43 4 A n c css.flatten
 rel:RelL (KyC (fun q=>(G q∧q<w.heap.size)∨(base≤q∧zB A≠some q)) wr) ks css
 kp:Kp w wr
theorem exp_step {G:Nat→Prop}{m P o i:Nat}{ks:List KeyV}{w wr w5:World}{base n g c:Nat}{css:List (List Value)}{k:KeyV}{B B5:Option Addr}{m' d m5 d5:Nat}(h:ExpSt G m P o ks w wr base n (some ⟨g,0,none⟩) c css)(hk:ks[i]? =some k)
 (hcs:css[i]? =some [.int .i64 k.kind,.int .i32 k.rune,.bool k.meta_,.slice B m' d])(k5:Kp wr w5)(hr5:Ru w5 (From wr.heap.size) B5 m5 d5 k.text)(hi:i*4+3<n*4)(hP:P<base)(hw:w.heap.size≤base):
 ExpSt G m P o ks w (w5.setCell ⟨g,i*4+3,none⟩ (.slice B5 m5 d5)) base n (some ⟨g,0,none⟩) c (css.set i [.int .i64 k.kind,.int .i32 k.rune,.bool k.meta_,.slice B5 m5 d5]):=by
 have hg:=h.own.lt g rfl;have hl4:=h.rel.all (fun k c h=>KyC.len k c h);have ho:=(Own.putg (h.own.kp k5) hi (.slice B5 m5 d5)).2.2;rw[flatten_set 4 css i 3 _ _ hl4 hcs (by omega)]at ho;have hz:(w5.setCell ⟨g,i*4+3,none⟩ (.slice B5 m5 d5)).heap.size=w5.heap.size:=by simp[World.setCell]
 have hn:∀q,q≠g→(w5.setCell ⟨g,i*4+3,none⟩ (.slice B5 m5 d5)).heap[q]? =w5.heap[q]? :=fun q hq=>Below.heap_setCell w5 ⟨g,i*4+3,none⟩ _ q hq
 have hr:∀q,(fun q=>(G q∧q<w.heap.size)∨(base≤q∧zB (some (⟨g,0,none⟩:Addr))≠some q)) q→q≠g:=by
  rintro q (hq|hq)
  ·omega
  ·rintro rfl;exact hq.2 rfl
 refine⟨(h.bx.kp k5).far (p:=⟨g,i*4+3,none⟩) (by show P≠g;omega) _,ho,?_,(h.kp.trans k5).setCell (p:=⟨g,i*4+3,none⟩) (by show w.heap.size≤g;omega) _⟩;refine RelL.set ((h.rel.mono (KyC.frame k5.size fun q _ hl=>k5.block q hl)).mono (KyC.frame (by rw[hz];exact le_) fun q hq _=>hn q (hr q hq))) hk ⟨B5,m5,d5,rfl,?_⟩;have h6:Ru (w5.setCell ⟨g,i*4+3,none⟩ (.slice B5 m5 d5)) (From wr.heap.size) B5 m5 d5 k.text:=Sl.frame hr5 (by rw[hz];exact le_) fun q hq _=>hn q (by unfold From at hq;omega)
 refine Sl.weak h6 fun q _ hq=>.inr ⟨by unfold From at hq;omega,?_⟩
 intro e;have :g=q:=by simpa[zB]using e
 unfold From at hq;omega
theorem expand_any (F G:Nat→Prop)(A:Option Addr)(n c:Nat)(ks:List KeyV)(x:Int)(m:Nat)(w:World)(h:SsW F G w A n c ks)(hn:n≤1000)(ht:∀k∈ks,k.text.length≤65536)(hone:One w m x (.slice A n c))(hx:r32 x):
 Calls Tryz.prog 13 #[.agg #[.map (some m)],.int .i32 x] w fun en w'=>∃A' c',en=.returned (.tuple #[.slice A' n c',.int .i64 0])∧KsW (From w.heap.size) (fun q=>(G q∧q<w.heap.size)∨w.heap.size≤q) w' A' n c' ks∧Kp w w':=by
 have hmm:=@run_makeMap Tryz.prog;obtain⟨H,HT,HO,HLN⟩:=hid4 (SsW.weak (F':=fun q=>F q∧q<w.heap.size) (G':=fun q=>G q∧q<w.heap.size) h (fun q hl hq=>⟨hq,hl⟩) (fun q hl hq=>⟨hq,hl⟩)) ht hone h.len;clear h ht hone;go_enter Tryz.func13,Tryz.ntmps13;go_upto_region 2 with fail;have k1:=(((Kp.refl w).alloc (.cells #[.map (some m)] 50)).alloc (.map #[] 0)).alloc (.cells #[.map (some m),.slice none 0 0,.map (some (w.heap.size+1)),.int .i64 0] 117);have hm0:=World.ownsMap_made (w.alloc (.cells #[.map (some m)] 50)) Tryz.prog 21 heldR;simp at hm0;have hm1:Nil0 (((w.alloc (.cells #[.map (some m)] 50)).alloc (.map #[] 0)).alloc (.cells #[.map (some m),.slice none 0 0,.map (some (w.heap.size+1)),.int .i64 0] 117)) (w.heap.size+1):=hm0.alloc _;have b1:=Bx.new ((w.alloc (.cells #[.map (some m)] 50)).alloc (.map #[] 0)) #[.map (some m),.slice none 0 0,.map (some (w.heap.size+1)),.int .i64 0] 117;simp at b1;obtain⟨o,ho⟩:∃o,o=w.heap.size+1:=⟨_,rfl⟩;obtain⟨P,hP⟩:∃P,P=w.heap.size+1+1:=⟨_,rfl⟩;have HS:=hid (show w.heap.size≤o∧w.heap.size≤P∧P≠o by omega);rw[←hP,←ho]at b1⊢;rw[←ho]at hm1 k1;clear hm0 hP ho;obtain⟨HN,HPB,HWB⟩:=hid3 (name_any _ _ A n c ks x m P o _ (SsW.kp H.out k1) hn (xZ HO.out k1) hx b1 hm1 (fun q hq=>by have:=HS.out;have:=hq.2;omega) (fun q hq=>by have:=HS.out;have:=hq.2;omega) HS.out.2.2) b1.lt k1.size;clear hmm b1 hm1;have K1:=hid k1;clear k1;generalize(((w.alloc (.cells #[.map (some m)] 50)).alloc (.map #[] 0)).alloc (.cells #[.map (some m),.slice none 0 0,.map (some o),.int .i64 0] 117))=w3 at *;go_wp2_with fail;refine HN.out.mono ?_;rintro en w4 ⟨rfl,A1,c1,css,hst⟩;have e0:Hid (ExpSt G m P o ks w w4 w3.heap.size n A1 c1 css):=⟨hst.bx,hst.own,by
  have h1:=hst.rel;rw[List.take_of_length_le (by rw[HLN.out];exact le_)]at h1;exact h1.mono (KyC.weak fun q _ hq=>.inl hq.1),hst.mu.kp K1.out (fun q hq=>by have:=HS.out;omega)⟩
 have q1:=hst.bx.cell 1;simp at q1;have hle:=hst.own.cap;clear HN hst;go_wp2_with fail;have hcap:=hle.2;have hle1:=hle.1;unfold maxLen at hcap;clear q1 hle;go_loopw [24] (fun v wr=>∃(i:Nat) (css:List (List Value)),v=.int .i64 i∧i≤n∧Hid (ExpSt G m P o ks w wr w3.heap.size n A1 c1 css)) (fun v _=>n - (intOf v).toNat)
 case atStart=>exact⟨0,css,rfl,Nat.zero_le _,e0⟩
 case round=>
  clear e0 css;obtain⟨i,css,rfl,hi,hst⟩:=hrel;have q1:=hst.out.bx.cell 1;simp at q1;by_cases hlt:i<n
  ·obtain⟨k,hk⟩:∃k,ks[i]? =some k:=⟨_,List.getElem?_eq_getElem (by rw[HLN.out];exact hlt)⟩
   obtain⟨cs,hcs,B,m',d,rfl,hru⟩:=hst.out.rel.get hk;have hl4:=hst.out.rel.all (fun k c h=>KyC.len k c h);have hget:=yR (r:=3) hl4 hcs (by omega);obtain⟨g,rfl,hg,fz,hcell,hput⟩:=hst.out.own.put (j:=i*4+3) (by omega) (.slice none 0 0);rw[hget]at hcell;simp at hcell;obtain⟨HCL,HOW,HG4,HK⟩:=hid4 (zH _ B m' d k.text wr.drew hru.drew (by have:=HT.out k (List.mem_of_getElem? hk);have:=Ru.len hru;omega)) hst.out.own hget hk;have hi4:i*4+3<n*4:=by omega
   have HCS:=hid hcs;clear hget hk hru hcs hl4 hput;go_upto_region 8 with fail;go_region_with (go_at_call 41;(with_reducible refine HCL.out.mono ?_);rintro en w5 ⟨B5,m5,d5,rfl,hr5,k5⟩;have k5':Kp wr w5:=(Kp.refl wr).drew.trans k5;have q2:w5.cell? ⟨P,1,none⟩=some (.slice (some ⟨g,0,none⟩) n c1):=zE k5' q1;obtain⟨f2,x2,_⟩:=Own.putg (HOW.out.kp k5') hi4 (.slice B5 m5 d5);rw[HG4.out]at x2;simp at x2)
   all_goals
    have hst6:=exp_step hst.out HK.out HCS.out k5' hr5 hi4 HPB.out HWB.out;have hst7:=hid hst6;clear hst6 hr5 k5 k5' q2 f2 x2 hst q1 fz hcell HOW HG4 HCL;generalize(w5.setCell ⟨g,i*4+3,none⟩ (.slice B5 m5 d5))=w6 at *;go_wp2_with fail;go_roundw
    case rel=>exact⟨i+1,_,by simp,hlt,hst7.out⟩
    case measure=>simp[intOf];omega
  ·obtain rfl:i=n:=by omega
   go_wp2_with fail;refine bodyPost_ret (v:=.tuple #[.slice A1 i c1,.int .i64 0]) (by simp[results,Tryz.results13,go_sem]) rfl ?_;have hWB:=HWB.out;exact⟨A1,c1,rfl,⟨css,Sl.weak hst.out.own.sl (fun q _ hq=>by unfold From at hq⊢;omega),hst.out.rel.mono (KyC.weak fun q _ hq=>hq.imp id (fun hq=>by omega)),HLN.out⟩,hst.out.kp⟩
def cutK (k:KeyV):KeyV:={k with text:=k.text.take 15}
def keysM (ks:List KeyV):List KeyV:=(ks.take 40).map cutK
theorem keys_step {G:Nat→Prop}{ks:List KeyV}{w wr w1 w4:World}{i:Nat}{A1:Option Addr}{css:List (List Value)}{k:KeyV}{cs:List Value}(hr:RelL (KyC (fun q=>G q∧q<w.heap.size) wr) ((ks.take i).map cutK) css)(hky:KyC (fun q=>G q∧q<w.heap.size) wr (cutK k) cs)
 (hk:ks[i]? =some k)(k1:Kp wr w1)(hg:w1.grownBy w4 (zB A1))(hrow:∀g,zB A1=some g→w.heap.size≤g):RelL (KyC (fun q=>G q∧q<w.heap.size) w4) ((ks.take (i+1)).map cutK) (css++[cs]):=by
 have hz:wr.heap.size≤w4.heap.size:=Nat.le_trans k1.size hg.size;have hb:∀q,(G q∧q<w.heap.size)→q<wr.heap.size→w4.heap[q]? =wr.heap[q]? :=fun q hq hl=>(hg.block q (Nat.lt_of_lt_of_le hl k1.size) (fun e=>by have:=hrow q e.symm;omega)).trans (k1.block q hl)
 rw[List.take_add_one,hk];simp only[Option.toList_some,List.map_append,List.map_cons,List.map_nil];exact(hr.mono (KyC.frame hz hb)).app (RelL.one (KyC.frame hz hb _ _ hky))
theorem keys_any (F G:Nat→Prop)(A:Option Addr)(n c:Nat)(ks:List KeyV)(w:World)(h:KsW F G w A n c ks):
 Calls Tryz.prog 4 #[.slice A n c,.int .i64 40] w fun en w'=>∃A' n' c',en=.returned (.slice A' n' c')∧KsW (From w.heap.size) (fun q=>G q∧q<w.heap.size) w' A' n' c' (keysM ks)∧n'=min n 40∧Kp w w':=by
 have HLN:=hid h.len;have hle:=h.le;have hcap:=h.cap;unfold maxLen at hcap;have H:=hid (KsW.weak (F':=F) (G':=fun q=>G q∧q<w.heap.size) h (fun _ _ hq=>hq) (fun q hl hq=>⟨hq,hl⟩));clear h;go_enter Tryz.func4,Tryz.ntmps4;go_wp2_with fail;go_loopw [6,5] (fun v u wr=>∃(i cc:Nat) (A1:Option Addr) (css:List (List Value)),v=.int .i64 i∧u=.slice A1 i cc∧i≤n∧i≤40∧Hid (Kp w wr)∧Hid (Own wr w.heap.size 43 4 A1 i cc css.flatten)∧
  Hid (RelL (KyC (fun q=>G q∧q<w.heap.size) wr) ((ks.take i).map cutK) css)) (fun v _ _=>n - (intOf v).toNat)
 case atStart=>exact⟨0,0,none,[],rfl,rfl,Nat.zero_le _,by omega,Kp.refl w,Own.nil _ _ _ _,trivial⟩
 case round=>
  obtain⟨i,cc,A1,css,rfl,rfl,hi,hi4,kr,ho,hr⟩:=hrel;by_cases hlt:i<n
  ·by_cases h40:i<40
   ·obtain⟨k,hk⟩:∃k,ks[i]? =some k:=⟨_,List.getElem?_eq_getElem (by rw[HLN.out];exact hlt)⟩
    obtain⟨ad,B,m,d,rfl,e0,e1,e2,e3,hru⟩:=KsW.get (H.out.kp kr.out) hk;have HK:=hid hk;obtain⟨kk,hkk⟩:∃x,x=k.kind:=⟨_,rfl⟩;obtain⟨kru,hkr⟩:∃x,x=k.rune:=⟨_,rfl⟩;obtain⟨kme,hkm⟩:∃x,x=k.meta_:=⟨_,rfl⟩;rw[←hkk]at e0;rw[←hkr]at e1;rw[←hkm]at e2;have hrt:=Ru.take (k:=min m 15) hru (Nat.min_le_left _ _);have htk:k.text.take (min m 15)=k.text.take 15:=by have:=hru.len;rw[←this,List.take_eq_take_iff];omega
    rw[htk]at hrt;obtain⟨HKY,HFW⟩:=hid2 (show KyC (fun q=>G q∧q<w.heap.size) wr (cutK k) [.int .i64 kk,.int .i32 kru,.bool kme,.slice B (min m 15) d]from⟨B,min m 15,d,by rw[hkk,hkr,hkm];rfl,hrt⟩) (fun wx=>few_any B m d 15 (Ru.le hru) (Ru.cap hru) (by omega) wx);clear hk hkk hkr hkm hru hrt htk;go_upto_region 7 with(go_at_call 18;refine(HFW.out _).mono ?_;rintro en w' ⟨rfl,rfl⟩);have b1:=Bx.new wr #[.int .i64 kk,.int .i32 kru,.bool kme,.slice B (min m 15) d] 43;have k1:=(Kp.refl wr).alloc (.cells #[.int .i64 kk,.int .i32 kru,.bool kme,.slice B (min m 15) d] 43);have ho1:=hid (ho.out.kp k1);obtain⟨s,hs⟩:∃s,s=wr.heap.size:=⟨_,rfl⟩;have HSS:=hid (show w.heap.size≤s∧s<(wr.alloc (.cells #[.int .i64 kk,.int .i32 kru,.bool kme,.slice B (min m 15) d] 43)).heap.size from⟨by rw[hs];exact kr.out.size,by rw[hs];simp⟩);rw[←hs]at b1⊢;have K1:=hid k1;clear hs k1 e0 e1 e2 e3 HFW;generalize(wr.alloc (.cells #[.int .i64 kk,.int .i32 kru,.bool kme,.slice B (min m 15) d] 43))=w1 at *;have y0:=b1.cell 0;have y1:=b1.cell 1;have y2:=b1.cell 2;have y3:=b1.cell 3;simp at y0 y1 y2 y3;have hsz:=HSS.out;go_wp2_with (at_builtin;refine zA _ rfl _ _ _ rfl w.heap.size 43 _ 4 40 Tryz.underlying22 infoKey rfl (by omega) A1 i cc css.flatten rfl (ho1.out.alloc _) Any _ 1 1 [.int .i64 kk,.int .i32 kru,.bool kme,.slice B (min m 15) d] rfl (Sl.new w1 #[.int .i64 kk,.int .i32 kru,.bool kme,.slice B (min m 15) d] _ 4 1 trivial rfl (by omega)) (by simp[Value.oneCell']) (by simp only[maxLen];omega) (by omega) (by simp;omega) ?_;intro A4 c4' w4 ho4 hg4 hat4);go_roundw
    case rel=>exact⟨i+1,c4',A4,css++[[.int .i64 kk,.int .i32 kru,.bool kme,.slice B (min m 15) d]],by simp,rfl,by omega,by omega,((kr.out.trans K1.out).alloc _).grown hg4 fun q hq=>(ho1.out.lt q hq).1,hid (by rw[List.flatten_append];simpa using ho4),keys_step hr.out HKY.out HK.out (K1.out.alloc _) hg4 (fun q hq=>(ho1.out.lt q hq).1)⟩
    case measure=>simp[intOf];omega
   ·have hi40:i=40:=by omega
    have HRR:=hid (show KsW (From w.heap.size) (fun q=>G q∧q<w.heap.size) wr A1 i cc (keysM ks)from⟨css,ho.out.sl,by have:=hr.out;rw[hi40]at this;exact this,by simp[keysM,HLN.out];omega⟩);have hmin:i=min n 40:=by omega
    have HM:=hid hmin;clear hi40 hmin;go_wp2_with fail;go_ret;exact⟨A1,i,cc,rfl,HRR.out,HM.out,kr.out⟩
  ·have hin:ks.take i=ks.take 40:=by rw[List.take_of_length_le (by rw[HLN.out];omega),List.take_of_length_le (by rw[HLN.out];omega)]
   have HRR:=hid (show KsW (From w.heap.size) (fun q=>G q∧q<w.heap.size) wr A1 i cc (keysM ks)from⟨css,ho.out.sl,by have:=hr.out;rw[hin]at this;exact this,by simp[keysM,HLN.out];omega⟩);have hmin:i=min n 40:=by omega
   have HM:=hid hmin;clear hin hmin;go_wp2_with fail;go_ret;exact⟨A1,i,cc,rfl,HRR.out,HM.out,kr.out⟩
end Go.Proofs.YtociefdcccokjaaGreat

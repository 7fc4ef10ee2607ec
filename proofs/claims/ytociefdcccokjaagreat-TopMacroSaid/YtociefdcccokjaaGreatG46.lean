/-
  Lemmas for TopMacro. Conditions: each states its own.
-/
import Derived.Test.YtociefdcccokjaaGreatG44
set_option maxHeartbeats 3200000
set_option maxRecDepth 100000
namespace Go.Proofs.YtociefdcccokjaaGreat
open Go.RowKit Go.Lib
def ValF (V:Value)(cs:List Value):Prop:=∃(x0 x1 x2 x3:Bool),True∧V=.agg #[.bool x0,.bool x1,.bool x2,.bool x3]∧cs=[.bool x0,.bool x1,.bool x2,.bool x3]
theorem namesF (cs:List Value)(h:cs.length=4)(ho:∀u∈cs,okF u):∃(x0 x1 x2 x3:Bool),True∧cs=[.bool x0,.bool x1,.bool x2,.bool x3]:=by
 match cs,h with
 |[u0,u1,u2,u3],_=>
  obtain⟨x0,rfl⟩:=ho u0 (by simp);obtain⟨x1,rfl⟩:=ho u1 (by simp);obtain⟨x2,rfl⟩:=ho u2 (by simp);obtain⟨x3,rfl⟩:=ho u3 (by simp);exact⟨x0,x1,x2,x3,trivial,rfl⟩
def PcWF (w:World)(A:Option Addr)(n c:Nat):Prop:=∃ps:List (List Value),Sl w Any 6 A n c ps.flatten∧ps.length=n∧∀p∈ps,∃(fr tt:Int) (cs:List Value),p=.int .i64 fr:: .int .i64 tt::cs∧cs.length=4∧∀u∈cs,okF u
theorem PcWF.kp {w w':World}{A:Option Addr}{n c:Nat}(h:PcWF w A n c)(k:Kp w w'):PcWF w' A n c:=by obtain⟨ps,h1,h2⟩:=h;exact⟨ps,h1.kp k,h2⟩
theorem PcWF.get {w:World}{A:Option Addr}{n c:Nat}(h:PcWF w A n c){i:Nat}(hi:i<n):∃(ad:Addr) (fr tt:Int) (x0 x1 x2 x3:Bool),A=some ad∧True∧w.cell? (ad.add (i*6))=some (.int .i64 fr)∧w.cell? ⟨(ad.add (i*6)).block,(ad.add (i*6)).off+1,none⟩=some (.int .i64 tt)∧w.cell? ⟨(ad.add (i*6)).block,(ad.add (i*6)).off+2,none⟩=some (.bool x0)∧w.cell? ⟨(ad.add (i*6)).block,(ad.add (i*6)).off+3,none⟩=some (.bool x1)∧w.cell? ⟨(ad.add (i*6)).block,(ad.add (i*6)).off+4,none⟩=some (.bool x2)∧w.cell? ⟨(ad.add (i*6)).block,(ad.add (i*6)).off+5,none⟩=some (.bool x3):=by
 obtain⟨ps,h1,h2,h3⟩:=h;obtain⟨p,hp⟩:∃p,ps[i]? =some p:=⟨_,List.getElem?_eq_getElem (by omega)⟩;obtain⟨fr,tt,cs,rfl,hl,ho⟩:=h3 p (List.mem_of_getElem? hp);obtain⟨x0,x1,x2,x3,hw,rfl⟩:=namesF cs hl ho;obtain⟨ad,e,_,_,hc⟩:=Sl.at_ h1 (by omega);have g:=fun r (hr:r<6)=>yR (k:=6) (css:=ps) (i:=i) (r:=r) (fun c hc=>by obtain⟨_,_,cs,rfl,hl,_⟩:=h3 c hc;simp[hl]) hp hr
 refine⟨ad,fr,tt,x0,x1,x2,x3,e,hw,hc _ _ (g 0 (by omega)),?_,?_,?_,?_,?_⟩
 ·have:=hc _ _ (g 1 (by omega));rwa[zF _ _ 0]at this
 ·have:=hc _ _ (g 2 (by omega));rwa[zF _ _ 1]at this
 ·have:=hc _ _ (g 3 (by omega));rwa[zF _ _ 2]at this
 ·have:=hc _ _ (g 4 (by omega));rwa[zF _ _ 3]at this
 ·have:=hc _ _ (g 5 (by omega));rwa[zF _ _ 4]at this
def RetFindF (w:World)(en:Ending)(w':World):Prop:=∃(V:Value) (cs:List Value) (u:Int),en=.returned (.tuple #[V,.int .i64 u])∧ValF V cs∧Kp w w'
structure FiStF (w wr:World)(S R:Nat)(z0 z1 z2 z3:Bool):Prop where
 bz:Bx wr S #[.bool z0,.bool z1,.bool z2,.bool z3] 134
 br:Bx wr R #[.bool false,.bool false,.bool false,.bool false] 134
 kp:Kp w wr
 ne:w.heap.size≤R
theorem FiStF.kp' {w wr w':World}{S R:Nat}{z0 z1 z2 z3:Bool}(h:FiStF w wr S R z0 z1 z2 z3)(k:Kp wr w'):FiStF w w' S R z0 z1 z2 z3:=⟨h.bz.kp k,h.br.kp k,h.kp.trans k,h.ne⟩
theorem retF {w wr:World}{R:Nat}{t:TypeId}(x0 x1 x2 x3:Bool)(u:Int)(hw:True)(hb:Bx wr R #[.bool false,.bool false,.bool false,.bool false] t)(hk:Kp w wr)(hR:w.heap.size≤R):
 Bx ((((wr.setCell ⟨R,0,none⟩ (.bool x0)).setCell ⟨R,1,none⟩ (.bool x1)).setCell ⟨R,2,none⟩ (.bool x2)).setCell ⟨R,3,none⟩ (.bool x3)) R #[.bool x0,.bool x1,.bool x2,.bool x3] t∧RetFindF w (.returned (.tuple #[.agg #[.bool x0,.bool x1,.bool x2,.bool x3],.int .i64 u])) ((((wr.setCell ⟨R,0,none⟩ (.bool x0)).setCell ⟨R,1,none⟩ (.bool x1)).setCell ⟨R,2,none⟩ (.bool x2)).setCell ⟨R,3,none⟩ (.bool x3)):=by
 refine⟨?_,_,_,u,rfl,⟨x0,x1,x2,x3,hw,rfl,rfl⟩,((((hk.setCell (p:=⟨R,0,none⟩) hR _).setCell (p:=⟨R,1,none⟩) hR _).setCell (p:=⟨R,2,none⟩) hR _).setCell (p:=⟨R,3,none⟩) hR _)⟩;have:=((((hb.set 0 (.bool x0)).set 1 (.bool x1)).set 2 (.bool x2)).set 3 (.bool x3));simpa using this
theorem RetFindF.drew {w w':World}{en:Ending}(h:RetFindF w en w'):RetFindF w en w'.drew:=by obtain⟨V,cs,u,h1,h2,h3⟩:=h;exact⟨V,cs,u,h1,h2,h3.drew⟩
theorem findQF (A:Option Addr)(n c:Nat)(V:Value)(zs:List Value)(i last:Int)(w:World)(hP:PcWF w A n c)(hz:ValF V zs)(hn:n≤1099511627776):
 Calls Tryz.prog 91 #[.slice A n c,V,.int .i64 i,.int .i64 last] w (RetFindF w):=by
 have HP:=hid hP;obtain⟨ps,hsl,_,_⟩:=hP;have hle:=Sl.le hsl;have hcp:=Sl.cap hsl;unfold maxLen at hcp;obtain⟨z0,z1,z2,z3,hw0,rfl,rfl⟩:=hz;have HW0:=hid hw0;clear hsl hw0;have st0:FiStF w ((w.alloc (.cells #[.bool z0,.bool z1,.bool z2,.bool z3] 134)).alloc (.cells #[.bool false,.bool false,.bool false,.bool false] 134)) w.heap.size (w.heap.size+1) z0 z1 z2 z3:=⟨(Bx.new w _ _).alloc _,by have:=Bx.new (w.alloc (.cells #[.bool z0,.bool z1,.bool z2,.bool z3] 134)) #[.bool false,.bool false,.bool false,.bool false] 134;simpa using this,((Kp.refl w).alloc _).alloc _,by omega⟩;go_enter Tryz.func91,Tryz.ntmps91;go_wp2_with fail;have ST0:=hid st0;obtain⟨S,hS⟩:∃S,S=w.heap.size:=⟨_,rfl⟩;obtain⟨R,hR⟩:∃R,R=w.heap.size+1:=⟨_,rfl⟩;rw[←hR,←hS]at ST0;rw[←hR,←hS];clear st0;generalize((w.alloc (.cells #[.bool z0,.bool z1,.bool z2,.bool z3] 134)).alloc (.cells #[.bool false,.bool false,.bool false,.bool false] 134))=w0 at *;have HSR:=hid (show S≠R by omega);clear hS hR;go_loopg [14,3] n (fun g iv lv wr=>∃(k:Nat) (lt:Int),k+g=n∧iv=.int .i64 k∧lv=.int .i64 lt∧Hid (FiStF w wr S R z0 z1 z2 z3))
 case atStart=>exact⟨0,last,by omega,rfl,rfl,ST0.out⟩
 case round=>
  clear ST0;obtain⟨k,lt,hk,rfl,rfl,hst⟩:=hrel;by_cases hkn:k<n
  ·obtain⟨ad,fr,tt,x0,x1,x2,x3,rfl,hwv,c0,c1,c2,c3,c4,c5⟩:=(HP.out.kp hst.out.kp).get hkn
   have HV:=hid hwv;clear hwv;go_upto_region 4 with fail;have kp1:=(Kp.refl wr).alloc (.cells #[.int .i64 fr,.int .i64 tt,.bool x0,.bool x1,.bool x2,.bool x3] 136);have bX:=Bx.new wr #[.int .i64 fr,.int .i64 tt,.bool x0,.bool x1,.bool x2,.bool x3] 136;have hRz:=hst.out.br.lt;obtain⟨X,hX⟩:∃X,X=wr.heap.size:=⟨_,rfl⟩;rw[←hX]at bX hRz⊢;obtain⟨HX,st1⟩:=hid2 (show X≠R by omega) (hst.out.kp' kp1);clear hX kp1 hst c0 c1 c2 c3 c4 c5;generalize(wr.alloc (.cells #[.int .i64 fr,.int .i64 tt,.bool x0,.bool x1,.bool x2,.bool x3] 136))=w1 at *;have d0:=bX.cell 0;have d1:=bX.cell 1;have d2:=bX.cell 2;have d3:=bX.cell 3;have d4:=bX.cell 4;have d5:=bX.cell 5;simp at d0 d1 d2 d3 d4 d5;have f0:=st1.out.br.frozen 0;have r0:=st1.out.br.cell 0;simp at r0;have f1:=st1.out.br.frozen 1;have r1:=st1.out.br.cell 1;simp at r1;have f2:=st1.out.br.frozen 2;have r2:=st1.out.br.cell 2;simp at r2;have f3:=st1.out.br.frozen 3;have r3:=st1.out.br.cell 3;simp at r3;have hRw:=st1.out.br.lt;by_cases ha:fr≤i
   ·by_cases hb:i≤tt
    ·have RR:=hid (fun u=>retF (t:=134) x0 x1 x2 x3 u HV.out st1.out.br st1.out.kp st1.out.ne)
     have bXs:=Bx.drew (((((bX.far (p:=⟨R,0,none⟩) HX.out (.bool x0)).far (p:=⟨R,1,none⟩) HX.out (.bool x1)).far (p:=⟨R,2,none⟩) HX.out (.bool x2)).far (p:=⟨R,3,none⟩) HX.out (.bool x3)));have e1:=bXs.cell 1;have e2:=bXs.cell 2;have e3:=bXs.cell 3;have e4:=bXs.cell 4;have e5:=bXs.cell 5;simp at e1 e2 e3 e4 e5;go_upto_region 5 with fail;go_region_held3 (fun w'=>w'.cell? ⟨X,1,none⟩=some (.int .i64 tt)∧w'.cell? ⟨X,2,none⟩=some (.bool x0)∧w'.cell? ⟨X,3,none⟩=some (.bool x1)∧w'.cell? ⟨X,4,none⟩=some (.bool x2)∧w'.cell? ⟨X,5,none⟩=some (.bool x3)) (first|(with_reducible exact⟨d1,d2,d3,d4,d5⟩)|(with_reducible exact⟨e1,e2,e3,e4,e5⟩)|go_keep) (fail)
     all_goals
      have rb:=(RR.out 0).1.drew;have rr:=fun u=>(RR.out u).2.drew
      generalize(((((w1.setCell ⟨R,0,none⟩ (.bool x0)).setCell ⟨R,1,none⟩ (.bool x1)).setCell ⟨R,2,none⟩ (.bool x2)).setCell ⟨R,3,none⟩ (.bool x3))).drew=w2 at *;have g0:=rb.cell 0;have g1:=rb.cell 1;have g2:=rb.cell 2;have g3:=rb.cell 3;simp at g0 g1 g2 g3;go_wp2_with fail
      all_goals first
      |(refine bodyPost_ret (v:=.tuple #[.agg #[.bool x0,.bool x1,.bool x2,.bool x3],.int .i64 tt]) ?_ rfl (rr tt);(simp[results,Tryz.results91,go_sem,g0,g1,g2,g3];done))
      |(refine bodyPost_ret (v:=.tuple #[.agg #[.bool x0,.bool x1,.bool x2,.bool x3],.int .i64 lt]) ?_ rfl (rr lt);(simp[results,Tryz.results91,go_sem,g0,g1,g2,g3];done))
    ·have hb':decide (i≤tt)=false:=by simp;omega
     have hc1:decide (i<fr)=false:=by simp;omega
     clear hb;go_wp2_with fail;go_roundg (n - (k+1))
     case measure=>omega
     case rel=>exact⟨k+1,lt,by omega,by go_num,rfl,st1⟩
   ·have ha':decide (fr≤i)=false:=by simp;omega
    have hc1:decide (i<fr)=true:=by simp;omega
    clear ha;by_cases hb:fr≤lt
    ·go_wp2_with fail
     go_roundg (n - (k+1))
     case measure=>omega
     case rel=>exact⟨k+1,_,by omega,by go_num,rfl,st1⟩
    ·have hb':decide (fr≤lt)=false:=by simp;omega
     clear hb;go_wp2_with fail;go_roundg (n - (k+1))
     case measure=>omega
     case rel=>exact⟨k+1,lt,by omega,by go_num,rfl,st1⟩
  ·have d0:=hst.out.bz.cell 0
   have d1:=hst.out.bz.cell 1;have d2:=hst.out.bz.cell 2;have d3:=hst.out.bz.cell 3;simp at d0 d1 d2 d3;have hRw:=hst.out.br.lt;have f0:=hst.out.br.frozen 0;have r0:=hst.out.br.cell 0;simp at r0;have f1:=hst.out.br.frozen 1;have r1:=hst.out.br.cell 1;simp at r1;have f2:=hst.out.br.frozen 2;have r2:=hst.out.br.cell 2;simp at r2;have f3:=hst.out.br.frozen 3;have r3:=hst.out.br.cell 3;simp at r3;have RR:=retF (t:=134) z0 z1 z2 z3 lt HW0.out hst.out.br hst.out.kp hst.out.ne;have RR':=hid RR;clear RR hst;go_wp2_with fail;obtain⟨rb,rr⟩:=RR'.out;generalize((((wr.setCell ⟨R,0,none⟩ (.bool z0)).setCell ⟨R,1,none⟩ (.bool z1)).setCell ⟨R,2,none⟩ (.bool z2)).setCell ⟨R,3,none⟩ (.bool z3))=w2 at *;have g0:=rb.cell 0;have g1:=rb.cell 1;have g2:=rb.cell 2;have g3:=rb.cell 3;simp at g0 g1 g2 g3;exact bodyPost_ret (v:=.tuple #[.agg #[.bool z0,.bool z1,.bool z2,.bool z3],.int .i64 lt]) (by simp[results,Tryz.results91,go_sem,g0,g1,g2,g3]) rfl rr
end Go.Proofs.YtociefdcccokjaaGreat

/-
  Lemmas for TopMacro. Conditions: each states its own.
-/
import Derived.WalkSpells
import Derived.Deep.RegionHeld3
import Derived.Deep.RegionLaw
import Derived.Lib.AppendZerosOnto
import Derived.Lib.Overlaps
import Derived.Laws.Externs
import Derived.Test.YtociefdcccokjaaGreatG12
import Derived.Test.YtociefdcccokjaaGreatG17
set_option maxHeartbeats 3200000
set_option maxRecDepth 100000
namespace Go.Proofs.YtociefdcccokjaaGreat
open Go.RowKit Go.Lib
theorem infoGrp:(Tryz.prog.info? 235).map (fun i=>(i.zero,i.size,i.bytes))=some (some (.agg #[.slice none 0 0,.int .i64 0]),2,32):=by kernel_rfl
theorem infoEd:(Tryz.prog.info? 239).map (fun i=>(i.zero,i.size,i.bytes))=some (some (.agg #[.int .i64 0,.slice none 0 0,.slice none 0 0]),3,56):=by kernel_rfl
def RetRow (t:TypeId)(k n:Nat)(vs:List Value)(w:World)(e:Ending)(w':World):Prop:=∃A c,e=.returned (.slice A n c)∧Own w' w.heap.size t k A n c vs∧Kp w w'
theorem cloneGrp_sl (F:Nat→Prop)(A:Option Addr)(n c:Nat)(vs:List Value)(w:World)(h:Sl w F 2 A n c vs)(h1:∀u∈vs,u.oneCell'=true)(hn:n≤1099511627776):
 Calls Tryz.prog 176 #[.slice A n c] w (RetRow 235 2 n vs w):=by
 have heq:=fun(wx:World) (a:Option Addr) (l d:Nat)=>Lib.run_eql_slice_nil (P:=Tryz.prog) wx 60 235 a l d 0 0 Tryz.underlying60
 have hcap:=h.cap;rcases A with _|ad
 ·have h0:n=0:=by
   rcases Nat.eq_zero_or_pos n with h0|h0
   ·exact h0
   ·obtain⟨ad,e,_⟩:=h.at_ h0
    cases e
  have hv:vs=[]:=List.eq_nil_of_length_eq_zero (by rw[h.len,h0,Nat.zero_mul]);subst hv;subst h0;go_enter Tryz.func176,Tryz.ntmps176;go_wp2;go_ret;exact⟨none,0,rfl,Own.nil _ _ _ _,Kp.refl _⟩
 ·have H1:=hid h1
  clear h1;go_enter Tryz.func176,Tryz.ntmps176;go_wp2_with (at_builtin;refine zA _ rfl _ _ _ rfl w.heap.size 235 _ 2 32 Tryz.underlying60 infoGrp rfl (by omega) (some ⟨w.heap.size,0,none⟩) 0 0 [] rfl (World.ownsRow_made _ _ _ le_ (by simp[maxLen]) rfl) F (some ad) n c vs rfl (h.alloc _) H1.out (by simp only[maxLen];omega) (by omega) (by simp) ?_;intro A' c' w1 hown hg hat);go_wp2;go_ret;have hk:Kp w w1:=((Kp.refl w).alloc _).grown hg (by simp[zB]);exact⟨A',c',by simp,by simpa using hown,hk⟩
theorem cloneEd_sl (F:Nat→Prop)(A:Option Addr)(n c:Nat)(vs:List Value)(w:World)(h:Sl w F 3 A n c vs)(h1:∀u∈vs,u.oneCell'=true)(hn:n≤1099511627776):
 Calls Tryz.prog 150 #[.slice A n c] w (RetRow 239 3 n vs w):=by
 have heq:=fun(wx:World) (a:Option Addr) (l d:Nat)=>Lib.run_eql_slice_nil (P:=Tryz.prog) wx 233 239 a l d 0 0 Tryz.underlying233
 have hcap:=h.cap;rcases A with _|ad
 ·have h0:n=0:=by
   rcases Nat.eq_zero_or_pos n with h0|h0
   ·exact h0
   ·obtain⟨ad,e,_⟩:=h.at_ h0
    cases e
  have hv:vs=[]:=List.eq_nil_of_length_eq_zero (by rw[h.len,h0,Nat.zero_mul]);subst hv;subst h0;go_enter Tryz.func150,Tryz.ntmps150;go_wp2;go_ret;exact⟨none,0,rfl,Own.nil _ _ _ _,Kp.refl _⟩
 ·have H1:=hid h1
  clear h1;go_enter Tryz.func150,Tryz.ntmps150;go_wp2_with (at_builtin;refine zA _ rfl _ _ _ rfl w.heap.size 239 _ 3 56 Tryz.underlying233 infoEd rfl (by omega) (some ⟨w.heap.size,0,none⟩) 0 0 [] rfl (World.ownsRow_made _ _ _ le_ (by simp[maxLen]) rfl) F (some ad) n c vs rfl (h.alloc _) H1.out (by simp only[maxLen];omega) (by omega) (by simp) ?_;intro A' c' w1 hown hg hat);go_wp2;go_ret;have hk:Kp w w1:=((Kp.refl w).alloc _).grown hg (by simp[zB]);exact⟨A',c',by simp,by simpa using hown,hk⟩
section
variable {F G:Nat→Prop}{w w':World}{A:Option Addr}{n c:Nat}{es:List Ed}{gs:List Grp}
theorem EdVF.kp (k:Kp w w')(e:Ed)(cs:List Value)(h:EdVF F w e cs):EdVF F w' e cs:=EdVF.frame k.size (fun i _ hi=>k.block i hi) e cs h
theorem EdsG.eds (h:EdsG F w A n c es):Eds w A n c es:=by
 obtain⟨css,h1,h2,h3⟩:=h;exact⟨css,h1.any,h2.mono EdVF.ed,h3⟩
theorem GrpsF.get (h:GrpsF F w A n c gs){i:Nat}{g:Grp}(hg:gs[i]? =some g):∃ad B m d,A=some ad∧w.cell? (ad.add (i*2))=some (.slice B m d)∧
 w.cell? ⟨(ad.add (i*2)).block,(ad.add (i*2)).off+1,none⟩=some (.int .i64 g.cur)∧EdsG F w B m d g.es:=by
 obtain⟨css,h1,h2,h3⟩:=h;have hl:Lst (GrpVF F) 2 w A n c gs:=⟨css,h1.any,h2,h3⟩;obtain⟨ad,cs,e1,⟨B,m,d,rfl,h1⟩,hc⟩:=Lst.get (fun g cs h=>GrpV.len g cs (GrpVF.grp g cs h)) hl hg;refine⟨ad,B,m,d,e1,?_,?_,h1⟩
 ·simpa using hc 0 (by omega)
 ·have:=hc 1 (by omega);rwa[zF _ _ 0]at this
theorem GrpsF.take (h:GrpsF F w A n c gs){m:Nat}(hm:m≤n)(c':Nat)(hc:m≤c')(hc':c'≤c):GrpsF F w A m c' (gs.take m):=by
 obtain⟨css,h1,h2,h3⟩:=h;have h4:=Sl.take h1 hm;rw[flat_take m (h2.all fun g cs h=>GrpV.len g cs (GrpVF.grp g cs h))]at h4;exact⟨css.take m,⟨hc,Nat.le_trans hc' h4.cap,h4.len,h4.at_⟩,h2.take m,by simp[h3];omega⟩
end
def EdsFG (F' F:Nat→Prop)(w:World)(A:Option Addr)(n c:Nat)(es:List Ed):Prop:=∃css,Sl w F' 3 A n c css.flatten∧RelL (EdVF F w) es css∧es.length=n
theorem undo_len (A:Option Addr)(n c:Nat)(w:World):Calls Tryz.prog 17 #[.agg #[.slice A n c]] w fun e w'=>e=.returned (.int .i64 n)∧Kp w w':=by
 go_enter Tryz.func17,Tryz.ntmps17;go_wp2;go_ret;exact⟨rfl,(Kp.refl _).alloc _⟩
theorem undo_drop_s (A:Option Addr)(n c:Nat)(w:World)(hn0:0<n)(hle:n≤c)(hcap:c≤maxLen):Calls Tryz.prog 119 #[.agg #[.slice A n c]] w fun e w'=>e=.returned (.agg #[.slice A (n - 1) (n - 1)])∧Kp w w':=by
 unfold maxLen at hcap;have h1:((n:Int)==0)=false:=by simp;omega
 have e1:(n:Int) - 1=((n - 1:Nat):Int):=by omega
 go_enter Tryz.func119,Tryz.ntmps119;go_wp2;refine bodyPost_ret (v:=.agg #[.slice A (n - 1) (n - 1)]) (by simp[results,Tryz.results119,go_sem]) rfl ?_;exact⟨rfl,by repeat(first|assumption|exact Kp.refl _|refine Kp.alloc ?_ _|refine Kp.drewN ?_ _|refine Kp.drew ?_|refine Kp.setCell ?_ (by simp) _)⟩
def RetLast (F:Nat→Prop)(gs:List Grp)(w:World)(e:Ending)(w':World):Prop:=
 match gs.getLast? with
 |none=>e=.returned (.tuple #[.agg #[.slice none 0 0,.int .i64 0],.bool false])∧Kp w w'
 |some g=>∃B m d,e=.returned (.tuple #[.agg #[.slice B m d,.int .i64 g.cur],.bool true])∧EdsFG (From w.heap.size) F w' B m d g.es∧Kp w w'
theorem retLast_none {F:Nat→Prop}{gs:List Grp}{w w':World}{e:Ending}(h:gs=[])(he:e=.returned (.tuple #[.agg #[.slice none 0 0,.int .i64 0],.bool false]))(k:Kp w w'):RetLast F gs w e w':=by subst h;exact⟨he,k⟩
theorem retLast_some {F:Nat→Prop}{gs:List Grp}{w w':World}{e:Ending}{g:Grp}{B:Option Addr}{m d:Nat}(h:gs.getLast? =some g)(he:e=.returned (.tuple #[.agg #[.slice B m d,.int .i64 g.cur],.bool true]))(hE:EdsFG (From w.heap.size) F w' B m d g.es)(k:Kp w w'):RetLast F gs w e w':=by
 unfold RetLast;rw[h];exact⟨B,m,d,he,hE,k⟩
theorem undo_last (F:Nat→Prop)(A:Option Addr)(n c:Nat)(gs:List Grp)(w:World)(h:GrpsF F w A n c gs)(hes:∀g∈gs,g.es.length≤1000000):Calls Tryz.prog 114 #[.agg #[.slice A n c]] w (RetLast F gs w):=by
 have hlen:=h.grps.len;have hle:=h.grps.le;have hcap:=h.grps.cap;unfold maxLen at hcap;obtain⟨HL,HES⟩:=hid2 hlen hes;clear hlen hes;by_cases h0:n=0
 ·subst h0
  have HG:Hid (gs=[]):=List.eq_nil_of_length_eq_zero HL.out;go_enter Tryz.func114,Tryz.ntmps114;go_wp2;refine bodyPost_ret (v:=.tuple #[.agg #[.slice none 0 0,.int .i64 0],.bool false]) (by simp[results,Tryz.results114,go_sem]) rfl ?_;exact retLast_none HG.out rfl (by repeat(first|assumption|exact Kp.refl _|refine Kp.alloc ?_ _|refine Kp.drewN ?_ _|refine Kp.drew ?_|refine Kp.setCell ?_ (by simp) _))
 ·obtain⟨n1,hn1⟩:∃n1,n=n1+1:=⟨n - 1,by omega⟩
  obtain⟨g,hg,hgl,-,-⟩:=last_split (gs:=gs) (n:=n1) (by have:=HL.out;omega);have HGL:=hid hgl;have hem:=HES.out g (List.mem_of_getElem? hg);obtain⟨ad,B,m,d,rfl,c0,c1,hE⟩:=h.get hg;clear hg hgl;have h1:((n:Int)==0)=false:=by simpa using h0
  have e1:(n:Int) - 1=(n1:Int):=by omega
  have HN1:=hid hn1;have hn2:n1<n:=by omega
  clear hn1;have hm:=hE.eds.len;have hmc:=hE.eds.cap;unfold maxLen at hmc;have hml:m≤1000000:=by omega
  obtain⟨css,hS0,hR,_⟩:=hE;have hS:=hS0.any;clear hS0;obtain⟨H1,HR,HM⟩:=hid3 (Lst.one (w:=w) EdV.one (hR.mono EdVF.ed)) hR hm;clear hm hR hem;go_enter Tryz.func114,Tryz.ntmps114;go_upto_region 1 with fail;have ka:=(((Kp.refl w).alloc (.cells #[.slice (some ad) n c] 62)).alloc (.cells #[.slice none 0 0,.int .i64 0] 235));have b0:=(Bx.new w #[.slice (some ad) n c] 62).alloc (.cells #[.slice none 0 0,.int .i64 0] 235);have b1:=(Bx.new (w.alloc (.cells #[.slice (some ad) n c] 62)) #[.slice none 0 0,.int .i64 0] 235);rw[World.size_alloc]at b1;have c0':=zE ka c0;have c1':=zE ka c1;have hS':=hS.kp ka;have hs2:(w.alloc (.cells #[.slice (some ad) n c] 62)).heap.size+1=((w.alloc (.cells #[.slice (some ad) n c] 62)).alloc (.cells #[.slice none 0 0,.int .i64 0] 235)).heap.size:=by simp
  clear c0 c1 hS;generalize((w.alloc (.cells #[.slice (some ad) n c] 62)).alloc (.cells #[.slice none 0 0,.int .i64 0] 235))=w2 at *;have hz2:w2.heap.size=w.heap.size+2:=by rw[←hs2];simp
  clear hs2;obtain⟨b0c,b0f⟩:=b0.one;go_upto_region 4 with fail;have kb:=(Kp.refl w2).alloc (.cells #[.slice B m d,.int .i64 g.cur] 235);have bg:=Bx.new w2 #[.slice B m d,.int .i64 g.cur] 235;have b1':=b1.kp kb;have hS3:=hS'.kp kb;have k3:=ka.trans kb;clear c0' c1' hS' b0c b0f b0 b1 ka kb;generalize(w2.alloc (.cells #[.slice B m d,.int .i64 g.cur] 235))=w3 at *;rw[hz2]at bg;clear hz2;obtain⟨g0,g1,_,_⟩:=bg.two;go_region_held3 (fun w'=>w'.cell? ⟨w.heap.size+2,0,none⟩=some (.slice B m d)∧w'.cell? ⟨w.heap.size+2,1,none⟩=some (.int .i64 g.cur))
   (first|(with_reducible exact⟨u0,u1⟩)|(with_reducible exact⟨g0,g1⟩)|go_keep)
   ((go_at_call 150;go_loud (refine(cloneEd_sl Any B m d css.flatten _ (by first|exact hS3|exact Sl.drew hS3) H1.out (by omega)).mono ?_);rintro e w4 ⟨B4,d4,rfl,hown,hk4⟩;have u0:=zE hk4 g0;have u1:=zE hk4 g1;have b4:Bx w4 (w.heap.size+1) #[.slice none 0 0,.int .i64 0] 235:=(by first|exact b1'.kp hk4|exact(Bx.drew b1').kp hk4);obtain⟨r0,r1,r2,r3⟩:=b4.two;have k4:Kp w w4:=(by first|exact k3.trans hk4|exact(k3.drew).trans hk4)))
  have k6:=(k4.setCell (p:=⟨w.heap.size+1,0,none⟩) (by simp) (.slice B4 m d4)).setCell (p:=⟨w.heap.size+1,1,none⟩) (by simp) (.int .i64 g.cur);have b6:=((b4.set 0 (.slice B4 m d4)).set 1 (.int .i64 g.cur));have hlt:=bg.lt;have HZ3:Hid (w.heap.size≤w3.heap.size):=k3.size;have hrow:zB B4≠some (w.heap.size+1):=fun e=>by have:=(hown.lt _ e).1;simp at this;omega
  have o6:=(hown.setCell (p:=⟨w.heap.size+1,0,none⟩) hrow (.slice B4 m d4)).setCell (p:=⟨w.heap.size+1,1,none⟩) hrow (.int .i64 g.cur);clear hlt hrow b4 r0 r1 r2 r3 u0 u1 hk4 hown k4 g0 g1 hS3 k3 b1' bg;generalize((w4.setCell ⟨w.heap.size+1,0,none⟩ (.slice B4 m d4)).setCell ⟨w.heap.size+1,1,none⟩ (.int .i64 g.cur))=w6 at *;obtain⟨r0,r1,_,_⟩:=Bx.two b6;go_wp2;refine bodyPost_ret (v:=.tuple #[.agg #[.slice B4 m d4,.int .i64 g.cur],.bool true]) (by simp[results,Tryz.results114,go_sem,r0,r1]) rfl ?_;exact retLast_some HGL.out rfl ⟨css,Sl.weak o6.sl fun k _ h=>by have:=HZ3.out;unfold From at h⊢;simp at h;omega,HR.out.mono (EdVF.kp k6),HM.out⟩ k6
def RetAddF (F:Nat→Prop)(gs:List Grp)(w:World)(e:Ending)(w':World):Prop:=∃A n c,e=.returned (.agg #[.slice A n c])∧GrpsF F w' A n c gs∧Kp w w'
theorem undo_add_F (F:Nat→Prop)(A B C:Option Addr)(n c m d p q:Nat)(gs:List Grp)(ed:Ed)(cur:Int)(join:Bool)(w:World)(hFn:∀k,w.heap.size≤k→F k)(h:GrpsF F w A n c gs)(hB:Ru w F B m d ed.old)(hC:Ru w F C p q ed.new)
 (hn:n≤2000)(hj:join=false∨n=0):
 Calls Tryz.prog 140 #[.agg #[.slice A n c],.agg #[.int .i64 ed.at_,.slice B m d,.slice C p q],.int .i64 cur,.bool join] w (RetAddF F (addU gs ed cur join) w):=by
 have hle:=h.grps.le;have hcap:=h.grps.cap;unfold maxLen at hcap;obtain⟨k,hk⟩:∃k,k=n+1 - 1000:=⟨_,rfl⟩;rw[addU_own (gs:=gs) ed cur join (by rcases hj with h1|h1;exact .inl h1;exact .inr (List.eq_nil_of_length_eq_zero (by rw[h.grps.len,h1]))),h.grps.len,←hk];have HFN:=hid hFn;clear hFn;have HK:=hid hk;clear hk;obtain⟨css,hS,hR,hlen⟩:=h;obtain⟨HL,H1,HR⟩:=hid3 hlen (Lst.one (w:=w) GrpV.one (hR.mono GrpVF.grp)) hR;have hj':join=false∨(join=true∧decide (1≤(n:Int))=false∧¬(1≤(n:Int))):=by
  rcases hj with h1|h1
  ·exact .inl h1
  ·cases join
   ·exact .inl rfl
   ·exact .inr ⟨rfl,by simp;omega,by omega⟩
 clear hj;clear hlen hR;go_enter Tryz.func140,Tryz.ntmps140;go_upto_region 1 with fail;have ka:=(((Kp.refl w).alloc (.cells #[.slice A n c] 62)).alloc (.cells #[.int .i64 ed.at_,.slice B m d,.slice C p q] 239)).alloc (.cells #[.slice none 0 0] 62);have b0:=((Bx.new w #[.slice A n c] 62).alloc (.cells #[.int .i64 ed.at_,.slice B m d,.slice C p q] 239)).alloc (.cells #[.slice none 0 0] 62);have b1:=(Bx.new (w.alloc (.cells #[.slice A n c] 62)) #[.int .i64 ed.at_,.slice B m d,.slice C p q] 239).alloc (.cells #[.slice none 0 0] 62);have b2:=Bx.new ((w.alloc (.cells #[.slice A n c] 62)).alloc (.cells #[.int .i64 ed.at_,.slice B m d,.slice C p q] 239)) #[.slice none 0 0] 62;rw[World.size_alloc]at b1 b2;rw[World.size_alloc]at b2;have hS2:=hS.kp ka;have hz2:(((w.alloc (.cells #[.slice A n c] 62)).alloc (.cells #[.int .i64 ed.at_,.slice B m d,.slice C p q] 239)).alloc (.cells #[.slice none 0 0] 62)).heap.size=w.heap.size+3:=by simp
 clear hS;generalize(((w.alloc (.cells #[.slice A n c] 62)).alloc (.cells #[.int .i64 ed.at_,.slice B m d,.slice C p q] 239)).alloc (.cells #[.slice none 0 0] 62))=w2 at *;obtain⟨b00,b01⟩:=b0.one;go_wp2_with fail;refine(cloneGrp_sl F A n c css.flatten w2 hS2 H1.out (by omega)).mono ?_;rintro e w3 ⟨A3,c3,rfl,hown,k3⟩;have b1':=b1.kp k3;have b2':=b2.kp k3;have kk:=ka.trans k3;have hz3:w.heap.size+3≤w3.heap.size:=by have:=k3.size;omega
 rw[hz2]at hown;clear b0 b1 b2 b00 b01 hS2 k3 ka hz2;obtain⟨e0,e1,e2,e3,e4,e5⟩:=b1'.three;go_upto_region 3 with fail;rcases hj' with rfl|⟨rfl,hd0,hd1⟩
 all_goals
  go_upto_region 7 with(at_builtin;refine zA _ rfl _ _ _ rfl (w.heap.size+3) 235 _ 2 32 Tryz.underlying60 infoGrp rfl (by omega) A3 n c3 css.flatten rfl ((hown.alloc _).alloc _) Any _ 1 1 [.slice (some ⟨w3.heap.size,0,none⟩) 1 1,.int .i64 cur] rfl (Sl.new_ (w3.alloc (.cells #[.int .i64 ed.at_,.slice B m d,.slice C p q] 239)) #[.slice (some ⟨w3.heap.size,0,none⟩) 1 1,.int .i64 cur] _ 2 1 _ (by simp) trivial (by simp) (by omega)) (by simp[Value.oneCell']) (by simp only[maxLen];omega) (by omega) (by simp;omega) ?_;intro A4 c4 w4 hown4 hg4 hat4);have hrow:∀g,zB A3=some g→w.heap.size+3≤g∧g<w3.heap.size:=hown.lt;have kw4:Kp w w4:=((kk.alloc _).alloc _).grown hg4 (fun g e=>by have:=hrow g e;omega);have bE:Bx w4 w3.heap.size #[.int .i64 ed.at_,.slice B m d,.slice C p q] 239:=((Bx.new w3 _ _).alloc _).grown hg4 (fun e=>by have:=hrow _ e;omega);have bR:Bx w4 (w.heap.size+1+1) #[.slice none 0 0] 62:=((b2'.alloc _).alloc _).grown hg4 (fun e=>by have:=hrow _ e;omega);have hrow4:zB A4≠some (w.heap.size+1+1):=fun e=>by have:=(hown4.lt _ e).1;omega
  have hGL:∀v:Value,GrpsF F (w4.setCell ⟨w.heap.size+1+1,0,none⟩ v) A4 (n+1) c4 (gs++[⟨[ed],cur⟩]):=fun v=>by
   have kv:=kw4.setCell (p:=⟨w.heap.size+1+1,0,none⟩) (by show w.heap.size≤w.heap.size+1+1;omega) v;have hs:=(hown4.setCell (p:=⟨w.heap.size+1+1,0,none⟩) hrow4 v).sl.weak (G:=F) fun k _ h=>HFN.out k (by unfold From at h;omega)
   exact⟨css++[[.slice (some ⟨w3.heap.size,0,none⟩) 1 1,.int .i64 cur]],by rw[List.flatten_append];simpa using hs,(HR.out.mono (GrpVF.kp kv)).app (RelL.one (grpVF_new ed cur (bE.far (p:=⟨w.heap.size+1+1,0,none⟩) (by show w3.heap.size≠w.heap.size+1+1;omega) v) (HFN.out _ (by omega)) (hB.kp kv) (hC.kp kv))),by simp[HL.out]⟩
  have hcap4:=hown4.cap;obtain⟨mm,hmm⟩:∃mm,mm=n+1:=⟨_,rfl⟩;have hk:=HK.out;have hkm:k≤n+1:=by omega
  rw[←hmm]at hGL hcap4 hkm⊢;have hc63:c4≤9223372036854775807:=by have:=hcap4.2;unfold maxLen at this;omega
  have hmc:=hcap4.1;have HMM:=hid hmm;clear hcap4 hrow hrow4 bE hat4 hg4 hown4 hown kk b1' b2' hk hz3 e0 e1 e2 e3 e4 e5;obtain⟨r0,r1⟩:=bR.one;have hck:¬(c4=k):=by have:=HK.out;omega
  have HGL:=hid hGL;clear hGL;by_cases hbig:1000≤mm
  ·have ek:(mm:Int) - 1000=(k:Int):=by have:=HK.out;omega
   clear hmm;go_wp2;refine bodyPost_ret (v:=.agg #[.slice (A4.map fun x=>x.add (k*2)) (mm - k) (c4 - k)]) (by simp[results,Tryz.results140,go_sem,r0]) rfl ?_;have hGD:=GrpsF.drop (HGL.out (.slice (A4.map fun x=>x.add (k*2)) (mm - k) (c4 - k))) (m:=k) hkm;rw[if_neg hck]at hGD;exact⟨_,_,_,rfl,hGD,kw4.setCell (by show w.heap.size≤w.heap.size+1+1;omega) _⟩
  ·have ek:(mm:Int) - 1000<0:=by omega
   have k0:k=0:=by have:=HK.out;omega
   clear hmm;go_wp2;refine bodyPost_ret (v:=.agg #[.slice A4 mm c4]) (by simp[results,Tryz.results140,go_sem,r0]) rfl ?_;rw[k0,List.drop_zero];exact⟨_,_,_,rfl,HGL.out _,kw4.setCell (by show w.heap.size≤w.heap.size+1+1;omega) _⟩
theorem Own.row {w:World}{base:Nat}{e:TypeId}{size n c:Nat}{A:Option Addr}{vs:List Value}(h:Own w base e size A n c vs)(hn:0<n):
 ∃g cur,A=some ⟨g,0,none⟩∧base≤g∧Bx w g cur e∧n≤c∧c≤maxLen∧cur.size=c*size∧cur.toList.take (n*size)=vs:=by
 rcases h.2 with⟨_,h0⟩|⟨g,cap,cur,hv,h1,h2,h3,h4,h5,h6⟩
 ·omega
 ·cases hv
  exact⟨g,cur,rfl,h1,h2,h3,h4,h5,h6⟩
theorem Sl.of_row {F:Nat→Prop}{w:World}{g:Nat}{cur:Array Value}{t:TypeId}(h:Bx w g cur t)(hF:F g)(k n c:Nat)(hn:n≤c)(hc:c≤maxLen)(hs:n*k≤cur.size):Sl w F k (some ⟨g,0,none⟩) n c (cur.toList.take (n*k)):=
 ⟨hn,hc,by simp;omega,fun _=>⟨⟨g,0,none⟩,rfl,hF,h.lt,fun j u hu=>by
  have e:(⟨g,0,none⟩:Addr).add j=⟨g,j,none⟩:=by unfold Addr.add;split<;>simp_all
  rw[e,h.cell j];have hj:j<n*k:=by have:=(List.getElem?_eq_some_iff.1 hu).1;simp at this;omega
  rw[List.getElem?_take_of_lt hj]at hu;simpa using hu⟩⟩
theorem row_last {css:List (List Value)}{cur:Array Value}{n1:Nat}{x y v:Value}(hl:css.length=n1)(h2:∀c∈css,c.length=2)(hc:cur.toList.take ((n1+1)*2)=(css++[[x,y]]).flatten):
 (cur.setIfInBounds (n1*2) v).toList.take ((n1+1)*2)=(css++[[v,y]]).flatten:=by
 have hf:=vO h2;rw[hl]at hf;rw[Array.toList_setIfInBounds,List.take_set,hc];rw[List.flatten_append,List.flatten_append];have e:css.flatten.length=n1*2:=hf;rw[List.set_append_right _ _ (by omega),e];simp
theorem row_at {css:List (List Value)}{cur:Array Value}{n1:Nat}{x y:Value}(hl:css.length=n1)(h2:∀c∈css,c.length=2)(hc:cur.toList.take ((n1+1)*2)=(css++[[x,y]]).flatten):cur[n1*2]? =some x:=by
 have hf:=vO h2;rw[hl]at hf;have h3:(cur.toList.take ((n1+1)*2))[n1*2]? =some x:=by
  rw[hc,List.flatten_append,List.getElem?_append_right (by omega),hf];simp
 rw[List.getElem?_take_of_lt (by omega)]at h3;simpa using h3
theorem undo_add_join (F:Nat→Prop)(A B C:Option Addr)(n c m d p q:Nat)(gs:List Grp)(ed:Ed)(cur:Int)(w:World)(hFn:∀k,w.heap.size≤k→F k)(h:GrpsF F w A n c gs)(hB:Ru w F B m d ed.old)(hC:Ru w F C p q ed.new)
 (hn:n≤2000)(hn0:0<n)(hes:∀g∈gs,g.es.length≤1000000):
 Calls Tryz.prog 140 #[.agg #[.slice A n c],.agg #[.int .i64 ed.at_,.slice B m d,.slice C p q],.int .i64 cur,.bool true] w (RetAddF F (addU gs ed cur true) w):=by
 have hle:=h.grps.le;have hcap:=h.grps.cap;have HFN:=hid hFn;clear hFn;unfold maxLen at hcap;obtain⟨n1,hn1⟩:∃n1,n=n1+1:=⟨n - 1,by omega⟩;obtain⟨g,hg,hgl,hgs,hgd⟩:=last_split (gs:=gs) (n:=n1) (by rw[h.grps.len,hn1]);rw[addU_join ed cur hgl];have hem:=hes g (List.mem_of_getElem? hg);obtain⟨gd,hgd'⟩:∃gd,gd=gs.dropLast:=⟨_,rfl⟩;rw[←hgd']at hgs hgd⊢;subst hgs;clear hg hgl hgd' hes;obtain⟨css,hS,hR,hlen⟩:=h;have H1:=hid (Lst.one (w:=w) GrpV.one (hR.mono GrpVF.grp));obtain⟨cs0,cs1,rfl,hR0,hR1⟩:∃cs0 cs1,css=cs0++[cs1]∧RelL (GrpVF F w) gd cs0∧GrpVF F w g cs1:=hR.snoc;obtain⟨B1,m1,d1,rfl,hE⟩:=hR1;have hml:=hE.eds.len;obtain⟨ess,hS1,hR1,_⟩:=hE;obtain⟨HE1,HR0,HR1,HM⟩:=hid4 (Lst.one (w:=w) EdV.one (hR1.mono EdVF.ed)) hR0 hR1 hml;have hm1:m1≤1000000:=by omega
 obtain⟨HGD,HN1⟩:=hid2 hgd hn1;have e1:(n:Int) - 1=(n1:Int):=by omega
 have hn2:n1<n:=by omega
 clear hlen hR hR0 hR1 hml hem hgd hn1;go_enter Tryz.func140,Tryz.ntmps140;go_upto_region 1 with fail;have ka:=(((Kp.refl w).alloc (.cells #[.slice A n c] 62)).alloc (.cells #[.int .i64 ed.at_,.slice B m d,.slice C p q] 239)).alloc (.cells #[.slice none 0 0] 62);have b0:=((Bx.new w #[.slice A n c] 62).alloc (.cells #[.int .i64 ed.at_,.slice B m d,.slice C p q] 239)).alloc (.cells #[.slice none 0 0] 62);have b1:=(Bx.new (w.alloc (.cells #[.slice A n c] 62)) #[.int .i64 ed.at_,.slice B m d,.slice C p q] 239).alloc (.cells #[.slice none 0 0] 62);have b2:=Bx.new ((w.alloc (.cells #[.slice A n c] 62)).alloc (.cells #[.int .i64 ed.at_,.slice B m d,.slice C p q] 239)) #[.slice none 0 0] 62;rw[World.size_alloc]at b1 b2;rw[World.size_alloc]at b2;have hS2:=hS.kp ka;have hz2:(((w.alloc (.cells #[.slice A n c] 62)).alloc (.cells #[.int .i64 ed.at_,.slice B m d,.slice C p q] 239)).alloc (.cells #[.slice none 0 0] 62)).heap.size=w.heap.size+3:=by simp
 clear hS;generalize(((w.alloc (.cells #[.slice A n c] 62)).alloc (.cells #[.int .i64 ed.at_,.slice B m d,.slice C p q] 239)).alloc (.cells #[.slice none 0 0] 62))=w2 at *;obtain⟨b00,b01⟩:=b0.one;go_wp2_with fail;refine(cloneGrp_sl F A n c (cs0++[[Value.slice B1 m1 d1,Value.int .i64 g.cur]]).flatten w2 hS2 H1.out (by omega)).mono ?_;rintro e w3 ⟨A3,c3,rfl,hown,k3⟩;have b1':=b1.kp k3;have b2':=b2.kp k3;have kk:=ka.trans k3;have hz3:w.heap.size+3≤w3.heap.size:=by have:=k3.size;omega
 rw[hz2]at hown;obtain⟨gr,cur3,rfl,hgr,bA,hnc3,hc3,hsz3,htk3⟩:=hown.row hn0;have hgl:=bA.lt;have hS1':=hS1.kp kk;unfold maxLen at hc3;clear b0 b1 b2 b00 b01 hS2 k3 ka hz2 hS1 hown;obtain⟨e0,e1',e2,e3,e4,e5⟩:=b1'.three;have hN2:n*2≤cur3.size:=by rw[hsz3];omega
 have a0:w3.cell? ⟨gr,n1*2,none⟩=some (.slice B1 m1 d1):=by
  rw[bA.cell];exact row_at (by rw[HR0.out.len,HGD.out]) (HR0.out.all fun g cs h=>GrpV.len g cs (GrpVF.grp g cs h)) (by rw[←HN1.out];exact htk3)
 have HTK:=hid htk3;clear htk3;have af:=bA.frozen (n1*2);go_upto_region 4 with fail;have a0':∀o:Obj,(w3.drew.alloc o).cell? ⟨gr,n1*2,none⟩=some (.slice B1 m1 d1):=fun o=>zE ((Kp.refl w3).drew.alloc o) a0
 clear b1';go_region_law (first
  |(refine zJ _ (by rfl) _ _ _ (by rfl) w3.heap.size 239 _ 3 56 Tryz.underlying233 infoEd rfl (by omega) E4 m1 d4 ess.flatten (by rfl) (by first|exact ho4|exact ho4.alloc _) Any _ 1 1 [.int .i64 ed.at_,.slice B m d,.slice C p q] (by rfl) (by first|exact Sl.new_ w4 #[.int .i64 ed.at_,.slice B m d,.slice C p q] _ 3 1 _ rfl trivial (by simp) (by omega)|exact Sl.of_bxF bF trivial 3 1 rfl (by omega)) (by simp[Value.oneCell']) (by simp only[maxLen];omega) (by omega) (by have:=kd.size;first|exact this|(simp;omega)) ?_;intro E5 c5 w5 hown5 hg5 hat5;have hrE:∀g,zB E4=some g→w3.heap.size≤g:=fun g h=>(ho4.lt g h).1;have k5:Kp w w5:=(by first|exact Kp.grown (kk.trans kd) hg5 (fun g h=>by have:=hrE g h;omega)|exact Kp.grown ((kk.trans kd).alloc _) hg5 (fun g h=>by have:=hrE g h;omega));have bA5:Bx w5 gr cur3 235:=(by first|exact(bA.kp kd).grown hg5 (fun h=>by have:=hrE _ h;omega)|exact((bA.kp kd).alloc _).grown hg5 (fun h=>by have:=hrE _ h;omega));have bR5:Bx w5 (w.heap.size+1+1) #[.slice none 0 0] 62:=(by first|exact(b2'.kp kd).grown hg5 (fun h=>by have:=hrE _ h;omega)|exact((b2'.kp kd).alloc _).grown hg5 (fun h=>by have:=hrE _ h;omega));have z0:w5.cell? ⟨gr,n1*2,none⟩=some (.slice B1 m1 d1):=(by rw[bA5.cell,←bA.cell];exact a0);have z1:=bA5.frozen (n1*2))
  |(go_simp;refine(cloneEd_sl F B1 m1 d1 ess.flatten _ (by first|exact hS1'.drew|exact(hS1'.drew).alloc _) HE1.out (by omega)).mono ?_;rintro e w4 ⟨E4,d4,rfl,hown,hk4⟩;have kd:Kp w3 w4:=(by first|exact((Kp.refl w3).drew).trans hk4|exact(((Kp.refl w3).drew).alloc _).trans hk4);have q0:=zE kd e0;have q1:=zE kd e1';have q2:=zE kd e2;have ho4:Own w4 w3.heap.size 239 3 E4 m1 d4 ess.flatten:=hown.more (by simp);(first|(have bF:Bx w4 w3.heap.size #[.int .i64 ed.at_,.slice B m d,.slice C p q] 239:=(Bx.new w3.drew _ _).kp hk4)|skip)))
 all_goals
  have bA6:=bA5.set (n1*2) (.slice E5 (m1+1) c5);have k6:=k5.setCell (p:=⟨gr,n1*2,none⟩) (by show w.heap.size≤gr;omega) (.slice E5 (m1+1) c5);have o6:=hown5.setCell (p:=⟨gr,n1*2,none⟩) (fun e=>by have:=(hown5.lt gr e).1;omega) (.slice E5 (m1+1) c5);have bR6:=bR5.far (p:=⟨gr,n1*2,none⟩) (by show w.heap.size+1+1≠gr;omega) (.slice E5 (m1+1) c5);clear a0 a0' af z0 z1 bA5 k5 hown5 bR5 kd ho4 hk4 hown q0 q1 q2 bA b2' hS1' hg5 hat5 e0 e1' e2 e3 e4 e5 hrE;generalize(w5.setCell ⟨gr,n1*2,none⟩ (.slice E5 (m1+1) c5))=w6 at *;obtain⟨r0,r1⟩:=bR6.one;go_wp2;refine bodyPost_ret (v:=.agg #[.slice (some ⟨gr,0,none⟩) n c3]) (by simp[results,Tryz.results140,go_sem,r0]) rfl ?_;have bA7:=bA6.far (p:=⟨w.heap.size+1+1,0,none⟩) (by show gr≠w.heap.size+1+1;omega) (.slice (some ⟨gr,0,none⟩) n c3);have k7:=k6.setCell (p:=⟨w.heap.size+1+1,0,none⟩) (by show w.heap.size≤w.heap.size+1+1;omega) (.slice (some ⟨gr,0,none⟩) n c3);have o7:=(o6.setCell (p:=⟨w.heap.size+1+1,0,none⟩) (fun e=>by have:=(o6.lt (w.heap.size+1+1) e).1;omega) (.slice (some ⟨gr,0,none⟩) n c3)).sl.weak (G:=F) fun k _ h=>HFN.out k (by unfold From at h;omega)
  have hrl:=row_last (v:=.slice E5 (m1+1) c5) (by rw[HR0.out.len,HGD.out]) (HR0.out.all fun g cs h=>GrpV.len g cs (GrpVF.grp g cs h)) (by rw[←HN1.out];exact HTK.out);rw[←HN1.out]at hrl;have hs7:=Sl.of_row bA7 (HFN.out gr (by omega)) 2 n c3 hnc3 (by unfold maxLen;omega) (by simp;omega);rw[hrl]at hs7;refine⟨_,_,_,rfl,⟨_,hs7,(HR0.out.mono (GrpVF.kp k7)).app (RelL.one ⟨E5,m1+1,c5,rfl,⟨ess++[[.int .i64 ed.at_,.slice B m d,.slice C p q]],?_,(HR1.out.mono (EdVF.kp k7)).app (RelL.one ⟨B,m,d,C,p,q,rfl,hB.kp k7,hC.kp k7⟩),by simp[HM.out]⟩⟩),by simp[HGD.out,HN1.out]⟩,k7⟩;rw[List.flatten_append];simpa using o7
theorem infoRus:(Tryz.prog.info? 41).map (·.size)=some 1:=by
 have h:=vC;rcases hq:Tryz.prog.info? 41 with _|i
 ·rw[hq]at h;simp at h
 ·rw[hq]at h;simp at h;simp[h]
theorem run_copyT {w:World}{F:Nat→Prop}{R:Nat}{L:List Value}(hb:Bx w R L.toArray 41)(D:Option Addr)(d n dc:Nat)(A:Option Addr)(m sc k kc:Nat)(xs:List Value)(hx:Sl w F 1 A k kc xs)(h1:∀u∈xs,u.oneCell'=true)(hk:Nat.min m n=k)
 (hD:0<k→D=some ⟨R,d,none⟩)(hfit:d+k≤L.length)(ty:TypeId):
 (Builtin.copy_ #[37,37] ty #[.slice D n dc,.slice A m sc]).run Tryz.prog w=.ok (.int .i64 (k:Int)) (w.setRow R (putL L d xs).toArray):=by
 have hlen:=hx.len;rcases Nat.eq_zero_or_pos k with h0|h0
 ·subst h0
  obtain rfl:xs=[]:=List.eq_nil_of_length_eq_zero (by simpa using hlen);rw[putL_nil,setRow_self w R _ _ _ hb];exact run_copy_none w _ _ _ 41 D A n dc m sc Tryz.underlying37 infoRus hk
 ·obtain rfl:=hD h0
  obtain⟨a,rfl,_,_,hc⟩:=hx.at_ h0;have h:=run_copy_row (P:=Tryz.prog) w 37 37 ty 41 R d n dc a m sc L.toArray 41 xs Tryz.underlying37 infoRus hb (by rw[hk];simpa using hlen) hc (by simp;omega) h1;rw[h];have e:xs.length=k:=by simpa using hlen
  rw[e];unfold putL;rw[e];rfl
theorem xQ {w:World}{ops:Array Oper}{rest:List Oper}{o:Oper}{a:Act}{Q:Exit→Act→World→Prop}(hgd:o.guard=none)(d s:Operand)
 (ho:o.op=.call {callee:=.builtin .copy,args:=#[d,s],argTypes:=#[37,37]}){F:Nat→Prop}{R:Nat}{L:List Value}(hb:Bx w R L.toArray 41)(D:Option Addr)(d0 n dc:Nat)(A:Option Addr)(m sc k kc:Nat)(xs:List Value)
 (hd:a.eval d=.slice D n dc)(hs:a.eval s=.slice A m sc)(hx:Sl w F 1 A k kc xs)(h1:∀u∈xs,u.oneCell'=true)(hk:Nat.min m n=k)(hD:0<k→D=some ⟨R,d0,none⟩)(hfit:d0+k≤L.length)
 (h:∀w',Bx w' R (putL L d0 xs).toArray 41→Mu (fun k=>k=R) w w'→wpList Tryz.prog ops Q rest (a.put o.dst (.int .i64 (k:Int))) w'):wpList Tryz.prog ops Q (o::rest) a w:=by
 refine wpList_plain hgd fun K hK=>?_
 have hrun:=run_copyT hb D d0 n dc A m sc k kc xs hx h1 hk hD hfit o.type;unfold Oper.wp;simp[execOp,ho,resolve,invoke,builtin,hd,hs,hrun,Result.andThen];exact hK _ _ (h _ (hb.setRow _) (mu_setRow _))
def RetIns (base:Nat)(x:Value)(vs:List Value)(n:Nat)(A:Option Addr)(w:World)(e:Ending)(w':World):Prop:=
 ∃A' c',e=.returned (.slice A' (n+1) c')∧Own w' base 41 1 A' (n+1) c' (x::vs)∧Mu (fun k=>zB A=some k) w w'
theorem own_of_bx {w:World}{base R n c:Nat}{L xs:List Value}(hb:Bx w R L.toArray 41)(hB:base≤R)(hn:n≤c)(hc:c≤maxLen)(hl:L.length=c)(hx:L.take n=xs)(hxl:xs.length=n):Own w base 41 1 (some ⟨R,0,none⟩) n c xs:=
 ⟨by rw[hxl,Nat.mul_one],.inr ⟨R,c,L.toArray,rfl,hB,hb,hn,hc,by simp[hl],by rw[Nat.mul_one];exact hx⟩⟩
theorem insert_nil (base vb c:Nat)(A:Option Addr)(x:Value)(w:World)(hs:Own w base 41 1 A 0 c [])(hb:base≤w.heap.size)(hv:Bx w vb #[x] 41)(h1:x.oneCell'=true):
 Calls Tryz.prog 185 #[.slice A 0 c,.int .i64 0,.slice (some ⟨vb,0,none⟩) 1 1] w (RetIns base x [] 0 A w):=by
 have hcap:=hs.cap;unfold maxLen at hcap;obtain⟨HX,HS,H1⟩:=hid3 (show Sl w Any 1 (some ⟨vb,0,none⟩) 1 1 [x]from by simpa using Sl.of_bxF (F:=Any) hv trivial 1 1 rfl (by omega)) hs (show∀u∈[x],u.oneCell'=true by simpa using h1);clear hs hv h1;go_enter Tryz.func185,Tryz.ntmps185;go_wp2_with (at_builtin;refine zA _ rfl _ _ _ rfl base 41 _ 1 24 Tryz.underlying37 vC rfl (by omega) A 0 c [] rfl HS.out Any (some ⟨vb,0,none⟩) 1 1 [x] rfl HX.out H1.out (by simp only[maxLen];omega) (by omega) hb ?_;intro A4 c4 w4 hown4 hg4 hat4);go_ret;refine⟨A4,c4,rfl,by simpa using hown4,hg4.os,hg4.tape,hg4.output,hg4.size,fun k hk hS=>hg4.block k hk (fun e=>hS e.symm)⟩
theorem putL_two {L vs:List Value}{x:Value}:(putL (putL L 0 [x]) 1 vs).take (vs.length+1)=x::vs:=by
 have e:putL L 0 [x]=x::L.drop 1:=by unfold putL;simp
 rw[e];unfold putL;simp
theorem putL_two' {L vs:List Value}{x:Value}(h:vs.length+1≤L.length):(putL (putL L 1 vs) 0 [x]).take (vs.length+1)=x::vs:=by
 unfold putL;simp;rcases L with _|⟨a,L⟩
 ·simp at h
 ·simp
theorem insert_grow (base vb n c:Nat)(A:Option Addr)(x:Value)(vs:List Value)(w:World)(hs:Own w base 41 1 A n c vs)(hb:base≤w.heap.size)(hv:Bx w vb #[x] 41)(h1:x.oneCell'=true)(h1s:∀u∈vs,u.oneCell'=true)(hn0:0<n)(hn:n≤100000)(hc:c<n+1):
 Calls Tryz.prog 185 #[.slice A n c,.int .i64 0,.slice (some ⟨vb,0,none⟩) 1 1] w (RetIns base x vs n A w):=by
 obtain⟨g,cur,rfl,hbg,hbx,hnc,hcm,hcs,htk⟩:=hs.row hn0;have hvl:=hs.len;unfold maxLen at hcm;obtain⟨m,hm⟩:∃m,m=n+1:=⟨_,rfl⟩;have e1:(n:Int)+1=(m:Int):=by omega
 have hmc:c<m:=by omega
 have q1:((n:Int)==0)=false:=by simp;omega
 have q1':((0:Int)==(n:Int))=false:=by simp;omega
 have q2:(m:Int)>(c:Int):=by omega
 have hc0:¬(c=0):=by omega
 have hm0:0<m:=by omega
 obtain⟨i0,hi,hzz⟩:=Option.map_eq_some_iff.1 vC;simp only[Prod.mk.injEq]at hzz;obtain⟨hz0,hz1,hz2⟩:=hzz;have hnx:=nextslicecap_le (need:=m) (old:=c) hmc;have happ:=Lib.run_append_grow_zeros (P:=Tryz.prog) w 37 3 37 41 i0 (.slice none 0 0) .i64 .i64 Tryz.underlying37 Tryz.underlying3 hi hz0 (some ⟨g,0,none⟩) 0 c [] (by simp[Builtin.firstCells];kernel_rfl) m hm0 (by omega) (by omega) (by omega) (by rw[hz2];omega) (by rw[hz2,Nat.zero_add];omega);have hcapge:=grownCap_ge w (0+m) c 41;have hcaple:grownCap w (0+m) c 41≤maxLen:=grownCap_le_maxLen w _ c _ (by unfold maxLen;omega);obtain⟨Z,hZ⟩:∃Z,Z=(([]:List Value).toArray++Builtin.zeroCells (Value.slice none 0 0).cells m++Builtin.zeroCells (Value.slice none 0 0).cells (grownCap w (0+m) c 41 - (0+m))):=⟨_,rfl⟩;rw[←hZ]at happ;rw[Nat.zero_add]at happ hcapge hcaple;simp only[Nat.zero_add]at hZ;generalize grownCap w m c 41=cap2 at *;have hZs:Z.size=cap2:=by rw[hZ];simp[size_zeroCells,Value.cells];omega
 have hcap20:¬(cap2=0):=by omega
 have hcap21:¬(cap2=1):=by omega
 have h1cap:1≤cap2:=by omega
 have h1m:1≤m:=by omega
 have hm00:¬(m=0):=by omega
 have hm1i:(1:Int)≤(m:Int):=by omega
 have hm1l:¬((m:Int)<1):=by omega
 have hc1l:1<cap2:=by omega
 have hc1n:¬(cap2≤1):=by omega
 have hn00:¬(n=0):=by omega
 have hnm1:m - 1=n:=by omega
 unfold maxLen at hcaple;obtain⟨HHB,HV,HS⟩:=hid3 hbx hv (show Sl w Any 1 (some ⟨g,0,none⟩) n c vs from hs.sl.any);have HSG:=hid (show Sl w (fun k=>k=g) 1 (some ⟨g,0,none⟩) n c vs from by
  have:=Sl.of_row (F:=fun k=>k=g) hbx rfl 1 n c hnc (by unfold maxLen;omega) (by omega);rw[htk]at this;exact this)
 obtain⟨HX,H1,H1S,HZS,HM,HNM,HVL⟩:=hid7 (show Sl w Any 1 (some ⟨vb,0,none⟩) 1 1 [x]from by simpa using Sl.of_bxF (F:=Any) hv trivial 1 1 rfl (by omega)) (show∀u∈[x],u.oneCell'=true by simpa using h1) h1s hZs hm hnm1 (show vs.length=n by simpa using hvl);clear hs hv hbx h1 h1s hZ hZs hm hnm1 hi hz0 hz1 hz2 hcs htk hvl;go_enter Tryz.func185,Tryz.ntmps185;go_upto_region 10 with(at_builtin;refine Lib.wpList_append_run _ rfl _ _ _ _ rfl _ _ rfl rfl _ _ happ ?_);have k1:Kp w ((w.alloc (.cells Z 41)).drew):=((Kp.refl w).alloc _).drew;have bz:=Bx.drew (Bx.new w Z 41);obtain⟨R2,hR2⟩:∃R2,R2=w.heap.size:=⟨_,rfl⟩;rw[←hR2]at bz⊢;obtain⟨HRB,HK1,HX1,HS1,HRW⟩:=hid5 (show base≤R2 by omega) k1 (HX.out.kp k1) (HS.out.kp k1) (show w.heap.size≤R2 by omega);clear happ k1 hR2;generalize((w.alloc (.cells Z 41)).drew)=w1 at *;obtain⟨L,hL⟩:∃L,L=Z.toList:=⟨_,rfl⟩;have hbz:Bx w1 R2 L.toArray 41:=by rw[hL];simpa using bz
 obtain⟨HL,HBZ⟩:=hid2 (show L.length=cap2 by rw[hL];simpa using HZS.out) hbz;have hcL:cap2=cap2:=rfl;clear bz hL hbz hcL;go_upto_region 11 with(refine xQ rfl _ _ rfl HBZ.out (some ⟨R2,0,none⟩) 0 m cap2 (some ⟨vb,0,none⟩) 1 1 1 1 [x] rfl rfl HX1.out H1.out (Nat.min_eq_left h1m) (fun _=>rfl) (by have:=HL.out;omega) ?_;intro w2 b2 m2);have hlen2:(putL L 0 [x]).length=cap2:=by rw[putL_len _ _ _ (by have:=HL.out;simp;omega)];exact HL.out
 have hgR:g≠R2:=by have:=HHB.out.lt;have:=HRW.out;omega
 have HS2:=hid (show Sl w2 Any 1 (some ⟨g,0,none⟩) n c vs from by
  have h:=Sl.weak (G:=fun k=>k=g) HSG.out (fun _ _ h=>h);exact(Mu.sl m2 (Sl.kp h HK1.out) (fun k e1 e2=>hgR (e1.symm.trans e2))).any)
 obtain⟨HM2,HB2,HLL⟩:=hid3 m2 b2 hlen2;clear m2 b2 hlen2;have hw1:IntKind.i64.wrap 1=1:=by rw[IntKind.wrap_i64];rfl
 go_still_tail 8,(by kernel_rfl);change wpList _ _ _ _ _ w2.drew;go_upto_region 12 with(refine xQ rfl _ _ rfl (Bx.drew HB2.out) (some ⟨R2,1,none⟩) 1 (m - 1) (cap2 - 1) (some ⟨g,0,none⟩) n c n c vs rfl rfl (Sl.drew HS2.out) H1S.out (by rw[HNM.out];exact Nat.min_self n) (fun _=>rfl) (by have:=HLL.out;omega) ?_;intro w3 b3 m3);obtain⟨HM3,HB3⟩:=hid2 (Mu.of_drew m3) b3;clear m3 b3;go_wp2_with fail;go_ret;have hlen3:(putL (putL L 0 [x]) 1 vs).length=cap2:=by rw[putL_len _ _ _ (by have:=HLL.out;have:=HVL.out;omega)];exact HLL.out
 have ht:(putL (putL L 0 [x]) 1 vs).take (n+1)=x::vs:=by rw[←HVL.out];exact putL_two
 obtain rfl:=HM.out;refine⟨some ⟨R2,0,none⟩,cap2,rfl,own_of_bx HB3.out HRB.out (by omega) (by unfold maxLen;omega) hlen3 ht (by rw[List.length_cons,HVL.out]),?_⟩
 ·have h5:=HK1.out
  refine⟨HM3.out.os.trans (HM2.out.os.trans h5.os),HM3.out.tape.trans (HM2.out.tape.trans h5.tape),HM3.out.output.trans (HM2.out.output.trans h5.output),Nat.le_trans h5.size (Nat.le_trans HM2.out.size HM3.out.size),fun k hk _=>?_⟩;have hne:¬(k=R2):=by have:=HRW.out;omega
  exact(HM3.out.block k (Nat.lt_of_lt_of_le hk (Nat.le_trans h5.size HM2.out.size)) hne).trans ((HM2.out.block k (Nat.lt_of_lt_of_le hk h5.size) hne).trans (h5.block k hk))
theorem callFunc_overlaps (w:World)(vb g n c:Nat)(hne:vb≠g)(tA tB:TypeId)(kA kB:Nat)(hsa:w.shape? vb=some (tA,kA))(hsb:w.shape? g=some (tB,kB))(hkB:kB≠0)(hfa:w.frozen? ⟨vb,0,none⟩=false)(hfe:w.frozen? ⟨vb,kA,none⟩=false):
 (callFunc 201 #[.slice (some ⟨vb,0,none⟩) 1 1,.slice (some ⟨g,1,none⟩) n c]).run Tryz.prog w=.ok (.value (.bool false)) w:=by
 rw[run_callFunc_extern Tryz.func201 (by kernel_rfl) (by kernel_rfl) (by kernel_rfl) (e:=Extern.SlicesOverlaps.overlaps #[37,37] #[4]) (by kernel_rfl),
  Lib.run_overlaps_apart w 37 4 41 Tryz.underlying37 1 (fun w=>by kernel_rfl) ⟨vb,0,none⟩ ⟨g,1,none⟩ 1 1 n c hne tA tB kA kB hsa hsb hkB hfa hfe]
 rfl
theorem insert_shift (base vb n c:Nat)(A:Option Addr)(x:Value)(vs:List Value)(w:World)(hs:Own w base 41 1 A n c vs)(hv:Bx w vb #[x] 41)(hvA:zB A≠some vb)(h1:x.oneCell'=true)(h1s:∀u∈vs,u.oneCell'=true)(hn0:0<n)(hn:n≤100000)(hc:n+1≤c):
 Calls Tryz.prog 185 #[.slice A n c,.int .i64 0,.slice (some ⟨vb,0,none⟩) 1 1] w (RetIns base x vs n A w):=by
 obtain⟨g,cur,rfl,hbg,hbx,hnc,hcm,hcs,htk⟩:=hs.row hn0;have hvl:=hs.len;have hvg:vb≠g:=fun e=>hvA (by rw[e];rfl)
 unfold maxLen at hcm;obtain⟨m,hm⟩:∃m,m=n+1:=⟨_,rfl⟩;have e1:(n:Int)+1=(m:Int):=by omega
 have hmc:m≤c:=by omega
 have q1:((n:Int)==0)=false:=by simp;omega
 have q1':((0:Int)==(n:Int))=false:=by simp;omega
 have q2:¬((m:Int)>(c:Int)):=by omega
 have hc0:¬(c=0):=by omega
 have hc1l:1<c:=by omega
 have hc1n:¬(c≤1):=by omega
 have hc1e:¬(c=1):=by omega
 have hm0:0<m:=by omega
 have h1m:1≤m:=by omega
 have hm00:¬(m=0):=by omega
 have hm1i:(1:Int)≤(m:Int):=by omega
 have hm1l:¬((m:Int)<1):=by omega
 have hnm1:m - 1=n:=by omega
 obtain⟨L,hL⟩:∃L,L=cur.toList:=⟨_,rfl⟩;have hlc:L.length=c:=by rw[hL];simpa using hcs
 have hbz:Bx w g L.toArray 41:=by rw[hL];simpa using hbx
 have hov:=(callFunc_overlaps w vb g n (c - 1) hvg 41 41 1 c (by unfold World.shape?;unfold Bx at hv;rw[hv];rfl) (by unfold World.shape?;unfold Bx at hbx;rw[hbx];simp[hcs]) (by omega) (hv.frozen 0) (hv.frozen 1));obtain⟨HBZ,HV,HSG,HX,H1,H1S,HM,HNM,HVL⟩:=hid9 hbz hv (show Sl w Any 1 (some ⟨g,0,none⟩) n c vs from hs.sl.any) (show Sl w (fun k=>k=vb) 1 (some ⟨vb,0,none⟩) 1 1 [x]from by simpa using Sl.of_bxF (F:=fun k=>k=vb) hv rfl 1 1 rfl (by omega)) (show∀u∈[x],u.oneCell'=true by simpa using h1) h1s hm hnm1 (show vs.length=n by simpa using hvl);obtain⟨HL,HBG⟩:=hid2 hlc hbg;clear hs hv hbx h1 h1s hm hcs htk hvl hbz hlc hL hvA hbg;go_enter Tryz.func185,Tryz.ntmps185;go_upto_region 15 with fail;have hw1:IntKind.i64.wrap 1=1:=by rw[IntKind.wrap_i64];rfl
 clear hov;go_still_tail 8,(by kernel_rfl);change wpList _ _ _ _ _ w.drew;go_upto_region 16 with(refine xQ rfl _ _ rfl (Bx.drew HBZ.out) (some ⟨g,1,none⟩) 1 n (c - 1) (some ⟨g,0,none⟩) m c n c vs rfl rfl (Sl.drew HSG.out) H1S.out (Nat.min_eq_right (by have:=HM.out;omega)) (fun _=>rfl) (by have:=HL.out;omega) ?_;intro w2 b2 m2);have hlen2:(putL L 1 vs).length=c:=by rw[putL_len _ _ _ (by have:=HL.out;have:=HVL.out;omega)];exact HL.out
 obtain⟨HX2,HM2,HB2,HLL⟩:=hid4 (Mu.sl m2 (Sl.drew HX.out) (fun k e1 e2=>hvg (e1.symm.trans e2))) (Mu.of_drew m2) b2 hlen2;clear m2 b2 hlen2 hw1;go_wp2_with (refine xQ rfl _ _ rfl HB2.out (some ⟨g,0,none⟩) 0 m c (some ⟨vb,0,none⟩) 1 1 1 1 [x] rfl rfl HX2.out H1.out (Nat.min_eq_left h1m) (fun _=>rfl) (by have:=HLL.out;omega) ?_;intro w3 b3 m3);obtain⟨HM3,HB3⟩:=hid2 m3 b3;clear m3 b3;try rw[Exit.noGoto_ret]
 go_ret;have hlen3:(putL (putL L 1 vs) 0 [x]).length=c:=by rw[putL_len _ _ _ (by have:=HLL.out;simp;omega)];exact HLL.out
 have ht:(putL (putL L 1 vs) 0 [x]).take (n+1)=x::vs:=by rw[←HVL.out];exact putL_two' (by have:=HL.out;have:=HVL.out;omega)
 obtain rfl:=HM.out;refine⟨some ⟨g,0,none⟩,c,rfl,own_of_bx HB3.out HBG.out hmc (by unfold maxLen;omega) hlen3 ht (by rw[List.length_cons,HVL.out]),?_⟩;exact(HM2.out.weak (S':=fun k=>zB (some (⟨g,0,none⟩:Addr))=some k) (fun k _ e=>by rw[e];rfl)).trans HM3.out (fun k _ e=>by rw[e];rfl)
end Go.Proofs.YtociefdcccokjaaGreat

/-
  Lemmas for TopMacro. Conditions: each states its own.
-/
import Derived.OrdersHeld
import Derived.StillTail
import Derived.RegionTactic
import Derived.Deep.RegionHeld3
import Derived.KernelRfl
import Derived.Test.YtociefdcccokjaaGreatG25
set_option maxHeartbeats 6400000
set_option maxRecDepth 100000
namespace Go.Proofs.YtociefdcccokjaaGreat
open Go.RowKit Go.Lib
section
open Go
section
variable {P:Program}{ops:Array Oper}{Q:Exit→Act→World→Prop}{md:Region.Mode}{S:World→Prop}{n:Nat}
def xK (P:Program)(md:Region.Mode)(ops:Array Oper)(Q:Exit→Act→World→Prop)(S:World→Prop)(n:Nat):Nat→Array Bool→Act→World→Prop
 |0,listed,a,w=>Region.ready md ops listed=[]∧Q .normal a w
 |fuel+1,listed,a,w=>
  (Region.ready md ops listed=[]→Q .normal a w)∧
  ∀i∈Region.ready md ops listed,wpOp P ops Q i (fun a' w'=>(i<n→S w')∧xK P md ops Q S n fuel (listed.setIfInBounds i true) a' w') a w
theorem wpAny_of_T:∀(fuel:Nat) (listed:Array Bool) (a:Act) (w:World),xK P md ops Q S n fuel listed a w→wpAny P md ops Q fuel listed a w
 |0,_,_,_,h=>h
 |fuel+1,_,_,_,h=>⟨h.1,fun i hi=>wpOp_mono (fun a' w' h'=>wpAny_of_T fuel _ a' w' h'.2) (h.2 i hi)⟩
theorem wpAnyT_first {i:Nat}{oi:Oper}{v:Value}(hi:ops[i]? =some oi)(hsel:∀(j:Nat) (o:Oper) cs b,ops[j]? =some o→o.op≠.select cs b)
 (hQ:∀c a w,Q (.panic c) (a.put oi.dst v) w→Q (.panic c) a w)(hs:Region.sinkB md ops n=true)(hc:Region.chainB md ops n=true)(hn:n<ops.size)(hin:i<n):
 ∀(fuel:Nat) (listed:Array Bool) (a:Act) (w:World),HeadInv md ops n listed→
  (∀j oj,ops[j]? =some oj→j≠i→listed.getD j true=false→(∀e∈oj.after,Region.binds md e=true→e.on≠i)→oi.apart ops oj=true)→
  i∈Region.ready md ops listed→YieldsIf P ops S oi v a→S w→
  xK P md ops Q S n fuel (listed.setIfInBounds i true) (a.put oi.dst v) w→xK P md ops Q S n (fuel+1) listed a w:=by
 intro fuel
 induction fuel with
 |zero=>
  intro listed a w inv _ hr hy hS H;refine⟨fun h=>(by rw[h]at hr;cases hr),fun j hj=>?_⟩;by_cases hji:j=i
  ·subst hji;exact hy.wpOp hi hS ⟨fun _=>hS,H⟩
  ·have:=ready_mono hj hji
   rw[H.1]at this;cases this
 |succ fuel ih=>
  intro listed a w inv hfree hr hy hS H;refine⟨fun h=>(by rw[h]at hr;cases hr),fun j hj=>?_⟩;have hun:=(mem_ready.1 hr).1;have hjn:j<n:=by
   rcases Nat.lt_or_ge j n with h|h
   ·exact h
   ·exact absurd hj (tail_waits hs hc hn inv _ i rfl hin hun j h)
  by_cases hji:j=i
  ·subst hji;exact hy.wpOp hi hS ⟨fun _=>hS,H⟩
  ·have h1:=H.2 j (ready_mono hj hji)
   obtain⟨hjun,oj,hoj,hall⟩:=mem_ready.1 hj;have hnot:∀e∈oj.after,Region.binds md e=true→e.on≠i:=fun e he hb heq=>by
    have h1:=hall e he hb;rw[heq,getD_both hun]at h1;cases h1
   have h2:=wpOp_putIf hoj (hfree j oj hoj hji hjun hnot) (fun cs b=>hsel i oi cs b hi) (fun cs b=>hsel j oj cs b hoj) hQ hy h1;have hfree':∀k ok,ops[k]? =some ok→k≠i→(listed.setIfInBounds j true).getD k true=false→
    (∀e∈ok.after,Region.binds md e=true→e.on≠i)→oi.apart ops ok=true:=fun k ok hk hki hun' hno=>by
    refine hfree k ok hk hki ?_ hno;by_cases hjk:j=k
    ·subst hjk;exact hjun
    ·rw[getD_set_ne true hjk]at hun';exact hun'
   refine wpOp_mono (fun a' w' h3=>⟨fun _=>h3.2.1 hjn,ih (listed.setIfInBounds j true) a' w' (inv.set hj hjn) hfree' (ready_mono hr (Ne.symm hji)) h3.1 (h3.2.1 hjn) ?_⟩) h2;rw[Array.setIfInBounds_comm _ _ hji];exact h3.2.2
def TI (md:Region.Mode)(ops:Array Oper)(n:Nat)(listed:Array Bool):Prop:=
 Region.noSelect ops=true∧Region.sinkB md ops n=true∧Region.chainB md ops n=true∧n<ops.size∧HeadInv md ops n listed
theorem yJ {i:Nat}{oi:Oper}{v:Value}{fuel:Nat}{listed:Array Bool}{a:Act}{w:World}(inv:TI md ops n listed)(hi:ops[i]? =some oi)(hin:i<n)
 (hf:Region.free md ops listed i=true)(hr:(Region.ready md ops listed).contains i=true)
 (hQ:∀c a w,Q (.panic c) (a.put oi.dst v) w→Q (.panic c) a w)(hS:S w)(hy:YieldsIf P ops S oi v a)
 (h:TI md ops n (listed.setIfInBounds i true)→xK P md ops Q S n fuel (listed.setIfInBounds i true) (a.put oi.dst v) w):xK P md ops Q S n (fuel+1) listed a w:=
 wpAnyT_first hi (Region.noSelect_spec inv.1) hQ inv.2.1 inv.2.2.1 inv.2.2.2.1 hin fuel listed a w inv.2.2.2.2 (Region.free_spec hi hf) (by simpa using hr) hy hS
  (h ⟨inv.1,inv.2.1,inv.2.2.1,inv.2.2.2.1,inv.2.2.2.2.set (by simpa using hr) hin⟩)
theorem wpAnyT_one {i:Nat}{oi:Oper}{fuel:Nat}{listed:Array Bool}{a:Act}{w:World}(inv:TI md ops n listed)(hr:Region.ready md ops listed=[i])(hin:i<n)(hi:ops[i]? =some oi)
 (h:∀K:Act→World→Prop,(∀a' w',S w'→(TI md ops n (listed.setIfInBounds i true)→xK P md ops Q S n fuel (listed.setIfInBounds i true) a' w')→K a' w')→
  if Region.wanted oi (yielded ops a.tmps)=true then Oper.wp P oi a w K Q else K (a.put oi.dst undef) w):xK P md ops Q S n (fuel+1) listed a w:=by
 refine⟨fun h0=>(by rw[h0]at hr;cases hr),fun j hj=>?_⟩;rw[hr]at hj;obtain rfl:j=i:=by simpa using hj
 exact wpOp_step hi fun K hK=>h K fun a' w' hS h'=>hK a' w' ⟨fun _=>hS,h' ⟨inv.1,inv.2.1,inv.2.2.1,inv.2.2.2.1,inv.2.2.2.2.set (by rw[hr];simp) hin⟩⟩
theorem wpAnyT_last {oi:Oper}{fuel:Nat}{listed:Array Bool}{a:Act}{w:World}(hr:Region.ready md ops listed=[n])(hi:ops[n]? =some oi)(hr':Region.ready md ops (listed.setIfInBounds n true)=[])
 (h:∀K:Act→World→Prop,(∀a' w',Q .normal a' w'→K a' w')→
  if Region.wanted oi (yielded ops a.tmps)=true then Oper.wp P oi a w K Q else K (a.put oi.dst undef) w):xK P md ops Q S n (fuel+1) listed a w:=by
 refine⟨fun h0=>(by rw[h0]at hr;cases hr),fun j hj=>?_⟩;rw[hr]at hj;obtain rfl:j=n:=by simpa using hj
 refine wpOp_step hi fun K hK=>h K fun a' w' hq=>hK a' w' ⟨fun h=>absurd h (Nat.lt_irrefl _),?_⟩
 cases fuel with
 |zero=>exact⟨hr',hq⟩
 |succ f=>exact⟨fun _=>hq,by rw[hr'];simp⟩
theorem yI {id:Nat}{a:Act}{w:World}(S:World→Prop)(n:Nat)(hm:P.follows .mixedOrders=true)(hB:(Region.noSelect ops&&decide (n<ops.size)&&Region.sinkB .any ops n&&Region.chainB .any ops n)=true)
 (h:TI .any ops n (Array.replicate ops.size false)→xK P .any ops Q S n ops.size (Array.replicate ops.size false) a w.drew):(Code.region id ops true).wp P Q a w:=by
 simp only[Bool.and_eq_true,decide_eq_true_eq]at hB;obtain⟨⟨⟨h1,h2⟩,h3⟩,h4⟩:=hB;refine wp_region_any hm (wpAny_of_T _ _ _ _ (h ⟨h1,h3,h4,h2,by simp,fun j oj _ hl=>?_,fun t _ ht=>?_⟩))
 ·rw[getD_replicate_false]at hl;cases hl
 ·exact getD_in (by simpa using ht) (getD_replicate_false _ _)
theorem xW {o:Oper}{u v:Value}{a:Act}(e:u=v)(h:YieldsIf P ops S o v a):YieldsIf P ops S o u a:=e▸h
theorem yields_mk {o:Oper}{v:Value}{a:Act}(hw:Region.wanted o (yielded ops a.tmps)=true)(h:∀w,S w→(execOp a.eval o).run P w=.ok (.value v) w):YieldsIf P ops S o v a:=.inl ⟨hw,h⟩
end
end
section
variable {P:Program}{ops:Array Oper}{Q:Exit→Act→World→Prop}{md:Region.Mode}{S:World→Prop}{fuel:Nat}{listed:Array Bool}{a:Act}{w:World}
theorem tkH (i:Nat){v:Value}{oi:Oper}(hS:S w)(h:wpAnyH P md ops Q S fuel (listed.setIfInBounds i true) (a.put oi.dst v) w)(hi:ops[i]? =some oi:=by(first|(rw[List.getElem?_toArray];rfl)|rfl))
 (hb:(Region.noSelect ops&&(Region.free md ops listed i&&(Region.ready md ops listed).contains i))=true:=by kernel_rfl)(hw:Region.wanted oi (yielded ops a.tmps)=true:=by rfl)
 (hy:∀w,S w→(execOp a.eval oi).run P w=.ok (.value v) w:=by(intro w hSw;(try dsimp only at hSw);go_simp;try with_reducible rfl))(hQ:∀c a w,Q (.panic c) (a.put oi.dst v) w→Q (.panic c) a w:=by exact fun _ _ _ h=>h):
 wpAnyH P md ops Q S (fuel+1) listed a w:=by
 simp only[Bool.and_eq_true]at hb;exact wpAnyH_take hi hb.1 hb.2.1 hb.2.2 hQ (.inl ⟨hw,hy⟩) hS h
theorem rd1 (i:Nat){o:Oper}(h:∀K':Act→World→Prop,Shut (∀a w,S w→(S w→wpAnyH P md ops Q S fuel (listed.setIfInBounds i true) a w)→K' a w)→if Region.wanted o (yielded ops a.tmps)=true then Oper.wp P o a w K' Q else K' (a.put o.dst undef) w)
 (ho:ops[i]? =some o:=by(first|(rw[List.getElem?_toArray];rfl)|rfl))(hr:Region.ready md ops listed=[i]:=by kernel_rfl):wpAnyH P md ops Q S (fuel+1) listed a w:=wpAnyH_ready hr (by simp) (.cons ho h .nil)
theorem rd2 (i j:Nat){o o':Oper}(h:∀K':Act→World→Prop,Shut (∀a w,S w→(S w→wpAnyH P md ops Q S fuel (listed.setIfInBounds i true) a w)→K' a w)→if Region.wanted o (yielded ops a.tmps)=true then Oper.wp P o a w K' Q else K' (a.put o.dst undef) w)
 (h':∀K':Act→World→Prop,Shut (∀a w,S w→(S w→wpAnyH P md ops Q S fuel (listed.setIfInBounds j true) a w)→K' a w)→if Region.wanted o' (yielded ops a.tmps)=true then Oper.wp P o' a w K' Q else K' (a.put o'.dst undef) w)
 (ho:ops[i]? =some o:=by(first|(rw[List.getElem?_toArray];rfl)|rfl))(ho':ops[j]? =some o':=by(first|(rw[List.getElem?_toArray];rfl)|rfl))(hr:Region.ready md ops listed=[i,j]:=by kernel_rfl):wpAnyH P md ops Q S (fuel+1) listed a w:=wpAnyH_ready hr (by simp) (.cons ho h (.cons ho' h' .nil))
variable {n:Nat}
theorem tkT (i:Nat){v:Value}{oi:Oper}(inv:TI md ops n listed)(hS:S w)(h:TI md ops n (listed.setIfInBounds i true)→xK P md ops Q S n fuel (listed.setIfInBounds i true) (a.put oi.dst v) w)(hi:ops[i]? =some oi:=by(first|(rw[List.getElem?_toArray];rfl)|rfl))(hin:i<n:=by decide)
 (hb:(Region.free md ops listed i&&(Region.ready md ops listed).contains i)=true:=by kernel_rfl)(hw:Region.wanted oi (yielded ops a.tmps)=true:=by rfl)
 (hy:∀w,S w→(execOp a.eval oi).run P w=.ok (.value v) w:=by(intro w hSw;(try dsimp only at hSw);go_simp;try with_reducible rfl))(hQ:∀c a w,Q (.panic c) (a.put oi.dst v) w→Q (.panic c) a w:=by exact fun _ _ _ h=>h):
 xK P md ops Q S n (fuel+1) listed a w:=by
 simp only[Bool.and_eq_true]at hb;exact yJ inv hi hin hb.1 hb.2 hQ hS (.inl ⟨hw,hy⟩) h
theorem onT (i:Nat){o:Oper}(inv:TI md ops n listed)(h:∀K':Act→World→Prop,Shut (∀a w,S w→(TI md ops n (listed.setIfInBounds i true)→xK P md ops Q S n fuel (listed.setIfInBounds i true) a w)→K' a w)→if Region.wanted o (yielded ops a.tmps)=true then Oper.wp P o a w K' Q else K' (a.put o.dst undef) w)
 (ho:ops[i]? =some o:=by(first|(rw[List.getElem?_toArray];rfl)|rfl))(hr:Region.ready md ops listed=[i]:=by kernel_rfl)(hin:i<n:=by decide):xK P md ops Q S n (fuel+1) listed a w:=wpAnyT_one inv hr hin ho h
theorem laT {o:Oper}(h:∀K':Act→World→Prop,Shut (∀a w,Q .normal a w→K' a w)→if Region.wanted o (yielded ops a.tmps)=true then Oper.wp P o a w K' Q else K' (a.put o.dst undef) w)
 (ho:ops[n]? =some o:=by(first|(rw[List.getElem?_toArray];rfl)|rfl))(hr:Region.ready md ops listed=[n]:=by kernel_rfl)(hr':Region.ready md ops (listed.setIfInBounds n true)=[]:=by kernel_rfl):xK P md ops Q S n (fuel+1) listed a w:=wpAnyT_last hr ho hr' h
end
section
variable {D:Nat→Prop}
theorem ringTop_zero (A:Option Addr)(c:Nat)(at_:Int)(w:World):Calls Tryz.prog 113 #[.agg #[.slice A 0 c,.int .i64 at_]] w fun e w'=>e=.returned (.tuple #[.slice none 0 0,.bool false])∧Kp w w':=by
 go_enter Tryz.func113,Tryz.ntmps113;go_wp2;go_ret2;exact⟨rfl,(Kp.refl _).alloc _⟩
section
variable (E X G R g:Nat)(e:EdS)(v:EdL)(T:TM)(wT w:World)(h:EdAt D w E X G R g e v)(hT:TabN wT w g T (Eb E X G R))(j:Nat)(ok:EdOk j e)(hj:j+1≤1000)
include h ok hj
theorem yank_none (ho:e.ring[e.rat.toNat]? =none):Calls Tryz.prog 79 #[.pointer (some ⟨E,0,none⟩)] w (RetE D (j+1) E X G R g (e.yank T) (.tuple #[]) w):=by
 have hres:e.yank T={e with last:=0,bell:=true}:=by unfold EdS.yank;rw[ho]
 rw[hres];have hr0:e.ring=[]∧e.rat=0:=by
  rcases ok.rat1 with hl|hl
  ·rw[List.getElem?_eq_none_iff]at ho;have:=ok.rat0;omega
  ·exact hl
 have hn0:v.rn=0:=by have:=h.2.ring.len;rw[hr0.1]at this;simpa using this.symm
 have p5:w.cell? ⟨E,5,none⟩=some (.slice v.rA v.rn v.rc):=(h.c 5 rfl).1;have p6:w.cell? ⟨E,6,none⟩=some (.int .i64 e.rat):=(h.c 6 rfl).1;rw[hn0]at p5;obtain⟨HTP,HOK,H⟩:=hid3 (fun(wx:World)=>ringTop_zero v.rA v.rc e.rat wx) ((ok.up (k:=j+1) (by omega) hj).run_ 0 e.run true ok.run) h;clear h ok hj ho hres hr0 hn0;go_enter Tryz.func79,Tryz.ntmps79;go_wp2_with fail;refine(HTP.out _).mono ?_;rintro en w1 ⟨rfl,k1⟩;obtain⟨K1,H1⟩:=hid2 k1 (H.out.kp k1);clear k1 HTP p5 p6;obtain⟨p25,g25⟩:w1.cell? ⟨E,25,none⟩=some (.int .i64 e.last)∧w1.frozen? ⟨E,25,none⟩=false:=H1.out.c 25 rfl;have H2:=hid (H1.out.set (e':={e with last:=0}) 25 (.int .i64 0) rfl rfl rfl rfl rfl rfl rfl rfl);have HB:=hid (zO E X G R g _ v _ H2.out);go_wp2_with fail;refine HB.out.mono ?_;rintro en w4 ⟨rfl,h4,m4⟩;obtain⟨H4,M4⟩:=hid2 h4 m4;clear h4 m4;go_wp2_with fail;go_end0;exact⟨rfl,X,G,R,v,H4.out,((EdN.refl (E:=E) (X:=X) (G:=G) (R:=R) K1.out).set 25 _).then_mu (M4.out.weak (S':=Eb E X G R) fun _ _ q=>.inl q),HOK.out⟩
include hT
theorem yank_some (l:List Int)(ho:e.ring[e.rat.toNat]? =some l):Calls Tryz.prog 79 #[.pointer (some ⟨E,0,none⟩)] w (RetE D (j+1) E X G R g (e.yank T) (.tuple #[]) w):=by
 have hres:e.yank T=(fun p:EdS×Bool=>if p.2=true then {p.1 with last:=3}else p.1) (EdS.change T {e with last:=0} e.cursor e.cursor l false):=by unfold EdS.yank;rw[ho]
 obtain⟨t,mk,us,cu,bl,hf⟩:=yX T {e with last:=0} e.cursor e.cursor l false;have hlm:=List.mem_of_getElem? ho;have hll:=ok.rtx l hlm;have hjb:=ok.jb;obtain⟨r,hr⟩:∃r:Nat,e.rat=r:=⟨e.rat.toNat,by have:=ok.rat0;omega⟩;have p5:w.cell? ⟨E,5,none⟩=some (.slice v.rA v.rn v.rc):=(h.c 5 rfl).1;have p6:w.cell? ⟨E,6,none⟩=some (.int .i64 e.rat):=(h.c 6 rfl).1;rw[hr]at p6 ho;rw[Int.toNat_natCast]at ho;have HTP:=hid (fun(wx:World) (kx:Kp w wx)=>ringTop_some _ _ v.rA v.rn v.rc r e.ring l wx (h.2.ring.kp kx) ho (by have:=hll.1;omega));have HCH:=hid (fun(A:Option Addr) (m c:Nat) (w1 wx:World) (h1:EdAt D wx E X G R g {e with last:=0} v) (hi:Ru wx (From w.heap.size) A m c l) (hTx:TabN wT wx g T (Eb E X G R))=>zZ E X G R g {e with last:=0} v (From w.heap.size) T e.cursor e.cursor A m c l false wT wx h1 hTx hi hll.2
  (by have:=Ru.len hi;have:=hll.1;omega) j (ok.run_ 0 e.run e.bell ok.run) hj)
 obtain⟨b2,hb2⟩:∃b,b=(EdS.change T {e with last:=0} e.cursor e.cursor l false).2:=⟨_,rfl⟩;simp only[←hb2]at hres HCH;rw[hf]at hres HCH;obtain⟨ef,hef⟩:∃ef,ef=e.yank T:=⟨_,rfl⟩;rw[←hef];rw[←hef]at hres;obtain⟨HRS,H,HT,HRU⟩:=hid4 hres h hT ok.run;clear h ok hj ho hres hT hlm hll hjb hr hf hb2 hef;go_enter Tryz.func79,Tryz.ntmps79;go_wp2_with fail;refine(HTP.out _ (Kp.refl _)).mono ?_;rintro en w1 ⟨A1,n1,c1,rfl,hl1,k1⟩;obtain⟨K1,H1,HL1⟩:=hid3 k1 (H.out.kp k1) hl1;clear k1 HTP p5 p6 hl1;obtain⟨p25,g25⟩:w1.cell? ⟨E,25,none⟩=some (.int .i64 e.last)∧w1.frozen? ⟨E,25,none⟩=false:=H1.out.c 25 rfl;go_upto_region 4 with fail;obtain⟨H2,N2,HL2⟩:=hid3 (H1.out.set (e':={e with last:=0}) 25 (.int .i64 0) rfl rfl rfl rfl rfl rfl rfl rfl) ((EdN.refl (E:=E) (X:=X) (G:=G) (R:=R) K1.out).set 25 (.int .i64 0)) (Sl.setCell (p:=⟨E,25,none⟩) HL1.out (fun hq=>by have:=H.out.1.lt;unfold From at hq;simp at hq;omega) (.int .i64 0));clear p25 g25 H1 K1 HL1;generalize(w1.setCell ⟨E,25,none⟩ (.int .i64 0))=w2 at *;have p3:w2.cell? ⟨E,3,none⟩=some (.int .i64 e.cursor):=(H2.out.c 3 rfl).1;go_still_tail 12,(by kernel_rfl);change wpList _ _ _ _ _ w2.drew;go_wp2_with fail;refine(HCH.out A1 n1 c1 w2 _ (H2.out.kp (Kp.refl w2).drew) (Sl.kp HL2.out (Kp.refl w2).drew) ((N2.out.tab HT.out).next (Kp.refl w2).drew)).mono ?_;rintro en w3 ⟨rfl,X',G',R',v',h',N',ok'⟩;obtain⟨H3,N3,OK3⟩:=hid3 h' ((N2.out.then_kp (Kp.refl w2).drew).trans N') ok';obtain⟨p25,g25⟩:w3.cell? ⟨E,25,none⟩=some (.int .i64 0)∧w3.frozen? ⟨E,25,none⟩=false:=h'.c 25 rfl;clear h' N' ok' HCH p3;cases b2 with
 |true=>
  have HE2:=hid (show ef={e with tx:=t,mark:=mk,undo:=us,cursor:=cu,bell:=bl,last:=3} by rw[HRS.out];rfl);go_wp2_with fail;go_end0;refine⟨rfl,X',G',R',v',?_,N3.out.set 25 _,?_⟩
  ·rw[HE2.out]
   exact H3.out.set 25 _ rfl rfl rfl rfl rfl rfl rfl rfl
  ·rw[HE2.out]
   exact OK3.out.run_ 3 e.run bl HRU.out
 |false=>
  have HE2:=hid (show ef={e with tx:=t,mark:=mk,undo:=us,cursor:=cu,bell:=bl,last:=0} by rw[HRS.out];rfl);go_wp2_with fail;go_end0;refine⟨rfl,X',G',R',v',?_,N3.out,?_⟩
  ·rw[HE2.out]
   exact H3.out
  ·rw[HE2.out]
   exact OK3.out
theorem yank_any:Calls Tryz.prog 79 #[.pointer (some ⟨E,0,none⟩)] w (RetE D (j+1) E X G R g (e.yank T) (.tuple #[]) w):=by
 cases ho:e.ring[e.rat.toNat]? with
 |none=>exact yank_none E X G R g e v T w h j ok hj ho
 |some l=>exact yank_some E X G R g e v T wT w h hT j ok hj l ho
end
end
end Go.Proofs.YtociefdcccokjaaGreat

/-
  Lemmas for TopMacro. Conditions: each states its own.
-/
import Derived.Maps.OwnOps
import Derived.Carry
import Derived.Test.YtociefdcccokjaaGreatG46
set_option maxHeartbeats 6400000
set_option maxRecDepth 100000
namespace Go.Proofs.YtociefdcccokjaaGreat
open Go.RowKit Go.Lib
section
open Go.RowKit Go.Lib Go.Maps
theorem val_keyF {ka:TypeId}{fs:Array Field}(hu:Tryz.prog.underlying ka=some (.struct fs))(cs:List Value)(hf:(Tryz.prog.keyType ka&&(Value.agg cs.toArray).formed Tryz.prog ka)=true)(hs:∀d,(Tryz.prog.keyLits (d+2) ka cs).isSome=true)(hts:∃q,Tryz.prog.types.size=q+1):∃kl,keyOf Tryz.prog ka (.agg cs.toArray)=some kl:=by
 obtain⟨q,hq⟩:=hts;obtain⟨r,hr⟩:=Option.isSome_iff_exists.1 (hs q);unfold keyOf;simp only[hu];rw[if_pos hf,hq];exact⟨_,by simp only[Value.cells];rw[hr];rfl⟩
theorem valKeyF {V:Value}{cs:List Value}(h:ValF V cs):∃kl,keyOf Tryz.prog 134 V=some kl:=by
 obtain⟨x0,x1,x2,x3,hw,rfl,rfl⟩:=h;exact val_keyF (fs:=Tryz.prog.fieldsOf 134) (by kernel_rfl) [.bool x0,.bool x1,.bool x2,.bool x3] (by kernel_rfl) (keyF [.bool x0,.bool x1,.bool x2,.bool x3] rfl (by
  intro u hu;simp at hu;rcases hu with rfl|rfl|rfl|rfl<;>exact⟨_,rfl⟩)) ⟨_,rfl⟩
def RowF (w:World)(b:Nat):Prop:=∃cs:List Value,Bx w b cs.toArray 209∧cs.length=512∧∀u∈cs,okF u
theorem RowF.new (w:World):RowF (w.alloc (.cells Tryz.zeroCells209 209)) w.heap.size:=by
 have h:(Tryz.zeroCells209).toList=List.replicate 512 (Value.bool false):=by kernel_rfl
 refine⟨(Tryz.zeroCells209).toList,Bx.new w _ _,by rw[h,List.length_replicate],fun u hu=>?_⟩;rw[h]at hu;rw[List.eq_of_mem_replicate hu];exact⟨_,rfl⟩
theorem RowF.kp {w w':World}{b:Nat}(h:RowF w b)(k:Kp w w'):RowF w' b:=by obtain⟨cs,h1,h2⟩:=h;exact⟨cs,h1.kp k,h2⟩
theorem RowF.set {w:World}{b:Nat}(h:RowF w b)(o:Nat){u:Value}(hu:okF u):RowF (w.setCell ⟨b,o,none⟩ u) b:=by
 obtain⟨cs,h1,h2,h3⟩:=h;refine⟨cs.set o u,by have:=h1.set o u;rwa[List.setIfInBounds_toArray]at this,by simpa using h2,fun x hx=>?_⟩;rcases List.mem_or_eq_of_mem_set hx with hx|rfl
 ·exact h3 x hx
 ·exact hu
theorem RowF.at_ {w:World}{b:Nat}(h:RowF w b){o:Nat}(ho:o<512):(∃u,w.cell? ⟨b,o,none⟩=some u)∧w.frozen? ⟨b,o,none⟩=false:=by
 obtain⟨cs,h1,h2,h3⟩:=h;exact⟨⟨cs[o]'(by omega),by rw[h1.cell];simp⟩,h1.frozen o⟩
theorem plainQF (n base tB mB kB eB:Nat)(size:Int)(I:Value)(A:Option Addr)(c nb:Nat)(V:Value)(vs:List Value)(w:World)(hv:ValF V vs)(h:MkF w n base tB mB kB eB nb size I A c)(hn:n≤19999)(hl:nb≤19999):
 Calls Tryz.prog 92 #[.pointer (some ⟨mB,0,none⟩),V] w (RetPl Tryz.prog TyF okF w (n+2) base tB mB kB eB nb size I A):=by
 obtain⟨kl,hkl⟩:=valKeyF hv;obtain⟨x0,x1,x2,x3,hw,rfl,rfl⟩:=hv;have hbase:=h.lt;have hne:=h.ne;have k1:=(Kp.refl w).alloc (.cells #[.bool x0,.bool x1,.bool x2,.bool x3] 134);have h1:=h.kp k1;have bv:=Bx.new w #[.bool x0,.bool x1,.bool x2,.bool x3] 134;have hek:NM Tryz.prog 134 3 (w.alloc (.cells #[.bool x0,.bool x1,.bool x2,.bool x3] 134)).drew eB n nb:=h1.even.mu (S:=fun _=>False) (Mu.of_kp (Kp.refl _).drew) id;obtain⟨m0,m1,m2,_,_,_⟩:=h1.mb.three;obtain⟨cv,β,hlk,hβ⟩:=NM.look hek valKF Tryz.underlying203 Tryz.underlying3 rfl hkl;have v0:=bv.cell 0;have v1:=bv.cell 1;have v2:=bv.cell 2;have v3:=bv.cell 3;simp at v0 v1 v2 v3;obtain⟨H,HW,HBV⟩:=hid3 h hw bv;clear h hw h1 hek bv;cases β with
 |true=>
  obtain⟨x,rfl,hx⟩:=hβ rfl;clear hβ HBV;go_enter Tryz.func92,Tryz.ntmps92;go_upto_region 1 with fail;go_region_held3 (fun w'=>w'.cell? ⟨mB,2,none⟩=some (.map (some eB))∧w'.cell? ⟨w.heap.size,0,none⟩=some (.bool x0)∧w'.cell? ⟨w.heap.size,1,none⟩=some (.bool x1)∧w'.cell? ⟨w.heap.size,2,none⟩=some (.bool x2)∧w'.cell? ⟨w.heap.size,3,none⟩=some (.bool x3)) (first|(with_reducible exact⟨m2,v0,v1,v2,v3⟩)|go_keep) (fail);go_wp2_with fail;go_ret;exact⟨x,nb,A,c,rfl,hx,le_,by omega,(H.out.mono (by omega)).kp k1.drew,.of_kp k1.drew,fun k hk=>.inl hk⟩
 |false=>
  clear hβ;go_enter Tryz.func92,Tryz.ntmps92;go_upto_region 1 with fail;go_region_held3 (fun w'=>w'.cell? ⟨mB,2,none⟩=some (.map (some eB))∧w'.cell? ⟨w.heap.size,0,none⟩=some (.bool x0)∧w'.cell? ⟨w.heap.size,1,none⟩=some (.bool x1)∧w'.cell? ⟨w.heap.size,2,none⟩=some (.bool x2)∧w'.cell? ⟨w.heap.size,3,none⟩=some (.bool x3)) (first|(with_reducible exact⟨m2,v0,v1,v2,v3⟩)|go_keep) (fail);clear hlk;go_wp2_with fail;have hst:RowF (((w.alloc (.cells #[.bool x0,.bool x1,.bool x2,.bool x3] 134)).alloc (.cells Tryz.zeroCells209 209)).drew) (w.heap.size+1):=by
   have:=(RowF.new (w.alloc (.cells #[.bool x0,.bool x1,.bool x2,.bool x3] 134))).kp (Kp.refl _).drew;simpa using this
  have hkS:=(k1.alloc (.cells Tryz.zeroCells209 209)).drew;have hbS:=(HBV.out.alloc (.cells Tryz.zeroCells209 209)).drew;obtain⟨S,hS⟩:∃S,S=w.heap.size:=⟨_,rfl⟩;obtain⟨R,hR⟩:∃R,R=w.heap.size+1:=⟨_,rfl⟩;have HSR:=hid (show w.heap.size≤R∧S≠R∧w.heap.size≤S by omega);rw[←hR]at hst;rw[←hS]at hbS;rw[←hR,←hS];obtain⟨HST,HKS,HBS⟩:=hid3 hst hkS hbS;clear hst hkS hbS hS hR k1 v0 v1 v2 v3 m0 m1 m2 HBV;generalize(((w.alloc (.cells #[.bool x0,.bool x1,.bool x2,.bool x3] 134)).alloc (.cells Tryz.zeroCells209 209)).drew)=w0 at *;go_loopg [20] 128 (fun g iv wr=>∃k:Nat,k+g=128∧iv=.int .i64 k∧Hid (RowF wr R)∧Hid (Kp w wr)∧Hid (Bx wr S #[.bool x0,.bool x1,.bool x2,.bool x3] 134))
  case atStart=>exact⟨0,rfl,rfl,HST.out,HKS.out,HBS.out⟩
  case round=>
   clear HST HKS HBS;obtain⟨k,hk,rfl,hrow,kp,hbv⟩:=hrel;by_cases hlt:k<128
   ·have v0:=hbv.out.cell 0
    have v1:=hbv.out.cell 1;have v2:=hbv.out.cell 2;have v3:=hbv.out.cell 3;simp at v0 v1 v2 v3;have hk0:(0:Int)≤(k:Int):=by omega
    have hk1:(k:Int)<128:=by omega
    obtain⟨⟨u0,a0⟩,f0⟩:=hrow.out.at_ (o:=k*4) (by omega);obtain⟨⟨u1,a1⟩,f1⟩:=hrow.out.at_ (o:=k*4+1) (by omega);obtain⟨⟨u2,a2⟩,f2⟩:=hrow.out.at_ (o:=k*4+2) (by omega);obtain⟨⟨u3,a3⟩,f3⟩:=hrow.out.at_ (o:=k*4+3) (by omega);obtain⟨HR2,HB2,HK2⟩:=hid3 (((((hrow.out.set (k*4) (u:=.bool x0) ⟨x0,rfl⟩).set (k*4+1) (u:=.bool x1) ⟨x1,rfl⟩).set (k*4+2) (u:=.bool x2) ⟨x2,rfl⟩).set (k*4+3) (u:=.bool x3) ⟨x3,rfl⟩)) (((((hbv.out.far (p:=⟨R,k*4,none⟩) HSR.out.2.1 (.bool x0)).far (p:=⟨R,k*4+1,none⟩) HSR.out.2.1 (.bool x1)).far (p:=⟨R,k*4+2,none⟩) HSR.out.2.1 (.bool x2)).far (p:=⟨R,k*4+3,none⟩) HSR.out.2.1 (.bool x3))) (((((kp.out.setCell (p:=⟨R,k*4,none⟩) HSR.out.1 (.bool x0)).setCell (p:=⟨R,k*4+1,none⟩) HSR.out.1 (.bool x1)).setCell (p:=⟨R,k*4+2,none⟩) HSR.out.1 (.bool x2)).setCell (p:=⟨R,k*4+3,none⟩) HSR.out.1 (.bool x3)));go_wp2_with fail;generalize((((wr.setCell ⟨R,k*4,none⟩ (.bool x0)).setCell ⟨R,k*4+1,none⟩ (.bool x1)).setCell ⟨R,k*4+2,none⟩ (.bool x2)).setCell ⟨R,k*4+3,none⟩ (.bool x3))=w2 at *;go_roundg (128 - (k+1))
    case measure=>omega
    case rel=>exact⟨k+1,by omega,by go_num,HR2,HK2,HB2⟩
   ·have hkk:k=128:=by omega
    subst hkk;obtain⟨cs,hb,hcl,hco⟩:=hrow.out;have HCO:=hid hco;clear hlt hrow hco;have hrg:=hb.range0;have hU:=Tryz.underlying209;have hI:(Tryz.prog.info? 209).map (·.size)=some cs.length:=by rw[hcl];kernel_rfl
    have hT:=H.out.kp kp.out;obtain⟨HI,HU,HPL⟩:=hid3 hI hU (placeQF n base tB mB kB eB size I A c nb cs wr hcl HCO.out hT (by omega) (by omega));clear hI hU hcl hb hT;go_upto_region 10 with(first
     |(refine wpList_load_mid (by rfl) 209 (.tmp 7) (by rfl) R 0 (by rfl) cs _ hrg HU.out rfl HI.out ?_)
     |(go_at_call 93;refine HPL.out.mono ?_;rintro e w2 ⟨x,nb2,A2,c2,rfl,hx,hb1,hb2,hT2,hf2,hr2⟩))
    have HB2:=hf2.bx hbv.out (by
     have h1:=H.out.lt;have h2:=HSR.out;rintro(h|h|h|h)
     ·omega
     ·omega
     ·omega
     ·have:=H.out.rl _ h;omega)
    have v0:=HB2.cell 0;have v1:=HB2.cell 1;have v2:=HB2.cell 2;have v3:=HB2.cell 3;simp at v0 v1 v2 v3;obtain⟨m0,m1,m2,_,_,_⟩:=hT2.mb.three;obtain⟨w3,hput,he3,hg3⟩:=NM.put (w:=w2.drew) (x:=x) (nb':=nb2) (hT2.even.mu (S:=fun _=>False) (Mu.of_kp (Kp.refl _).drew) id) valKF Tryz.underlying203 Tryz.underlying3 (by omega) hkl hx le_ (by omega);have hf3:Mu (fun k=>k=eB) w2 w3:=(Mu.of_kp (S:=fun k=>k=eB) (Kp.refl w2).drew).trans (S':=fun k=>k=eB) (.of_grown hg3 fun k hk _=>by cases hk;rfl) fun _ _ h=>h
    have hT3:=hT2.even_put hf3 he3 (Nat.le_succ _);have hB3:=hf3.bx HB2 (by have:=H.out.lt;have:=HSR.out;omega);obtain⟨n0,n1,n2,_,_,_⟩:=hT3.mb.three;have w0':=hB3.cell 0;have w1':=hB3.cell 1;have w2':=hB3.cell 2;have w3':=hB3.cell 3;simp at w0' w1' w2' w3';obtain⟨HT3,HF3,HX⟩:=hid3 hT3 hf3 (And.intro hx (And.intro hb1 hb2));clear he3 hg3 hT2 hT3 hrg hx hb1 hb2 HB2 hf3 hB3;go_region_held3 (fun w'=>w'.cell? ⟨mB,2,none⟩=some (.map (some eB))∧w'.cell? ⟨S,0,none⟩=some (.bool x0)∧w'.cell? ⟨S,1,none⟩=some (.bool x1)∧w'.cell? ⟨S,2,none⟩=some (.bool x2)∧w'.cell? ⟨S,3,none⟩=some (.bool x3)) (first|(with_reducible exact⟨m2,v0,v1,v2,v3⟩)|(with_reducible exact⟨n2,w0',w1',w2',w3'⟩)|go_keep) (fail);go_wp2_with fail;go_ret;exact⟨x,nb2,A2,c2,rfl,HX.out.1,HX.out.2.1,HX.out.2.2,HT3.out.mono (by omega),((Mu.of_kp (S:=TrOwn tB kB eB A) kp.out).trans (S':=TrOwn tB kB eB A) hf2 fun _ _ h=>h).trans (S':=fun k=>k=eB) HF3.out fun k _ h=>.inr (.inr (.inl h)),fun k hk=>(hr2 k hk).imp id fun h=>by have:=kp.out.size;omega⟩
end
section
open Go.RowKit Go.Lib Go.Maps
attribute [local go_sem] run_makeMap
theorem infoIntF:(Tryz.prog.info? 3).map (fun i=>(i.zero,i.size,i.bytes))=some (some (.int .i64 0),1,8):=by kernel_rfl
structure BdF (w wr:World)(s nn q nb:Nat)(IA:Option Addr)(Ic:Nat)(BA:Option Addr)(Bc:Nat):Prop where
 tr:MkF wr nn (s+4) s (s+3) (s+1) (s+2) nb 1114112 (.slice IA q Ic) BA Bc
 ix:∃L:List Nat,Own wr (s+4) 3 1 IA q Ic (L.map fun x:Nat=>Value.int .i64 (x:Int))∧∀x∈L,x<nb
 far:∀k,zB IA=some k→zB BA≠some k
 kp:Kp w wr
section
variable {w wr wx wq w3 w4:World}{s nn n' q nb nb' x:Nat}{IA IA4 BA BA3:Option Addr}{Ic Ic4 Bc Bc3:Nat}
theorem BdF.kp' (h:BdF w wr s nn q nb IA Ic BA Bc)(k:Kp wr wx):BdF w wx s nn q nb IA Ic BA Bc:=by
 obtain⟨L,h1,h2⟩:=h.ix;exact⟨h.tr.kp k,⟨L,h1.kp k,h2⟩,h.far,h.kp.trans k⟩
theorem BdF.rl (h:BdF w wr s nn q nb IA Ic BA Bc):∀k,zB IA=some k→s+4≤k∧k<wr.heap.size:=by obtain⟨L,h1,_⟩:=h.ix;exact h1.lt
theorem BdF.mono (h:BdF w wr s nn q nb IA Ic BA Bc)(hn:nn≤n'):BdF w wr s n' q nb IA Ic BA Bc:=⟨h.tr.mono hn,h.ix,h.far,h.kp⟩
theorem laidQF {xs:List Nat}(st:BdF w wr s nn q nb IA Ic BA Bc)(hs:w.heap.size≤s)(hk:Kp wr wq)(hxs:∀y∈xs,y<nb)(hx:x<nb)
 (hown:Own w4 (s+4) 3 1 IA4 (q+1) Ic4 (xs.map (fun x:Nat=>Value.int .i64 (x:Int))++[.int .i64 (x:Int)]))(hg:wq.grownBy w4 (zB IA))(hat:zB IA4=zB IA∨zB IA4=some wq.heap.size):
 BdF w (w4.setCell ⟨s,1,none⟩ (.slice IA4 (q+1) Ic4)) s nn (q+1) nb IA4 Ic4 BA Bc:=by
 obtain⟨hT,hI,hd,hkp⟩:=st;have hrow:∀k,zB IA=some k→s+4≤k∧k<wr.heap.size:=by obtain⟨L,h1,_⟩:=hI;exact h1.lt
 have f:Mu (fun k=>zB IA=some k∨k=s) wr (w4.setCell ⟨s,1,none⟩ (.slice IA4 (q+1) Ic4)):=
  ((Mu.of_kp (S:=fun k=>zB IA=some k∨k=s) hk).trans (S':=fun k=>zB IA=some k∨k=s) (.of_grown hg fun k hk _=>.inl hk) fun _ _ h=>h).setCell (p:=⟨s,1,none⟩) (.inr rfl) _
 have hlt:=hT.lt;have no:∀k,k<s+4→k≠s→¬(zB IA=some k∨k=s):=by
  rintro k h1 h2 (h|h)
  ·have:=hrow k h;omega
  ·exact h2 h
 obtain⟨cs,hr,hc⟩:=hT.row;refine⟨⟨?_,f.bx hT.mb (no _ (by omega) (by omega)),⟨cs,f.own hr ?_,hc⟩,hT.known.mu f (no _ (by omega) (by omega)),hT.even.mu f (no _ (by omega) (by omega)),⟨hlt.1,hlt.2.1,hlt.2.2.1,hlt.2.2.2.1,Nat.le_trans hlt.2.2.2.2 f.size⟩,hT.ne⟩,⟨xs++[x],?_,?_⟩,?_,?_⟩
 ·exact((hT.tb.kp hk).grown hg fun e=>by have:=hrow _ e;omega).set 1 _
 ·rintro k hk' (h|h)
  ·exact hd k h hk'
  ·have:=hr.lt k hk';omega
 ·rw[List.map_append]
  exact hown.setCell (fun e=>by have:=(hown.lt _ e).1;dsimp only at this;omega) _
 ·intro y hy
  rcases List.mem_append.1 hy with hy|hy
  ·exact hxs y hy
  ·rw[List.mem_singleton]at hy;rw[hy];exact hx
 ·intro k h1 h2
  rcases hat with h|h
  ·exact hd k (h▸h1) h2
  ·rw[h]at h1
   cases h1
   have:=hr.lt _ h2;have:=hk.size;omega
 ·exact f.kp hkp fun k h=>by
   rcases h with h|h
   ·have:=hrow k h;omega
   ·omega
theorem turnQF (st:BdF w wr s nn q nb IA Ic BA Bc)(hs:w.heap.size≤s)(hT:MkF w3 n' (s+4) s (s+3) (s+1) (s+2) nb' 1114112 (.slice IA q Ic) BA3 Bc3)(hb:nb≤nb')(hf:Mu (TrOwn s (s+1) (s+2) BA) wr w3)(hr:∀k,zB BA3=some k→zB BA=some k∨wr.heap.size≤k):
 BdF w w3 s n' q nb' IA Ic BA3 Bc3:=by
 obtain⟨hT0,⟨L,hO,hL⟩,hd,hkp⟩:=st;have h0:=hT0.rl;refine⟨hT,⟨L,hf.own hO ?_,fun x hx=>Nat.lt_of_lt_of_le (hL x hx) hb⟩,?_,hf.kp hkp ?_⟩
 ·rintro k hk (h|h|h|h)
  ·have:=hO.lt k hk;omega
  ·have:=hO.lt k hk;omega
  ·have:=hO.lt k hk;omega
  ·exact hd k hk h
 ·intro k h1 h2
  rcases hr k h2 with h|h
  ·exact hd k h1 h
  ·have:=hO.lt k h1;omega
 ·rintro k (h|h|h|h)
  ·omega
  ·omega
  ·omega
  ·have:=h0 k h;omega
end
theorem begunF (w:World):BdF w ((((w.alloc (.cells #[.int .i64 1114112,.slice none 0 0,.slice none 0 0] 200)).alloc (.map #[] 0)).alloc (.map #[] 0)).alloc (.cells #[.pointer (some ⟨w.heap.size,0,none⟩),.map (some (w.heap.size+1)),.map (some (w.heap.size+2))] 205))
 w.heap.size 0 0 0 none 0 none 0:=by
 obtain⟨w1,h1⟩:∃w1,w1=w.alloc (.cells #[.int .i64 1114112,.slice none 0 0,.slice none 0 0] 200):=⟨_,rfl⟩;obtain⟨w2,h2⟩:∃w2,w2=w1.alloc (.map #[] 0):=⟨_,rfl⟩;obtain⟨w3,h3⟩:∃w3,w3=w2.alloc (.map #[] 0):=⟨_,rfl⟩;have z1:w1.heap.size=w.heap.size+1:=by rw[h1];simp
 have z2:w2.heap.size=w.heap.size+2:=by rw[h2];simp[z1]
 have z3:w3.heap.size=w.heap.size+3:=by rw[h3];simp[z2]
 have b1:=Bx.new w #[.int .i64 1114112,.slice none 0 0,.slice none 0 0] 200;rw[←h1]at b1;have k2:=NM.made w1 Tryz.prog 209 3;have k3:=NM.made w2 Tryz.prog 134 3;have b4:=Bx.new w3 #[.pointer (some ⟨w.heap.size,0,none⟩),.map (some (w.heap.size+1)),.map (some (w.heap.size+2))] 205;rw[←h2,z1]at k2;rw[←h3,z2]at k3;rw[z3]at b4;rw[←h1,←h2,←h3];have p12:Kp w1 w2:=by rw[h2];exact(Kp.refl _).alloc _
 have p23:Kp w2 w3:=by rw[h3];exact(Kp.refl _).alloc _
 have p34:Kp w3 (w3.alloc (.cells #[.pointer (some ⟨w.heap.size,0,none⟩),.map (some (w.heap.size+1)),.map (some (w.heap.size+2))] 205)):=(Kp.refl _).alloc _;have p01:Kp w w1:=by rw[h1];exact(Kp.refl _).alloc _
 refine⟨⟨b1.kp ((p12.trans p23).trans p34),b4,⟨[],Own.nil _ _ _ _,fun u hu=>by simp at hu⟩,(k2.mu (S:=fun _=>False) (.of_kp (p23.trans p34)) id),(k3.mu (S:=fun _=>False) (.of_kp p34) id),⟨by omega,by omega,by omega,by omega,by simp[z3]⟩,⟨by omega,by omega,by omega,by omega,by omega,by omega⟩⟩,⟨[],Own.nil _ _ _ _,fun x hx=>by simp at hx⟩,?_,((p01.trans p12).trans p23).trans p34⟩;intro k hk;cases hk
def RetQF (w:World)(en:Ending)(w':World):Prop:=∃(tB nb nn s:Nat) (IA:Option Addr) (Ic:Nat) (BA:Option Addr) (Bc:Nat),en=.returned (.pointer (some ⟨tB,0,none⟩))∧tB=s∧w.heap.size≤s∧BdF w w' s nn 8704 nb IA Ic BA Bc
theorem own_neF {w:World}{base b size n c:Nat}{e t:TypeId}{A:Option Addr}{xs:List Value}{cs:Array Value}(h:Own w base e size A n c xs)(hb:Bx w b cs t)(he:e≠t):∀k,zB A=some k→k≠b:=by
 rintro k hk rfl;obtain⟨_,h2⟩:=h;rcases h2 with⟨h0,_⟩|⟨g,cap,cur,hv,_,hg,_⟩
 ·cases h0;cases hk
 ·cases hv
  have e1:g=k:=by simpa[zB]using hk
  subst e1;have h3:w.heap[g]? =some (.cells cs t (0,0)):=hb;rw[hg]at h3;cases h3
  exact he rfl
structure BdMF (w wr:World)(s nn q nb:Nat)(IA:Option Addr)(Ic:Nat)(BA:Option Addr)(Bc:Nat)(Z VB:Nat)(zs vs:Array Value):Prop where
 bd:BdF w wr s nn q nb IA Ic BA Bc
 bz:Bx wr Z zs 134
 bv:Bx wr VB vs 134
section
variable {w wr wx wq w3 w4:World}{s nn n' q nb nb' x Z VB:Nat}{IA IA4 BA BA3:Option Addr}{Ic Ic4 Bc Bc3:Nat}{zs vs vs':Array Value}
theorem BdMF.ne (h:BdMF w wr s nn q nb IA Ic BA Bc Z VB zs vs):∀b,(b=Z∨b=VB)→(∀k,zB IA=some k→k≠b)∧(∀k,zB BA=some k→k≠b):=by
 obtain⟨L,h1,_⟩:=h.bd.ix;obtain⟨cs,h2,_⟩:=h.bd.tr.row;rintro b (rfl|rfl)
 ·exact⟨own_neF h1 h.bz (by decide),own_neF h2 h.bz (by decide)⟩
 ·exact⟨own_neF h1 h.bv (by decide),own_neF h2 h.bv (by decide)⟩
theorem BdMF.kp' (h:BdMF w wr s nn q nb IA Ic BA Bc Z VB zs vs)(k:Kp wr wx):BdMF w wx s nn q nb IA Ic BA Bc Z VB zs vs:=⟨h.bd.kp' k,h.bz.kp k,h.bv.kp k⟩
theorem BdMF.mono (h:BdMF w wr s nn q nb IA Ic BA Bc Z VB zs vs)(hn:nn≤n'):BdMF w wr s n' q nb IA Ic BA Bc Z VB zs vs:=⟨h.bd.mono hn,h.bz,h.bv⟩
theorem BdMF.set (h:BdMF w wr s nn q nb IA Ic BA Bc Z VB zs vs)(f:Mu (fun k=>k=VB) wr wx)(hb:Bx wx VB vs' 134)(hV:s+4≤VB)(hs:w.heap.size≤s)(hZ:Z<s):BdMF w wx s nn q nb IA Ic BA Bc Z VB zs vs':=by
 have hne:=h.ne VB (.inr rfl);obtain⟨L,h1,h2⟩:=h.bd.ix;have hl:=h.bd.tr.lt;exact⟨⟨h.bd.tr.mu f (by omega) (by omega) (by omega) (by omega) (fun k hk=>hne.2 k hk),⟨L,f.own h1 (fun k hk=>hne.1 k hk),h2⟩,h.bd.far,f.kp h.bd.kp (fun k hk=>by omega)⟩,f.bx h.bz (by omega),hb⟩
theorem BdMF.farR {R:Nat}(h:BdMF w wr s nn q nb IA Ic BA Bc Z VB zs vs)(f:Mu (fun k=>k=R) wr wx)(hR:s+4≤R)(hI:∀k,zB IA=some k→k≠R)(hB:∀k,zB BA=some k→k≠R)(hV:VB≠R)(hs:w.heap.size≤s)(hZ:Z<s):BdMF w wx s nn q nb IA Ic BA Bc Z VB zs vs:=by
 obtain⟨L,h1,h2⟩:=h.bd.ix;have hl:=h.bd.tr.lt;exact⟨⟨h.bd.tr.mu f (by omega) (by omega) (by omega) (by omega) (fun k hk=>hB k hk),⟨L,f.own h1 (fun k hk=>hI k hk),h2⟩,h.bd.far,f.kp h.bd.kp (fun k hk=>by omega)⟩,f.bx h.bz (by omega),f.bx h.bv hV⟩
theorem RowF.mu {S:Nat→Prop}{b:Nat}(h:RowF w b)(f:Mu S w wx)(hb:¬S b):RowF wx b:=by
 obtain⟨cs,h1,h2⟩:=h;exact⟨cs,f.bx h1 hb,h2⟩
theorem laidMF {xs:List Nat}(st:BdMF w wr s nn q nb IA Ic BA Bc Z VB zs vs)(hs:w.heap.size≤s)(hV:s+4≤VB)(hZ:Z<s)(hk:Kp wr wq)(hxs:∀y∈xs,y<nb)(hx:x<nb)
 (hown:Own w4 (s+4) 3 1 IA4 (q+1) Ic4 (xs.map (fun x:Nat=>Value.int .i64 (x:Int))++[.int .i64 (x:Int)]))(hg:wq.grownBy w4 (zB IA))(hat:zB IA4=zB IA∨zB IA4=some wq.heap.size):
 BdMF w (w4.setCell ⟨s,1,none⟩ (.slice IA4 (q+1) Ic4)) s nn (q+1) nb IA4 Ic4 BA Bc Z VB zs vs:=
 ⟨laidQF st.bd hs hk hxs hx hown hg hat,((st.bz.kp hk).grown hg fun e=>(st.ne Z (.inl rfl)).1 _ e rfl).far (p:=⟨s,1,none⟩) (by show Z≠s;omega) _,((st.bv.kp hk).grown hg fun e=>(st.ne VB (.inr rfl)).1 _ e rfl).far (p:=⟨s,1,none⟩) (by show VB≠s;omega) _⟩
theorem turnMF (st:BdMF w wr s nn q nb IA Ic BA Bc Z VB zs vs)(hs:w.heap.size≤s)(hV:s+4≤VB)(hZ:Z<s)(hT:MkF w3 n' (s+4) s (s+3) (s+1) (s+2) nb' 1114112 (.slice IA q Ic) BA3 Bc3)(hb:nb≤nb')(hf:Mu (TrOwn s (s+1) (s+2) BA) wr w3)(hr:∀k,zB BA3=some k→zB BA=some k∨wr.heap.size≤k):
 BdMF w w3 s n' q nb' IA Ic BA3 Bc3 Z VB zs vs:=
 ⟨turnQF st.bd hs hT hb hf hr,hf.bx st.bz (by
  rintro(h|h|h|h)
  ·omega
  ·omega
  ·omega
  ·exact(st.ne Z (.inl rfl)).2 _ h rfl),hf.bx st.bv (by
  rintro(h|h|h|h)
  ·omega
  ·omega
  ·omega
  ·exact(st.ne VB (.inr rfl)).2 _ h rfl)⟩
end
theorem buildQF (A:Option Addr)(n c:Nat)(Z:Value)(zs:List Value)(w:World)(hP:PcWF w A n c)(hz:ValF Z zs)(hn:n≤1099511627776):
 Calls Tryz.prog 50 #[.int .i64 1114112,Z,.slice A n c] w (RetQF w):=by
 have HFIND:Hid (∀(wx:World) (i:Int),Kp w wx→Calls Tryz.prog 91 #[.slice A n c,Z,.int .i64 i,.int .i64 1114111] wx (RetFindF wx)):=fun wx i k=>findQF A n c Z zs i 1114111 wx (hP.kp k) hz hn
 obtain⟨z0,z1,z2,z3,hw0,rfl,rfl⟩:=hz;clear hw0;have kz:=(Kp.refl w).alloc (.cells #[.bool z0,.bool z1,.bool z2,.bool z3] 134);have bz:=Bx.new w #[.bool z0,.bool z1,.bool z2,.bool z3] 134;have sb:=begunF (w.alloc (.cells #[.bool z0,.bool z1,.bool z2,.bool z3] 134));have st0:BdF w _ _ _ _ _ _ _ _ _:=⟨sb.tr,sb.ix,sb.far,kz.trans sb.kp⟩;have bz0:=bz.kp sb.kp;have hsz:(w.alloc (.cells #[.bool z0,.bool z1,.bool z2,.bool z3] 134)).heap.size=w.heap.size+1:=by simp
 rw[hsz]at st0 bz0;obtain⟨s,hs⟩:∃s,s=w.heap.size+1:=⟨_,rfl⟩;obtain⟨ZB,hZB⟩:∃ZB,ZB=w.heap.size:=⟨_,rfl⟩;have HS:=hid (show w.heap.size≤s∧ZB<s by omega);clear sb kz bz hsz hP;go_enter Tryz.func50,Tryz.ntmps50;go_upto_region 5 with fail;rw[←hs]at st0 bz0;rw[←hZB]at bz0;rw[←hs,←hZB];clear hs hZB;generalize(((((w.alloc (.cells #[.bool z0,.bool z1,.bool z2,.bool z3] 134)).alloc (.cells #[.int .i64 1114112,.slice none 0 0,.slice none 0 0] 200)).alloc (.map #[] 0)).alloc (.map #[] 0)).alloc (.cells #[.pointer (some ⟨s,0,none⟩),.map (some (s+1)),.map (some (s+2))] 205))=w0 at *;have z0':=bz0.cell 0;have z1':=bz0.cell 1;have z2':=bz0.cell 2;have z3':=bz0.cell 3;simp at z0' z1' z2' z3';go_upto_region 6 with(go_at_call 91;refine(HFIND.out w0 0 st0.kp).mono ?_;rintro e w1 ⟨_,_,u1,rfl,⟨x0,x1,x2,x3,hv1,rfl,rfl⟩,k1⟩);have ka:=(Kp.refl w1).alloc (.cells #[.bool x0,.bool x1,.bool x2,.bool x3] 134);obtain⟨st1,HV1⟩:=hid2 (show BdMF w (w1.alloc (.cells #[.bool x0,.bool x1,.bool x2,.bool x3] 134)) s 0 0 0 none 0 none 0 ZB w1.heap.size #[.bool z0,.bool z1,.bool z2,.bool z3] #[.bool x0,.bool x1,.bool x2,.bool x3]from⟨(st0.kp' k1).kp' ka,(bz0.kp k1).kp ka,Bx.new w1 _ _⟩) hv1;have hsz:=k1.size;have hs4:=st0.tr.lt.2.2.2.2;obtain⟨VB,hVB⟩:∃VB,VB=w1.heap.size:=⟨_,rfl⟩;have HVB:=hid (show w.heap.size≤s∧ZB<s∧s+4≤VB by have:=HS.out;omega);rw[←hVB]at st1⊢;clear st0 k1 hv1 bz0 ka z0' z1' z2' z3' hsz hs4 hVB HS;generalize(w1.alloc (.cells #[.bool x0,.bool x1,.bool x2,.bool x3] 134))=w2 at *;go_wp2_with fail;go_loopg [11,10] 8704 (fun g tv uv wr=>∃(a nb:Nat) (x0 x1 x2 x3:Bool) (u:Int) (IA:Option Addr) (Ic:Nat) (BA:Option Addr) (Bc:Nat),a+g=8704∧nb≤a∧tv=.int .i64 (128*(a:Int))∧uv=.int .i64 u∧Hid True∧Hid (BdMF w wr s (2*a) a nb IA Ic BA Bc ZB VB #[.bool z0,.bool z1,.bool z2,.bool z3] #[.bool x0,.bool x1,.bool x2,.bool x3]))
 case atStart=>exact⟨0,0,x0,x1,x2,x3,u1,none,0,none,0,rfl,le_,rfl,rfl,HV1,st1⟩
 case round=>
  clear st1 HV1;obtain⟨a,nb,x0,x1,x2,x3,u,IA,Ic,BA,Bc,hg,hnb,rfl,rfl,hv,st⟩:=hrel;obtain⟨t,ht⟩:∃t:Int,t=128*(a:Int):=⟨_,rfl⟩;rw[←ht];by_cases hc:t<1114112
  ·have ha7:a≤8703:=by omega
   have hw128:IntKind.i64.wrap (t+128)=t+128:=zV (by omega) (by omega);have ht0:0≤t:=by omega
   have HT:=hid ht;clear ht;go_upto_if 41 with fail;go_cut [10] (fun u' wx=>∃(x0 x1 x2 x3:Bool) (u2:Int),u'=.int .i64 u2∧Hid True∧Hid (BdMF w wx s (2*a) a nb IA Ic BA Bc ZB VB #[.bool z0,.bool z1,.bool z2,.bool z3] #[.bool x0,.bool x1,.bool x2,.bool x3]))
   case first=>
    by_cases hgt:u<t
    ·have HFT:=hid (HFIND.out wr t st.out.bd.kp)
     have z0':=st.out.bz.cell 0;have z1':=st.out.bz.cell 1;have z2':=st.out.bz.cell 2;have z3':=st.out.bz.cell 3;simp at z0' z1' z2' z3';go_wp2_with fail;refine HFT.out.mono ?_;rintro e w1 ⟨_,_,u1,rfl,⟨y0,y1,y2,y3,hv1,rfl,rfl⟩,k1⟩;obtain⟨HV1,st1⟩:=hid2 hv1 (st.out.kp' k1);have hbv:=st1.out.bv;have st3:=hid (BdMF.set (vs':=#[.bool y0,.bool y1,.bool y2,.bool y3]) st1.out (Mu.setCell (S:=fun k=>k=VB) (Mu.setCell (S:=fun k=>k=VB) (Mu.setCell (S:=fun k=>k=VB) (Mu.setCell (S:=fun k=>k=VB) (Mu.refl _) (p:=⟨VB,0,none⟩) rfl (.bool y0)) (p:=⟨VB,1,none⟩) rfl (.bool y1)) (p:=⟨VB,2,none⟩) rfl (.bool y2)) (p:=⟨VB,3,none⟩) rfl (.bool y3)) (by simpa using((((st1.out.bv.set 0 (.bool y0)).set 1 (.bool y1)).set 2 (.bool y2)).set 3 (.bool y3))) HVB.out.2.2 HVB.out.1 HVB.out.2.1);have f0:=hbv.frozen 0;have r0:=hbv.cell 0;simp at r0;have f1:=hbv.frozen 1;have r1:=hbv.cell 1;simp at r1;have f2:=hbv.frozen 2;have r2:=hbv.cell 2;simp at r2;have f3:=hbv.frozen 3;have r3:=hbv.cell 3;simp at r3;have hVz:=hbv.lt;clear hv1 k1 HFT hbv;go_wp2_with fail;generalize((((w1.setCell ⟨VB,0,none⟩ (.bool y0)).setCell ⟨VB,1,none⟩ (.bool y1)).setCell ⟨VB,2,none⟩ (.bool y2)).setCell ⟨VB,3,none⟩ (.bool y3))=w3 at *;go_meet;exact⟨y0,y1,y2,y3,u1,rfl,HV1,st3⟩
    ·go_wp2_with fail
     go_meet;exact⟨x0,x1,x2,x3,u,rfl,hv,st⟩
   case rest=>
    clear hv st;obtain⟨x0,x1,x2,x3,u2,rfl,hv2,st2⟩:=hcut;have b0':=st2.out.bv.cell 0;have b1':=st2.out.bv.cell 1;have b2':=st2.out.bv.cell 2;have b3':=st2.out.bv.cell 3;simp at b0' b1' b2' b3';by_cases hun:min (t+128) 1114112 - 1≤u2
    ·have HPL:=hid (plainQF (2*a) (s+4) s (s+3) (s+1) (s+2) 1114112 (.slice IA a Ic) BA Bc nb (.agg #[.bool x0,.bool x1,.bool x2,.bool x3]) [.bool x0,.bool x1,.bool x2,.bool x3] wc ⟨x0,x1,x2,x3,hv2.out,rfl,rfl⟩ st2.out.bd.tr (by omega) (by omega))
     go_upto_region 13 with fail;generalize(if 1114112<t+128 then 1114112 else t+128)=en at *;go_wp2_with (go_at_call 92;refine HPL.out.mono ?_;rintro e w3 ⟨x,nb3,BA3,Bc3,rfl,hx,hb1,hb2,hT3,hf3,hr3⟩);obtain⟨st3,HX⟩:=hid2 (turnMF st2.out HVB.out.1 HVB.out.2.2 HVB.out.2.1 hT3 hb1 hf3 hr3) hx;clear HPL st2 hT3 hf3 hr3 hx b0' b1' b2' b3';go_loopg [11] (8704 - a) (fun g tv wr=>∃(q:Nat) (IA:Option Addr) (Ic:Nat),q+g=8704∧a≤q∧tv=.int .i64 (128*(q:Int))∧Hid (128*(q:Int)<1114112+128)∧Hid (BdMF w wr s (2*a+2) q nb3 IA Ic BA3 Bc3 ZB VB #[.bool z0,.bool z1,.bool z2,.bool z3] #[.bool x0,.bool x1,.bool x2,.bool x3]))
     case atStart=>exact⟨a,IA,Ic,by omega,le_,by rw[HT.out],hid (by have:=HT.out;omega),st3⟩
     case round=>
      clear st3;obtain⟨q,IB,Ib,hg2,haq,rfl,hv3,st4⟩:=hrel;obtain⟨tq,htq⟩:∃tq:Int,tq=128*(q:Int):=⟨_,rfl⟩;rw[←htq]at hv3⊢;have htb:t≤tq∧tq<1114112+128∧0≤tq:=⟨by have:=HT.out;omega,hv3.out,by omega⟩;have hwq:IntKind.i64.wrap (tq+128)=tq+128:=zV (by omega) (by omega);have hwm:IntKind.i64.wrap (tq - 128)=tq - 128:=zV (by omega) (by omega);have hwmm:IntKind.i64.wrap (tq - 128+128)=tq:=by rw[zV (by omega) (by omega)];omega
      have HTQ:=hid htq;clear htq;obtain⟨kb,hkb⟩:∃kb:Bool,kb=decide (tq<1114112∧min (tq+128) 1114112 - 1≤u2):=⟨_,rfl⟩;have HKB:=hid hkb;clear hkb;go_upto_region 14 with fail;go_cut [73] (fun v wx=>v=.bool kb∧wx=wr)
      case first=>
       by_cases h1:tq<1114112
       ·go_wp2_with fail
        all_goals
         go_meet;refine⟨?_,rfl⟩;rw[HKB.out]
         congr 1
         rw[decide_eq_decide];omega
       ·have hkf:kb=false:=by rw[HKB.out];simp[h1]
        go_wp2_with fail;go_meet;exact⟨by rw[hkf],rfl⟩
      case rest=>
       obtain⟨rfl,rfl⟩:=hcut;cases kb with
       |true=>
        have h12:tq<1114112∧min (tq+128) 1114112 - 1≤u2:=of_decide_eq_true HKB.out.symm;have hq8:q≤8703:=by have:=HTQ.out;omega
        obtain⟨t0,t1,t2,_,t4,_⟩:=st4.out.bd.tr.tb.three;obtain⟨L,hL1,hL2⟩:=st4.out.bd.ix;obtain⟨HL1,HL2⟩:=hid2 hL1 hL2;clear hL1 hL2;go_wp2_with (at_builtin;refine zA _ rfl (.tmp 80) (.tmp 82) _ rfl (s+4) 3 _ 1 8 Tryz.underlying126 infoIntF rfl (by omega) IB q Ib (L.map fun x:Nat=>Value.int .i64 (x:Int)) rfl (HL1.out.alloc _) Any _ 1 1 [.int .i64 (x:Int)] rfl (Sl.new _ _ _ _ _ trivial rfl (by omega)) (by simp[Value.oneCell']) (by simp only[maxLen];omega) (by omega) (by have:=st4.out.bd.tr.lt;simp;omega) ?_;intro A4 c4 w4 hown4 hg4 hat4;have tb4:=(st4.out.bd.tr.tb.alloc (.cells #[.int .i64 (x:Int)] 3)).grown hg4 (fun e=>by have:=(st4.out.bd.rl _ e).1;omega);obtain⟨x0,x1,x2,_,x4,_⟩:=tb4.three);have ap:=hid (laidMF st4.out HVB.out.1 HVB.out.2.2 HVB.out.2.1 ((Kp.refl _).alloc _) HL2.out HX.out hown4 hg4 hat4);go_roundg (8704 - (q+1))
        case measure=>omega
        case rel=>exact⟨q+1,A4,c4,by omega,by omega,by have:=HTQ.out;go_num,hid (by have:=HTQ.out;omega),ap⟩
       |false=>
        have h12:¬(tq<1114112∧min (tq+128) 1114112 - 1≤u2):=of_decide_eq_false HKB.out.symm;have hqa:a<q:=by
         rcases Nat.lt_or_ge a q with h|h
         ·exact h
         ·exfalso
          have :q=a:=by omega
          have h5:tq=t:=by have:=HTQ.out;have:=HT.out;omega
          exact h12 (by rw[h5];exact⟨hc,hun⟩)
        have H12:=hid h12;clear h12;go_wp2_with fail;go_roundg (8704 - q)
        case measure=>omega
        case rel=>exact⟨q,nb3,x0,x1,x2,x3,u2,IB,Ib,BA3,Bc3,by omega,by omega,by have:=HTQ.out;go_num,rfl,hv2,st4.out.mono (by omega)⟩
    ·go_upto_region 18 with fail
     generalize(if 1114112<t+128 then 1114112 else t+128)=en at *;obtain⟨wd,hwd⟩:∃wd:World,wd=wc:=⟨_,rfl⟩;subst hwd;have hsz0:=st2.out.bd.tr.lt.2.2.2.2;have hVz:=st2.out.bv.lt;obtain⟨HRB,HRI⟩:=hid2 st2.out.bd.tr.rl st2.out.bd.rl;clear b0' b1' b2' b3';have HUN:=hid hun;clear hun;go_wp2_with fail;obtain⟨hrw0,st3⟩:=hid2 (RowF.new wd) (st2.out.kp' ((Kp.refl wd).alloc (.cells Tryz.zeroCells209 209)));obtain⟨RB,hRB⟩:∃RB,RB=wd.heap.size:=⟨_,rfl⟩;have HRR:=hid (show(s+4≤RB∧VB≠RB)∧(∀k,zB IA=some k→k≠RB)∧(∀k,zB BA=some k→k≠RB)from⟨⟨by omega,by omega⟩,fun k hk e=>by have:=(HRI.out k hk).2;omega,fun k hk e=>by have:=(HRB.out k hk).2;omega⟩);rw[←hRB]at hrw0⊢;clear hRB st2 hsz0 hVz HRB HRI;generalize(wd.alloc (.cells Tryz.zeroCells209 209))=wd' at *;go_loopg [88,10] 128 (fun g iv uv wr=>∃(i:Nat) (x0 x1 x2 x3:Bool) (u:Int),i+g=128∧iv=.int .i64 (i:Int)∧uv=.int .i64 u∧Hid True∧Hid (RowF wr RB)∧Hid (BdMF w wr s (2*a) a nb IA Ic BA Bc ZB VB #[.bool z0,.bool z1,.bool z2,.bool z3] #[.bool x0,.bool x1,.bool x2,.bool x3]))
     case atStart=>exact⟨0,x0,x1,x2,x3,u2,rfl,rfl,rfl,hv2,hrw0,st3⟩
     case round=>
      clear hv2 hrw0 st3;obtain⟨i,x0,x1,x2,x3,u,hi,rfl,rfl,hv4,hrow,st4⟩:=hrel;by_cases hlt:i<128
      ·have hwi:IntKind.i64.wrap (t+(i:Int))=t+(i:Int):=zV (by omega) (by omega)
       obtain⟨kb,hkb⟩:∃kb:Bool,kb=decide (u<t+(i:Int)∧t+(i:Int)<1114112):=⟨_,rfl⟩;have HKB:=hid hkb;clear hkb;go_upto_region 22 with fail;go_cut [102] (fun v wx=>v=.bool kb∧wx=wr)
       case first=>
        by_cases h1:u<t+(i:Int)
        ·have hkk:kb=decide (t+(i:Int)<1114112):=by rw[HKB.out];simp[h1]
         have HKK:=hid hkk;clear hkk;go_wp2_with fail;go_meet;exact⟨by rw[HKK.out],rfl⟩
        ·have hkf:kb=false:=by rw[HKB.out];simp[h1]
         go_wp2_with fail;go_meet;exact⟨by rw[hkf],rfl⟩
       case rest=>
        obtain⟨rfl,rfl⟩:=hcut;obtain⟨wq,hwq⟩:∃wq:World,wq=wc:=⟨_,rfl⟩;subst hwq;go_upto_if 102 with fail;go_cut [10] (fun u' wx=>∃(x0 x1 x2 x3:Bool) (u5:Int),u'=.int .i64 u5∧Hid True∧Hid (RowF wx RB)∧Hid (BdMF w wx s (2*a) a nb IA Ic BA Bc ZB VB #[.bool z0,.bool z1,.bool z2,.bool z3] #[.bool x0,.bool x1,.bool x2,.bool x3]))
        case first=>
         cases kb with
         |true=>
          have HFT:=hid (HFIND.out wq (t+(i:Int)) st4.out.bd.kp);have z0':=st4.out.bz.cell 0;have z1':=st4.out.bz.cell 1;have z2':=st4.out.bz.cell 2;have z3':=st4.out.bz.cell 3;simp at z0' z1' z2' z3';go_wp2_with fail;refine HFT.out.mono ?_;rintro e w1 ⟨_,_,u1,rfl,⟨y0,y1,y2,y3,hv1,rfl,rfl⟩,k1⟩;obtain⟨HV1,st1⟩:=hid2 hv1 (st4.out.kp' k1);have hbv:=st1.out.bv;obtain⟨st3,hr3⟩:=hid2 (BdMF.set (vs':=#[.bool y0,.bool y1,.bool y2,.bool y3]) st1.out (Mu.setCell (S:=fun k=>k=VB) (Mu.setCell (S:=fun k=>k=VB) (Mu.setCell (S:=fun k=>k=VB) (Mu.setCell (S:=fun k=>k=VB) (Mu.refl _) (p:=⟨VB,0,none⟩) rfl (.bool y0)) (p:=⟨VB,1,none⟩) rfl (.bool y1)) (p:=⟨VB,2,none⟩) rfl (.bool y2)) (p:=⟨VB,3,none⟩) rfl (.bool y3)) (by simpa using((((st1.out.bv.set 0 (.bool y0)).set 1 (.bool y1)).set 2 (.bool y2)).set 3 (.bool y3))) HVB.out.2.2 HVB.out.1 HVB.out.2.1) (RowF.mu (hrow.out.kp k1) (Mu.setCell (S:=fun k=>k=VB) (Mu.setCell (S:=fun k=>k=VB) (Mu.setCell (S:=fun k=>k=VB) (Mu.setCell (S:=fun k=>k=VB) (Mu.refl _) (p:=⟨VB,0,none⟩) rfl (.bool y0)) (p:=⟨VB,1,none⟩) rfl (.bool y1)) (p:=⟨VB,2,none⟩) rfl (.bool y2)) (p:=⟨VB,3,none⟩) rfl (.bool y3)) (fun e=>HRR.out.1.2 e.symm));have f0:=hbv.frozen 0;have r0:=hbv.cell 0;simp at r0;have f1:=hbv.frozen 1;have r1:=hbv.cell 1;simp at r1;have f2:=hbv.frozen 2;have r2:=hbv.cell 2;simp at r2;have f3:=hbv.frozen 3;have r3:=hbv.cell 3;simp at r3;have hVz:=hbv.lt;clear hv1 k1 HFT hbv z0' z1' z2' z3';go_wp2_with fail;generalize((((w1.setCell ⟨VB,0,none⟩ (.bool y0)).setCell ⟨VB,1,none⟩ (.bool y1)).setCell ⟨VB,2,none⟩ (.bool y2)).setCell ⟨VB,3,none⟩ (.bool y3))=w3 at *;go_meet;exact⟨y0,y1,y2,y3,u1,rfl,HV1,hr3,st3⟩
         |false=>
          go_wp2_with fail;go_meet;exact⟨x0,x1,x2,x3,u,rfl,hv4,hrow,st4⟩
        case rest=>
         clear hv4 hrow st4;obtain⟨x0,x1,x2,x3,u5,rfl,hv5,hrow,st5⟩:=hcut;have b0':=st5.out.bv.cell 0;have b1':=st5.out.bv.cell 1;have b2':=st5.out.bv.cell 2;have b3':=st5.out.bv.cell 3;simp at b0' b1' b2' b3';obtain⟨⟨u0_,a0⟩,f0⟩:=hrow.out.at_ (o:=i*4) (by omega);obtain⟨⟨u1_,a1⟩,f1⟩:=hrow.out.at_ (o:=i*4+1) (by omega);obtain⟨⟨u2_,a2⟩,f2⟩:=hrow.out.at_ (o:=i*4+2) (by omega);obtain⟨⟨u3_,a3⟩,f3⟩:=hrow.out.at_ (o:=i*4+3) (by omega);obtain⟨HR2,st6⟩:=hid2 (((((hrow.out.set (i*4) (u:=.bool x0) ⟨x0,rfl⟩).set (i*4+1) (u:=.bool x1) ⟨x1,rfl⟩).set (i*4+2) (u:=.bool x2) ⟨x2,rfl⟩).set (i*4+3) (u:=.bool x3) ⟨x3,rfl⟩)) (BdMF.farR (R:=RB) st5.out (Mu.setCell (S:=fun k=>k=RB) (Mu.setCell (S:=fun k=>k=RB) (Mu.setCell (S:=fun k=>k=RB) (Mu.setCell (S:=fun k=>k=RB) (Mu.refl _) (p:=⟨RB,i*4,none⟩) rfl (.bool x0)) (p:=⟨RB,i*4+1,none⟩) rfl (.bool x1)) (p:=⟨RB,i*4+2,none⟩) rfl (.bool x2)) (p:=⟨RB,i*4+3,none⟩) rfl (.bool x3)) HRR.out.1.1 HRR.out.2.1 HRR.out.2.2 HRR.out.1.2 HVB.out.1 HVB.out.2.1);clear hrow st5;go_wp2_with fail;generalize((((wc.setCell ⟨RB,i*4,none⟩ (.bool x0)).setCell ⟨RB,i*4+1,none⟩ (.bool x1)).setCell ⟨RB,i*4+2,none⟩ (.bool x2)).setCell ⟨RB,i*4+3,none⟩ (.bool x3))=w3 at *;go_roundg (128 - (i+1))
         case measure=>omega
         case rel=>exact⟨i+1,x0,x1,x2,x3,u5,by omega,by go_num,rfl,hv5,HR2,st6⟩
      ·have hii:i=128:=by omega
       subst hii;obtain⟨cs,hb,hcl,hco⟩:=hrow.out;have HCO:=hid hco;clear hlt hrow hco;have st5:=hid (st4.out.kp' (Kp.refl wr).drew);have bx5:=hb.drew;have rg5:=bx5.range0;have hU:=Tryz.underlying209;have hI:(Tryz.prog.info? 209).map (·.size)=some cs.length:=by rw[hcl];kernel_rfl
       have HPL:=hid (placeQF (2*a) (s+4) s (s+3) (s+1) (s+2) 1114112 (.slice IA a Ic) BA Bc nb cs wr.drew hcl HCO.out st5.out.bd.tr (by omega) (by omega));clear hb;go_upto_region 26 with fail;have hS:wr.drew.cell? ⟨s,1,none⟩=some (.slice IA a Ic)∧wr.drew.rangeAt RB 0 cs:=⟨st5.out.bd.tr.tb.three.2.1,rg5⟩;refine wp_region_noPanic ?_;refine yI (fun w'=>w'.cell? ⟨s,1,none⟩=some (.slice IA a Ic)∧w'.rangeAt RB 0 cs) 12 (by kernel_rfl) (by kernel_rfl) fun inv=>?_
       refine tkT 0 inv hS fun inv=>?_
       refine tkT 1 inv hS fun inv=>?_
       refine tkT 2 inv hS fun inv=>?_
       refine tkT 3 inv hS fun inv=>?_
       refine tkT 4 inv hS fun inv=>?_
       refine tkT 5 inv hS fun inv=>?_
       try go_frame
       refine yJ (i:=6) (v:=?v7) inv (by simp only[List.getElem?_toArray,List.getElem?_cons_succ,List.getElem?_cons_zero];rfl) (by decide) (by kernel_rfl) (by kernel_rfl) ?hQ7 hS ?hy7 (fun inv=>?rest7)
       case hy7=>
        refine xW ?_ (yieldsIf_load_mid (by rfl) _ (.tmp 14) (by rfl) RB 0 (by rfl) _ _ (by intro wy hy;exact hy.2) hU rfl hI)
        with_reducible rfl
       case hQ7=>exact fun _ _ _ h=>h
       go_frame;refine onT 7 inv fun K hK=>?_
       go_simp;go_at_call 93;refine HPL.out.mono ?_;rintro e w3 ⟨k0,nb3,BA3,Bc3,rfl,hx,hb1,hb2,hT3,hf3,hr3⟩;obtain⟨st6,HX⟩:=hid2 (turnMF st5.out HVB.out.1 HVB.out.2.2 HVB.out.2.1 hT3 hb1 hf3 hr3) hx;have bx6:=hf3.bx bx5 (by
        have hR1:=HRR.out.1.1;rintro(h|h|h|h)
        ·omega
        ·omega
        ·omega
        ·exact HRR.out.2.2 _ h rfl)
       obtain⟨L,ix6,hL2⟩:=st6.out.bd.ix;have HL2:=hid hL2;have tb6:=st6.out.bd.tr.tb.alloc (.cells #[.int .i64 (k0:Int)] 3);have bx7:=bx6.alloc (.cells #[.int .i64 (k0:Int)] 3);have hb6:=st6.out.bd.tr.lt.2.2.2.2;refine hK.out _ _ ?_ (fun inv=>?_)
       ·exact⟨st6.out.bd.tr.tb.three.2.1,bx6.range0⟩
       clear hK K hS HPL st5 hT3 hf3 hr3 bx5 rg5 hx hL2;try go_frame
       refine onT 8 inv fun K hK=>?_
       go_simp;refine hK.out _ _ ?_ (fun inv=>?_)
       ·exact⟨tb6.three.2.1,bx7.range0⟩
       clear hK K;try go_frame
       refine onT 9 inv fun K hK=>?_
       refine zJ _ (by rfl) _ _ _ (by rfl) (s+4) 3 _ 1 8 Tryz.underlying126 infoIntF rfl (by omega) IA a Ic (L.map fun x:Nat=>Value.int .i64 (x:Int)) (by rfl) (ix6.alloc _) Any _ 1 1 [.int .i64 (k0:Int)] (by rfl) (Sl.new _ _ _ _ _ trivial rfl (by omega)) (by simp[Value.oneCell']) (by simp only[maxLen];omega) (by omega) (by simp;omega) ?_;intro A4 c4 w4 hown4 hg4 hat4;have tb8:=tb6.grown hg4 (fun e=>by have:=(ix6.lt _ e).1;omega);have bx8:=bx7.grown hg4 (fun e=>HRR.out.2.1 _ e rfl);obtain⟨x0',x1',x2',_,x4',_⟩:=tb8.three;refine hK.out _ _ ?_ (fun inv=>?_)
       ·exact⟨x1',bx8.range0⟩
       clear hK K;try go_frame
       have hS:w4.cell? ⟨s,1,none⟩=some (.slice IA a Ic)∧w4.rangeAt RB 0 cs:=⟨x1',bx8.range0⟩;refine tkT 10 inv hS fun inv=>?_
       refine tkT 11 inv hS fun inv=>?_
       try go_frame
       refine laT fun K hK=>?_
       go_simp;refine hK.out _ _ ?_;clear hK K hS;refine NoPanic.normal ?_;have ap:=hid (laidMF st6.out HVB.out.1 HVB.out.2.2 HVB.out.2.1 ((Kp.refl _).alloc _) HL2.out HX.out hown4 hg4 hat4);go_wp2_with fail;go_roundg (8704 - (a+1))
       case measure=>omega
       case rel=>exact⟨a+1,nb3,x0,x1,x2,x3,u,A4,c4,BA3,Bc3,by omega,by omega,by have:=HT.out;go_num,rfl,hv4,ap.out.mono (by omega)⟩
  ·have ha:a=8704:=by omega
   have HA:=hid ha;clear ht ha hg hnb;go_wp2_with fail;go_ret;have hh:=st.out;rw[HA.out]at hh;exact⟨_,_,_,_,_,_,_,_,rfl,rfl,HVB.out.1,hh.bd⟩
end
end Go.Proofs.YtociefdcccokjaaGreat

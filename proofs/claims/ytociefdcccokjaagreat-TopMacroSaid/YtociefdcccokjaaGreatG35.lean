/-
  Lemmas for TopMacro. Conditions: each states its own.
-/
import Derived.Test.YtociefdcccokjaaGreatG25
import Derived.Test.YtociefdcccokjaaGreatG28
import Derived.Test.YtociefdcccokjaaGreatG34
set_option maxHeartbeats 6400000
set_option maxRecDepth 100000
namespace Go.Proofs.YtociefdcccokjaaGreat
open Go.RowKit Go.Lib
section
variable {D:Nat→Prop}
section
variable (E X G R g:Nat)(e:EdS)(v:EdL)(w:World)(h:EdAt D w E X G R g e v)(j:Nat)(ok:EdOk j e)
include h ok
theorem lines_any:Calls Tryz.prog 68 #[.pointer (some ⟨E,0,none⟩)] w fun en w'=>∃A n c,en=.returned (.slice A n c)∧Txs w' (From w.heap.size) (From w.heap.size) A n c e.all∧Kp w w':=by
 have htx:TxOk e.tx:=(h.2.tx.tx fun k hk hx=>hk (.inr hx)).ok;have HRU:=hid (fun(wx:World) (kx:Kp w wx)=>xG X G R g e.tx wx ((h.kp kx).2.tx.tx fun k hk hx=>hk (.inr hx)));have HGO:=hid (fun(wx:World) (kx:Kp w wx) (C:Option Addr) (k f:Nat) (hC:Ru wx Any C k f e.tx.l)=>xY (fun q=>¬Ew D E X G R q) (fun q=>¬Ew D E X G R q) (fun q=>¬Ew D E X G R q) Any v.pA v.sA C v.pn v.pc v.sn v.sc k f e.pat 0 e.past e.stash e.tx.l wx
  ((h.kp kx).2.past) ((h.kp kx).2.stash) hC (by have:=h.2.past.len;have:=ok.plen;omega) (by have:=Ru.len h.2.stash;have:=ok.stash.1;omega) (by have:=Ru.len hC;have:=htx.len;omega) (fun x hx=>by have:=(ok.ptx x hx).1;omega))
 have HAL:=hid (fun(wx:World) (kx:Kp w wx)=>past_all (fun q=>¬Ew D E X G R q) v.pA v.sA v.pn v.pc v.sn v.sc e.pat e.past wx ((h.kp kx).2.past) (by have:=h.2.past.len;have:=ok.plen;omega) (fun x hx=>by have:=(ok.ptx x hx).1;omega));have hl0:(yL e.past e.pat e.stash 0 e.tx.l).isSome=true:=by
  unfold yL;rw[if_neg (by omega),if_neg (by omega)]
  split<;>rfl
 obtain⟨ol,hol⟩:∃o,o=yL e.past e.pat e.stash 0 e.tx.l:=⟨_,rfl⟩;rw[←hol]at HGO hl0;obtain⟨HOL,HPL,H⟩:=hid3 (show e.all=ol.getD []::e.past.reverse by rw[hol];rfl) ok.plen h;have p2:w.cell? ⟨E,2,none⟩=some (.pointer (some ⟨X,0,none⟩)):=(h.c 2 rfl).1;have p8:w.cell? ⟨E,8,none⟩=some (.slice v.pA v.pn v.pc):=(h.c 8 rfl).1;have p9:w.cell? ⟨E,9,none⟩=some (.int .i64 e.pat):=(h.c 9 rfl).1;have p10:w.cell? ⟨E,10,none⟩=some (.slice v.sA v.sn v.sc):=(h.c 10 rfl).1;clear h ok htx hol hl0;go_enter Tryz.func68,Tryz.ntmps68;go_upto_region 1 with fail;go_cut [3] (fun x wx=>∃A n c,x=.slice A n c∧Ru wx (From w.heap.size) A n c (ol.getD [])∧Kp w wx)
 case first=>
  go_region_with (first|(go_at_call 45;refine(HRU.out _ (Kp.refl w).drew).mono ?_;rintro en w3 ⟨A3,n3,c3,rfl,hr3,k3⟩;have K3:=hid ((Kp.refl w).drew.trans k3);have HR3:=hid hr3;have r2:w3.cell? ⟨E,2,none⟩=some (.pointer (some ⟨X,0,none⟩)):=((H.out.kp K3.out).c 2 rfl).1;have r8:w3.cell? ⟨E,8,none⟩=some (.slice v.pA v.pn v.pc):=((H.out.kp K3.out).c 8 rfl).1;have r9:w3.cell? ⟨E,9,none⟩=some (.int .i64 e.pat):=((H.out.kp K3.out).c 9 rfl).1;have r10:w3.cell? ⟨E,10,none⟩=some (.slice v.sA v.sn v.sc):=((H.out.kp K3.out).c 10 rfl).1;clear k3 hr3)|(go_at_call 104;refine(HGO.out _ K3.out A3 n3 c3 (Sl.any HR3.out)).mono ?_;rintro en w4 ⟨A4,n4,c4,rfl,hr4,k4⟩;have HR4:=hid hr4;have K4:=hid (K3.out.trans k4);clear hr4 k4))
  all_goals
   go_wp2_with fail;go_meet;exact⟨A4,n4,c4,rfl,Sl.weak HR4.out (fun q _ hq=>Nat.le_trans K3.out.size hq),K4.out⟩
 case rest=>
  obtain⟨A,n,c,rfl,hr,kk⟩:=hcut;obtain⟨HR,H2,KK⟩:=hid3 hr (H.out.kp kk) kk;have q8:wc.cell? ⟨E,8,none⟩=some (.slice v.pA v.pn v.pc):=(H2.out.c 8 rfl).1;have q9:wc.cell? ⟨E,9,none⟩=some (.int .i64 e.pat):=(H2.out.c 9 rfl).1;have q10:wc.cell? ⟨E,10,none⟩=some (.slice v.sA v.sn v.sc):=(H2.out.c 10 rfl).1;have hE:=H2.out.1.lt;clear hr kk p2 p8 p9 p10 HRU HGO;go_upto_region 2 with fail;go_wp2_with fail;refine(HAL.out _ (KK.out.alloc _)).mono ?_;rintro en w4 ⟨A4,n4,c4,rfl,hT4,k4⟩;have hnb:=Own.new_ wc #[.slice A n c] 41 1 1 wc.heap.size wc.heap.size rfl le_ rfl (by omega);have hown:=Own.kp hnb k4;obtain⟨vs,hvs,hv1,hvl,hvx⟩:=hT4.oneCell;obtain⟨HVS,HV1,HVX,HVL,HRN,HKW⟩:=hid6 hvs hv1 hvx hvl (Sl.kp (Sl.weak (G:=fun q=>w.heap.size≤q∧q<wc.heap.size) HR.out (fun q hl hq=>⟨hq,hl⟩)) ((Kp.refl wc).alloc (.cells #[.slice A n c] 41) |>.trans k4)) (KK.out.trans (((Kp.refl wc).alloc _).trans k4));have hn4:n4≤500:=by rw[←hvl,List.length_reverse];exact HPL.out
  have hz:=k4.size;simp at hz;clear hvs hv1 hvx hvl hT4 q8 q9 q10 hE;have hb4:wc.heap.size≤w4.heap.size:=by omega
  go_wp2_with (at_builtin;refine zA _ rfl _ _ _ rfl wc.heap.size 41 _ 1 24 Tryz.underlying37 vC rfl (by omega) (some ⟨wc.heap.size,0,none⟩) 1 1 [.slice A n c] rfl hown _ A4 n4 c4 vs rfl HVS.out HV1.out (by simp only[maxLen];omega) (by omega) hb4 ?_;intro A5 c5 w5 ho5 hg5 hat5);have k5:=HKW.out.grown hg5 (fun q hq=>(show wc.heap.size=q by simpa[zB]using hq)▸KK.out.size);have hr5:∀q,zB (some (Addr.mk wc.heap.size 0 none))=some q→q=wc.heap.size:=fun q hq=>(show wc.heap.size=q by simpa[zB]using hq).symm
  go_ret;refine⟨A5,1+n4,c5,rfl,?_,k5⟩;rw[HOL.out];refine⟨[.slice A n c]++vs,Sl.weak ho5.sl (fun q _ hq=>Nat.le_trans KK.out.size hq),?_,?_⟩
  ·have:=HVS.out.len
   have:=HVL.out;simp at *;omega
  ·intro i x hx
   cases i with
   |zero=>
    simp only[List.getElem?_cons_zero,Option.some.injEq]at hx;subst hx;exact⟨A,n,c,rfl,Sl.weak (Sl.grown HRN.out hg5 (fun q hq hF=>by rw[hr5 q hq]at hF;omega)) (fun q _ hq=>hq.1)⟩
   |succ i=>
    rw[List.getElem?_cons_succ]at hx;obtain⟨B,m,d,hb,hru⟩:=HVX.out i x hx;exact⟨B,m,d,by simpa using hb,Sl.weak (Sl.grown hru hg5 (fun q hq hF=>by rw[hr5 q hq]at hF;unfold From at hF;simp at hF;omega)) (fun q _ hq=>by unfold From at *;simp at hq;have:=KK.out.size;omega)⟩
end
end
section
variable {D:Nat→Prop}
theorem nearF_in (T:TM)(L:List (List Int))(step:Int)(pat:List Int):∀(k:Nat) (a:Int) {q:Int×Nat},vH T L step pat k a=some q→0≤q.1∧q.1<L.length
 |0,_,_,h=>by simp[vH]at h
 |k+1,a,q,h=>by
  unfold vH at h
  split at h
  ·split at h
   ·cases h;assumption
   ·exact nearF_in T L step pat k _ h
  ·cases h
structure SkOk (j:Nat)(s:Sk):Prop where
 ska:0≤s.at_∧s.at_≤501
 skh:0≤s.homeAt∧s.homeAt≤501
 skp:s.pat.length≤j∧R32ok s.pat
theorem EdOk.skOk {j:Nat}{e:EdS}(h:EdOk j e):SkOk j e.sk:=⟨h.ska,h.skh,h.skp⟩
theorem EdOk.sk_ {j:Nat}{e:EdS}(h:EdOk j e){s:Sk}(hs:SkOk j s)(b sb:Bool):EdOk j {e with sk:=s,bell:=b,seeks:=sb}:=
 ⟨h.jb,h.c1,h.m1,h.rlen,h.rtx,h.rat0,h.rat1,h.ulen,h.ues,h.pat0,h.pat1,h.plen,h.ptx,h.stash,hs.ska,hs.skh,hs.skp,h.n0,h.run,h.lines⟩
theorem SkOk.from_ {j:Nat}{s:Sk}(h:SkOk j s)(T:TM){L:List (List Int)}(hL:L.length≤501)(a:Int):SkOk j (Sk.from_ T s L a):=by
 unfold Sk.from_
 split
 ·rename_i k p hn
  have:=nearF_in T L _ _ _ _ hn;exact⟨by dsimp only at *;omega,h.skh,h.skp⟩
 ·exact⟨h.ska,h.skh,h.skp⟩
theorem SkOk.type {j:Nat}{s:Sk}(h:SkOk j s)(T:TM){L:List (List Int)}(hL:L.length≤501){r:Int}(hr:r32 r):SkOk (j+1) (Sk.type T s L r):=by
 unfold Sk.type;refine SkOk.from_ (s:={s with pat:=s.pat++[r]}) ⟨h.ska,h.skh,?_⟩ T hL _;refine⟨by dsimp only;rw[List.length_append];have:=h.skp.1;simp;omega,h.skp.2.app (fun x hx=>?_)⟩;rw[List.mem_singleton]at hx;subst hx;exact hr
theorem SkOk.rub {j:Nat}{s:Sk}(h:SkOk j s)(T:TM){L:List (List Int)}(hL:L.length≤501):SkOk j (Sk.rub T s L):=by
 have hp:(s.pat.take (s.pat.length - 1)).length≤j∧R32ok (s.pat.take (s.pat.length - 1)):=⟨by rw[List.length_take];have:=h.skp.1;omega,h.skp.2.sub fun x hx=>List.mem_of_mem_take hx⟩;unfold Sk.rub
 split
 ·exact⟨h.skh,h.skh,hp⟩
 ·exact SkOk.from_ (s:={s with pat:=s.pat.take (s.pat.length - 1),at_:=s.homeAt,place:=s.homePlace,failed:=false}) ⟨h.skh,h.skh,hp⟩ T hL _
theorem SkOk.again {j:Nat}{s:Sk}(h:SkOk j s)(T:TM){L:List (List Int)}(hL:L.length≤501)(b:Bool):SkOk j (Sk.again T s L b):=by
 unfold Sk.again
 split
 ·exact⟨h.ska,h.skh,h.skp⟩
 ·exact SkOk.from_ (s:={s with back:=b}) ⟨h.ska,h.skh,h.skp⟩ T hL _
theorem SkOk.up {j k:Nat}{s:Sk}(h:SkOk j s)(hk:j≤k):SkOk k s:=⟨h.ska,h.skh,⟨Nat.le_trans h.skp.1 hk,h.skp.2⟩⟩
theorem EdOk.all {j:Nat}{e:EdS}(h:EdOk j e)(ht:TxOk e.tx):TxOks e.all∧e.all.length≤501:=by
 have hl0:∃s,yL e.past e.pat e.stash 0 e.tx.l=some s∧s.length≤65536∧R32ok s:=by
  unfold yL;rw[if_neg (by omega),if_neg (by omega)]
  split
  ·exact⟨_,rfl,ht.len,ht.r32⟩
  ·exact⟨_,rfl,h.stash⟩
 obtain⟨s,hs,hs2⟩:=hl0;unfold EdS.all;rw[hs];refine⟨fun x hx=>?_,by simp;have:=h.plen;omega⟩;rcases List.mem_cons.1 hx with rfl|hx
 ·exact hs2
 ·exact h.ptx x (by simpa using hx)
structure Stk where
 px:Bool
 k:Int
 r:Int
 m:Bool
def zI (px:Bool)(k:KeyV):Stk:=if k.kind=4 then⟨false,4,0,false⟩else⟨px,k.kind,k.rune,k.meta_⟩
theorem cmdK_eq (px:Bool)(k:KeyV):lookK (zI px k).px (zI px k).k (zI px k).r (zI px k).m=cmdK px k:=by
 unfold zI cmdK;by_cases h:k.kind=4
 ·rw[if_pos h,if_pos h]
 ·rw[if_neg h,if_neg h]
theorem of_u (px:Bool)(k:KeyV)(A:Option Addr)(n c:Nat)(w:World):
 Calls Tryz.prog 37 #[.bool px,.agg #[.int .i64 k.kind,.int .i32 k.rune,.bool k.meta_,.slice A n c]] w fun e w'=>e=.returned (.agg #[.bool (zI px k).px,.int .i64 (zI px k).k,.int .i32 (zI px k).r,.bool (zI px k).m])∧Kp w w':=by
 refine(strokeOf_any px k.kind k.rune k.meta_ A n c w).mono ?_;intro e w' h;refine⟨?_,h.2⟩;rw[h.1];unfold zI
 split<;>rfl
end
end Go.Proofs.YtociefdcccokjaaGreat

/-
  Lemmas for TopMacro. Conditions: each states its own.
-/
import Derived.Test.YtociefdcccokjaaGreatG24
set_option maxHeartbeats 12800000
namespace Go.Proofs.YtociefdcccokjaaGreat
open Go.RowKit Go.Lib
section
variable {D:Nat→Prop}
def RetCh (D:Nat→Prop)(E X G R g:Nat)(p:EdS×Bool)(w:World)(en:Ending)(w':World):Prop:=en=.returned (.bool p.2)∧∃X' G' R' v',EdAt D w' E X' G' R' g p.1 v'∧EdN E X G R X' G' R' w w'
structure UnOk (us:List Grp):Prop where
 len:us.length≤2000
 es:∀g∈us,g.es.length≤1000000
section
variable (E X G R g:Nat)(e:EdS)(v:EdL)(F:Nat→Prop)(T:TM)(frm tt:Int)(A:Option Addr)(n c:Nat)(ins:List Int)(join:Bool)(wT w:World)(h:EdAt D w E X G R g e v)(hT:TabN wT w g T (Eb E X G R))
 (hi:Ru w F A n c ins)(h32:R32ok ins)(hn:n≤67108864)
include h hT hi h32 hn
theorem edChange_none (ho:yQ T e.tx frm tt ins=none):Calls Tryz.prog 102 #[.pointer (some ⟨E,0,none⟩),.int .i64 frm,.int .i64 tt,.slice A n c,.bool join] w (RetCh D E X G R g (e.ring_,false) w):=by
 have HR:=hid (textReplace_any F X G R g e.tx T frm tt A n c ins wT w (h.2.tx.tx fun k hk hx=>hk (.inr hx)) (hT.less fun k hk=>.inr hk) hi h32 hn);rw[ho]at HR;have p2:w.cell? ⟨E,2,none⟩=some (.pointer (some ⟨X,0,none⟩)):=(h.1.at_ rfl).1;have H:=hid h;clear h hT hi h32 hn ho;go_enter Tryz.func102,Tryz.ntmps102;go_wp2_with fail;refine HR.out.mono ?_;rintro en w1 ⟨k,hk,rfl,k1⟩;have hk':decide ((k:Int)=0)=false:=by simp;omega
 have hk2:¬((k:Int)=0):=by omega
 clear HR;obtain⟨H1,K1⟩:=hid2 (H.out.kp (k1.alloc (.cells #[.int .i64 0,.slice none 0 0,.slice none 0 0,.int .i64 0] 267))) (k1.alloc (.cells #[.int .i64 0,.slice none 0 0,.slice none 0 0,.int .i64 0] 267));have HB:=hid (zO E X G R g e v _ H1.out);go_wp2_with fail;refine HB.out.mono ?_;rintro en w2 ⟨rfl,h2,m2⟩;go_wp2_with fail;go_ret;exact⟨rfl,X,G,R,v,h2,.of_mu ((Mu.of_kp K1.out).trans m2 fun b _ hb=>.inl hb)⟩
end
theorem undoAdd_any (F:Nat→Prop)(A B C:Option Addr)(n c m d p q:Nat)(gs:List Grp)(ed:Ed)(cur:Int)(join:Bool)(w:World)(hFn:∀k,w.heap.size≤k→F k)(h:GrpsF F w A n c gs)(hB:Ru w F B m d ed.old)(hC:Ru w F C p q ed.new)(hu:UnOk gs):
 Calls Tryz.prog 140 #[.agg #[.slice A n c],.agg #[.int .i64 ed.at_,.slice B m d,.slice C p q],.int .i64 cur,.bool join] w (RetAddF F (addU gs ed cur join) w):=by
 have hl:=h.grps.len;have hul:=hu.len;cases join with
 |false=>exact undo_add_F F A B C n c m d p q gs ed cur false w hFn h hB hC (by omega) (.inl rfl)
 |true=>
  by_cases h0:n=0
  ·exact undo_add_F F A B C n c m d p q gs ed cur true w hFn h hB hC (by omega) (.inr h0)
  ·exact undo_add_join F A B C n c m d p q gs ed cur w hFn h hB hC (by omega) (by omega) hu.es
theorem EdAt.undo_ {w:World}{E X G R g:Nat}{e:EdS}{v:EdL}(h:EdAt D w E X G R g e v){A:Option Addr}{n c:Nat}{gs:List Grp}(hg:GrpsF (fun k=>¬Ew D E X G R k) w A n c gs):
 EdAt D (w.setCell ⟨E,7,none⟩ (.slice A n c)) E X G R g {e with undo:=gs} {v with uA:=A,un:=n,uc:=c}:=by
 have k:=h.2.set 7 (.slice A n c);have hE:¬(fun k=>¬Ew D E X G R k) (Addr.mk E 7 none).block:=fun hn=>hn (.inl (.inl rfl))
 exact⟨h.1.put 7 _,⟨k.tx,k.off,k.ring,hg.setCell hE _,k.past,k.stash,k.pat,k.lines,k.lnil,k.dlt⟩⟩
theorem EdAt.line {w w':World}{E X G R R' g:Nat}{e:EdS}{v:EdL}{t:Tx}(h:EdAt D w E X G R g e v)(hR:R'=R∨w.heap.size≤R')(m:Mu (Xb X G R) w w')(ht:TxAtF (NewX w.heap.size X G R') w' X G R' g t):
 EdAt D w' E X G R' g {e with tx:=t} v∧EdN E X G R X G R' w w':=by
 have n:EdN E X G R X G R' w w':=⟨.inl rfl,.inl rfl,hR,m.weak fun _ _ h=>.inr h⟩;exact⟨⟨m.bx h.1 h.2.off,h.2.step n h.1.lt ht⟩,n⟩
section
variable (E X G R g:Nat)(e:EdS)(v:EdL)(F:Nat→Prop)(T:TM)(frm tt:Int)(A:Option Addr)(n c:Nat)(ins:List Int)(join:Bool)(wT w:World)(h:EdAt D w E X G R g e v)(hT:TabN wT w g T (Eb E X G R))
 (hi:Ru w F A n c ins)(h32:R32ok ins)(hn:n≤67108864)(hu:UnOk e.undo)(hmk:e.mark≤1099511627776)
include h hT hi h32 hn hu hmk
theorem edChange_some (t:Tx)(ed:Ed)(cur:Int)(ho:yQ T e.tx frm tt ins=some (t,ed,cur)):
 Calls Tryz.prog 102 #[.pointer (some ⟨E,0,none⟩),.int .i64 frm,.int .i64 tt,.slice A n c,.bool join] w (RetCh D E X G R g (e.change T frm tt ins join) w):=by
 have HR:=hid (textReplace_any F X G R g e.tx T frm tt A n c ins wT w (h.2.tx.tx fun k hk hx=>hk (.inr hx)) (hT.less fun k hk=>.inr hk) hi h32 hn);rw[ho]at HR;have p2:w.cell? ⟨E,2,none⟩=some (.pointer (some ⟨X,0,none⟩)):=(h.1.at_ rfl).1;have hres:e.change T frm tt ins join=({EdS.settle (EdS.moved {e with tx:=t,undo:=addU e.undo ed e.cursor join} ed)with cursor:=cur},true):=by unfold EdS.change;rw[ho]
 obtain⟨ef,hef⟩:∃ef,ef={EdS.settle (EdS.moved {e with tx:=t,undo:=addU e.undo ed e.cursor join} ed)with cursor:=cur}:=⟨_,rfl⟩;rw[hres,←hef];have HEF:=hid hef;clear hef;obtain⟨HOK,HU,HMK,H⟩:=hid4 (fun(ht:TxOk t)=>replaceE_ok hT.at_.ok ho (h.2.tx.tx fun k hk hx=>hk (.inr hx)).ok h32 ht) hu hmk h;clear h hT hi h32 hn ho hres hu hmk;go_enter Tryz.func102,Tryz.ntmps102;go_wp2_with fail;refine HR.out.mono ?_;rintro en w1 ⟨A1,n1,c1,A2,n2,c2,R',rfl,hR',ht,hold,hnew,m1⟩;obtain⟨h1,N1⟩:=H.out.line hR' m1 ht;have hok:=HOK.out (ht.tx fun k hk=>hk.2).ok;have wkE:∀k,k<w1.heap.size→NewX w.heap.size X G R' k→¬Ew D E X G R' k:=by
  rintro k _ ⟨q1,q2⟩ ((rfl|qd)|q3)
  ·have:=H.out.1.lt;omega
  ·have:=H.out.2.dlt k qd;omega
  ·exact q2 q3
 obtain⟨HO1,HN1,HEK,H1,HNX⟩:=hid5 (Sl.weak hold (fun k hk=>wkE k hk)) (Sl.weak hnew (fun k hk=>wkE k hk)) hok h1 N1;clear HR h1 N1 hok wkE hold hnew ht m1 hR' HOK;have k1:=(Kp.refl w1).alloc (.cells #[.int .i64 ed.at_,.slice A1 n1 c1,.slice A2 n2 c2,.int .i64 cur] 267);have bc:=Bx.new w1 #[.int .i64 ed.at_,.slice A1 n1 c1,.slice A2 n2 c2,.int .i64 cur] 267;go_upto_region 5 with fail;obtain⟨C,hC⟩:∃C,C=w1.heap.size:=⟨_,rfl⟩;rw[←hC]at bc⊢;obtain⟨H2,HO2,HN2,HBC,HNY,HCE⟩:=hid6 (H1.out.kp k1) (Sl.kp HO1.out k1) (Sl.kp HN1.out k1) bc (HNX.out.trans (.refl k1)) (show C≠E by have:=H1.out.1.lt;omega);clear HO1 HN1 H1 HNX k1 bc p2;generalize(w1.alloc (.cells #[.int .i64 ed.at_,.slice A1 n1 c1,.slice A2 n2 c2,.int .i64 cur] 267))=w2 at *;clear hC;obtain⟨p7,f7⟩:w2.cell? ⟨E,7,none⟩=some (.slice v.uA v.un v.uc)∧w2.frozen? ⟨E,7,none⟩=false:=H2.out.1.at_ rfl;have p3:w2.cell? ⟨E,3,none⟩=some (.int .i64 e.cursor):=(H2.out.1.at_ rfl).1;obtain⟨b0,b1,b2,b3,_,_,_,_⟩:=HBC.out.four;have HAD:=hid (fun(wx:World) (kx:Kp w2 wx)=>undoAdd_any (fun k=>¬Ew D E X G R' k) v.uA A1 A2 v.un v.uc n1 c1 n2 c2 e.undo ed e.cursor join wx
  (fun k hk hE=>by have:=(H2.out.kp kx).lt k hE;omega) ((H2.out.kp kx).2.undo) (Sl.kp HO2.out kx) (Sl.kp HN2.out kx) HU.out)
 go_cut [] (fun wx=>∃v',EdAt D wx E X G R' g {e with tx:=t,undo:=addU e.undo ed e.cursor join} v'∧Mu (fun k=>k=E) w2 wx)
 case first=>
  go_region_with ((go_at_call 140;refine(HAD.out _ (Kp.refl w2).drew).mono ?_;rintro en w3 ⟨A3,n3,c3,rfl,hg3,k3⟩;have K3:=hid ((Kp.refl w2).drew.trans k3);have HB3:=hid (H2.out.kp K3.out);have HG3:=hid hg3;have HC3:=hid (HBC.out.kp K3.out);obtain⟨q7,g7⟩:w3.cell? ⟨E,7,none⟩=some (.slice v.uA v.un v.uc)∧w3.frozen? ⟨E,7,none⟩=false:=HB3.out.1.at_ rfl;have q3:w3.cell? ⟨E,3,none⟩=some (.int .i64 e.cursor):=(HB3.out.1.at_ rfl).1;obtain⟨d0,d1,d2,d3,_,_,_,_⟩:=HC3.out.four;clear hg3 k3))
  all_goals
   go_wp2_with fail;go_meet;exact⟨_,HB3.out.undo_ HG3.out,Mu.setCell (S:=fun k=>k=E) (p:=⟨E,7,none⟩) (Mu.of_kp K3.out) rfl _⟩
 case rest=>
 obtain⟨v',ha,ma⟩:=hcut;obtain⟨HB4,N4,HMV⟩:=hid3 (ma.bx HBC.out HCE.out) (HNY.out.then_mu (ma.weak (S':=Eb E X G R') fun _ _ q=>.inl q)) (moved_any E X G R' g _ v' ed A1 A2 n1 c1 n2 c2 _ ha (Ru.len HO2.out) (Ru.len HN2.out) (by have:=HEK.out.1.at0;have:=HEK.out.1.at1;omega) (by have:=HEK.out.1.old;have:=Ru.len HO2.out;omega) (by have:=HEK.out.1.new;have:=Ru.len HN2.out;omega) HMK.out);clear ha ma H2 HBC HNY HAD p7 f7 p3 b0 b1 b2 b3;obtain⟨b0,b1,b2,b3,_,_,_,_⟩:=HB4.out.four;go_wp2_with fail;refine HMV.out.mono ?_;rintro en w5 ⟨rfl,h5,m5⟩;obtain⟨HB5,N5,HST⟩:=hid3 (m5.bx HB4.out HCE.out) (N4.out.then_mu (m5.weak (S':=Eb E X G R') fun _ _ q=>.inl q)) (settle_any E X G R' g _ v' w5 h5);clear h5 m5 HMV HB4 N4 b0 b1 b2 b3;obtain⟨b0,b1,b2,b3,_,_,_,_⟩:=HB5.out.four;go_wp2_with fail;refine HST.out.mono ?_;rintro en w6 ⟨rfl,h6,m6⟩;obtain⟨HB6,N6,H6⟩:=hid3 (m6.bx HB5.out HCE.out) (N5.out.then_mu (m6.weak (S':=Eb E X G R') fun _ _ q=>.inl q)) h6;clear h6 m6 HST HB5 N5 b0 b1 b2 b3;obtain⟨b0,b1,b2,b3,_,_,_,_⟩:=HB6.out.four;obtain⟨c3,f3⟩:w6.cell? ⟨E,3,none⟩=some (.int .i64 _)∧w6.frozen? ⟨E,3,none⟩=false:=H6.out.1.at_ rfl;go_wp2_with fail;go_ret;refine⟨rfl,X,G,R',v',?_,N6.out.then_mu (Mu.setCell (S:=Eb E X G R') (p:=⟨E,3,none⟩) (Mu.of_kp (Kp.refl _)) (.inl rfl) _)⟩;rw[HEF.out];exact H6.out.set 3 _ rfl rfl rfl rfl rfl rfl rfl rfl
end
def RetE (D:Nat→Prop)(j:Nat)(E X G R g:Nat)(p:EdS)(r:Value)(w:World)(en:Ending)(w':World):Prop:=en=.returned r∧∃X' G' R' v',EdAt D w' E X' G' R' g p v'∧EdN E X G R X' G' R' w w'∧EdOk j p
theorem zZ (E X G R g:Nat)(e:EdS)(v:EdL)(F:Nat→Prop)(T:TM)(frm tt:Int)(A:Option Addr)(n c:Nat)(ins:List Int)(join:Bool)(wT w:World)(h:EdAt D w E X G R g e v)(hT:TabN wT w g T (Eb E X G R))
 (hi:Ru w F A n c ins)(h32:R32ok ins)(hn:n≤67108864)(j:Nat)(ok:EdOk j e)(hj:j+1≤1000):
 Calls Tryz.prog 102 #[.pointer (some ⟨E,0,none⟩),.int .i64 frm,.int .i64 tt,.slice A n c,.bool join] w (RetE D (j+1) E X G R g (e.change T frm tt ins join).1 (.bool (e.change T frm tt ins join).2) w):=by
 have htx:TxOk e.tx:=(h.2.tx.tx fun k hk hx=>hk (.inr hx)).ok;have hu:UnOk e.undo:=⟨by have:=ok.ulen;omega,fun q hq=>by have:=(ok.ues q hq).1;omega⟩;have hm:e.mark≤1099511627776:=by have:=ok.m1;omega
 have key:Calls Tryz.prog 102 #[.pointer (some ⟨E,0,none⟩),.int .i64 frm,.int .i64 tt,.slice A n c,.bool join] w (RetCh D E X G R g (e.change T frm tt ins join) w):=by
  cases ho:yQ T e.tx frm tt ins with
  |none=>
   have he:e.change T frm tt ins join=(e.ring_,false):=by unfold EdS.change;rw[ho]
   rw[he];exact edChange_none E X G R g e v F T frm tt A n c ins join wT w h hT hi h32 hn ho
  |some p=>
   obtain⟨t,ed,cur⟩:=p;exact edChange_some E X G R g e v F T frm tt A n c ins join wT w h hT hi h32 hn hu hm t ed cur ho
 refine key.mono ?_;rintro en w' ⟨he,X',G',R',v',h',N⟩;exact⟨he,X',G',R',v',h',N,ok.change hT.at_.ok htx h32 (h'.2.tx.tx fun k hk hx=>hk (.inr hx)).ok hj⟩
end
section
variable {D:Nat→Prop}
section
variable {F G:Nat→Prop}{w w':World}{A:Option Addr}{n c:Nat}{es:List Ed}
theorem EdsG.frame (h:EdsG F w A n c es)(hs:w.heap.size≤w'.heap.size)(hk:∀k,F k→k<w.heap.size→w'.heap[k]? =w.heap[k]?):EdsG F w' A n c es:=by
 obtain⟨css,h1,h2,h3⟩:=h;exact⟨css,h1.frame hs hk,h2.mono (EdVF.frame hs hk),h3⟩
theorem EdsG.kp (h:EdsG F w A n c es)(k:Kp w w'):EdsG F w' A n c es:=h.frame k.size fun i _ hi=>k.block i hi
theorem EdsG.weak (h:EdsG F w A n c es)(hG:∀k,k<w.heap.size→F k→G k):EdsG G w A n c es:=by
 obtain⟨css,h1,h2,h3⟩:=h;exact⟨css,h1.weak hG,h2.mono (EdVF.weak hG),h3⟩
theorem EdsFG.g (h:EdsFG F G w A n c es)(hF:∀k,k<w.heap.size→F k→G k):EdsG G w A n c es:=by
 obtain⟨css,h1,h2,h3⟩:=h;exact⟨css,h1.weak hF,h2,h3⟩
theorem EdsFG.kp' (h:EdsFG F G w A n c es)(k:Kp w w'):EdsFG F G w' A n c es:=by
 obtain⟨css,h1,h2,h3⟩:=h;exact⟨css,h1.kp k,h2.mono (EdVF.frame k.size fun i _ hi=>k.block i hi),h3⟩
theorem EdsG.get (h:EdsG F w A n c es){i:Nat}{e:Ed}(he:es[i]? =some e):∃ad B m d C p q,A=some ad∧w.cell? (ad.add (i*3))=some (.int .i64 e.at_)∧
 w.cell? ⟨(ad.add (i*3)).block,(ad.add (i*3)).off+1,none⟩=some (.slice B m d)∧w.cell? ⟨(ad.add (i*3)).block,(ad.add (i*3)).off+2,none⟩=some (.slice C p q)∧Ru w F B m d e.old∧Ru w F C p q e.new:=by
 obtain⟨css,h1,h2,h3⟩:=h;have hl:Lst (EdVF F) 3 w A n c es:=⟨css,h1.any,h2,h3⟩;obtain⟨ad,cs,e1,⟨B,m,d,C,p,q,rfl,h1,h2⟩,hc⟩:=Lst.get (fun g cs h=>EdV.len g cs (EdVF.ed g cs h)) hl he;refine⟨ad,B,m,d,C,p,q,e1,?_,?_,?_,h1,h2⟩
 ·simpa using hc 0 (by omega)
 ·have:=hc 1 (by omega);rwa[zF _ _ 0]at this
 ·have:=hc 2 (by omega);rwa[zF _ _ 1]at this
end
section
variable {w w':World}{E X G R X' G' R':Nat}
theorem EdN.keep (h:EdN E X G R X' G' R' w w'):∀k,(¬Ew D E X G R k∧k<w.heap.size)→k<w.heap.size→w'.heap[k]? =w.heap[k]? :=fun k hk hl=>h.mu.block k hl fun hb=>hk.1 hb.ew
theorem EdN.still (h:EdN E X G R X' G' R' w w'):∀k,k<w'.heap.size→(¬Ew D E X G R k∧k<w.heap.size)→¬Ew D E X' G' R' k:=fun k _ hk=>h.off k hk.2 hk.1
theorem EdN.ru {A:Option Addr}{n c:Nat}{xs:List Int}(h:EdN E X G R X' G' R' w w')(hs:Ru w (fun k=>¬Ew D E X G R k) A n c xs):Ru w' (fun k=>¬Ew D E X' G' R' k) A n c xs:=
 Sl.weak (Sl.frame (Sl.weak (G:=fun k=>¬Ew D E X G R k∧k<w.heap.size) hs (fun _ hl hk=>⟨hk,hl⟩)) h.mu.size h.keep) h.still
theorem EdN.eds {A:Option Addr}{n c:Nat}{xs:List Ed}(h:EdN E X G R X' G' R' w w')(hs:EdsG (fun k=>¬Ew D E X G R k) w A n c xs):EdsG (fun k=>¬Ew D E X' G' R' k) w' A n c xs:=
 ((hs.weak (G:=fun k=>¬Ew D E X G R k∧k<w.heap.size) (fun _ hl hk=>⟨hk,hl⟩)).frame h.mu.size h.keep).weak h.still
theorem EdN.bx {b:Nat}{cs:Array Value}{t:TypeId}(h:EdN E X G R X' G' R' w w')(hs:Bx w b cs t)(hb:¬Ew D E X G R b):Bx w' b cs t∧¬Ew D E X' G' R' b:=⟨h.mu.bx hs (fun hx=>hb hx.ew),h.off b hs.lt hb⟩
theorem EdN.then_kp {w'':World}(h:EdN E X G R X' G' R' w w')(k:Kp w' w''):EdN E X G R X' G' R' w w'':=h.trans (.refl k)
theorem EdN.set {w0:World}{X0 G0 R0:Nat}(h:EdN E X0 G0 R0 X G R w0 w)(i:Nat)(u:Value):EdN E X0 G0 R0 X G R w0 (w.setCell ⟨E,i,none⟩ u):=
 h.then_mu (Mu.setCell (S:=Eb E X G R) (p:=⟨E,i,none⟩) (Mu.of_kp (Kp.refl _)) (.inl rfl) u)
end
theorem EdAt.c {w:World}{E X G R g:Nat}{e:EdS}{v:EdL}(h:EdAt D w E X G R g e v)(i:Nat){u:Value}(hi:(edV g X e v)[i]? =some u):w.cell? ⟨E,i,none⟩=some u∧w.frozen? ⟨E,i,none⟩=false:=h.1.at_ hi
theorem EdAt.new_off {w:World}{E X G R g:Nat}{e:EdS}{v:EdL}(h:EdAt D w E X G R g e v):∀k,w.heap.size≤k→¬Ew D E X G R k:=fun k hk hE=>by have:=h.lt k hE;omega
structure UnSt (D:Nat→Prop)(E X G R g:Nat)(e:EdS)(v:EdL)(T:TM)(es:List Ed)(M:Int)(w wr:World)(P:Nat)(B:Option Addr)(m d:Nat)(cur:Int)(k:Nat)(t:Tx)(mk:Int)(R1:Nat):Prop where
 ed:EdAt D wr E X G R1 g {e with tx:=t,mark:=mk} v
 n:EdN E X G R X G R1 w wr
 gr:EdsG (fun q=>¬Ew D E X G R1 q) wr B m d es
 box:Bx wr P #[.slice B m d,.int .i64 cur] 235
 off:¬Ew D E X G R1 P
 res:EdS.undoes T (es.take k).reverse {e with tx:=t,mark:=mk}=EdS.undoes T es.reverse e
 mb:mk+65536*k≤M
theorem take_rev {es:List Ed}{k:Nat}{x:Ed}(h:es[k]? =some x):(es.take (k+1)).reverse=x::(es.take k).reverse:=by
 rw[List.take_add_one,h];simp
theorem undoes_some {T:TM}{x:Ed}{r:List Ed}{e:EdS}{t:Tx}(h:doE T e.tx x.back=some t):EdS.undoes T (x::r) e=EdS.undoes T r (EdS.moved {e with tx:=t} x.back):=by
 show(match doE T e.tx x.back with|some t=>EdS.undoes T r (EdS.moved {e with tx:=t} x.back)|none=>(e,false))=_;rw[h]
theorem undoes_none {T:TM}{x:Ed}{r:List Ed}{e:EdS}(h:doE T e.tx x.back=none):EdS.undoes T (x::r) e=(e,false):=by
 show(match doE T e.tx x.back with|some t=>EdS.undoes T r (EdS.moved {e with tx:=t} x.back)|none=>(e,false))=_;rw[h]
theorem EdOk.run_ {j:Nat}{e:EdS}(h:EdOk j e)(la ru:Int)(b:Bool)(hr:0≤ru∧ru≤20):EdOk j {e with last:=la,run:=ru,bell:=b}:=
 ⟨h.jb,h.c1,h.m1,h.rlen,h.rtx,h.rat0,h.rat1,h.ulen,h.ues,h.pat0,h.pat1,h.plen,h.ptx,h.stash,h.ska,h.skh,h.skp,h.n0,hr,h.lines⟩
theorem EdOk.mark {j:Nat}{e:EdS}(h:EdOk j e)(t:Tx)(mk:Int)(hm:mk≤67108864*(((j+1:Nat):Int)+1))(hj:j+1≤1000):EdOk (j+1) {e with tx:=t,mark:=mk}:=by
 have hu:=h.up (k:=j+1) (by omega) hj;exact⟨hj,hu.c1,hm,hu.rlen,hu.rtx,hu.rat0,hu.rat1,hu.ulen,hu.ues,hu.pat0,hu.pat1,hu.plen,hu.ptx,hu.stash,hu.ska,hu.skh,hu.skp,hu.n0,hu.run,hu.lines⟩
theorem EdOk.drop {j:Nat}{e:EdS}(h:EdOk j e){q:Grp}(hq:e.undo.getLast? =some q)(t:Tx)(mk:Int)(hm:mk≤67108864*(((j+1:Nat):Int)+1))(hj:j+1≤1000):EdOk (j+1) {e with tx:=t,mark:=mk,undo:=e.undo.dropLast,cursor:=q.cur}:=by
 have hu:=h.up (k:=j+1) (by omega) hj;exact⟨hj,(hu.ues q (List.mem_of_getLast? hq)).2.1,hm,hu.rlen,hu.rtx,hu.rat0,hu.rat1,by have:=hu.ulen;simp;omega,fun g hg=>hu.ues g (List.dropLast_subset _ hg),hu.pat0,hu.pat1,hu.plen,hu.ptx,hu.stash,hu.ska,hu.skh,hu.skp,hu.n0,hu.run,hu.lines⟩
end
section
variable {D:Nat→Prop}
theorem notE {E X G R:Nat}(i:Nat):¬(fun k=>¬Ew D E X G R k) (Addr.mk E i none).block:=fun hn=>hn (.inl (.inl rfl))
section
variable {w:World}{E X G R g:Nat}{e:EdS}{v:EdL}(h:EdAt D w E X G R g e v)
include h
theorem EdAt.count (c:Cn):EdAt D ((((w.setCell ⟨E,21,none⟩ (.bool c.some_)).setCell ⟨E,22,none⟩ (.bool c.minus)).setCell ⟨E,23,none⟩ (.bool c.digits)).setCell ⟨E,24,none⟩ (.int .i64 c.n)) E X G R g {e with cnt:=c} v:=by
 have k:=(((h.2.set 21 (.bool c.some_)).set 22 (.bool c.minus)).set 23 (.bool c.digits)).set 24 (.int .i64 c.n);exact⟨(((h.1.put 21 _).put 22 _).put 23 _).put 24 _,⟨k.tx,k.off,k.ring,k.undo,k.past,k.stash,k.pat,k.lines,k.lnil,k.dlt⟩⟩
theorem EdAt.ring_ {A:Option Addr}{n c:Nat}{L:List (List Int)}{at_:Int}(hL:Txs w (fun k=>¬Ew D E X G R k) (fun k=>¬Ew D E X G R k) A n c L):
 EdAt D ((w.setCell ⟨E,5,none⟩ (.slice A n c)).setCell ⟨E,6,none⟩ (.int .i64 at_)) E X G R g {e with ring:=L,rat:=at_} {v with rA:=A,rn:=n,rc:=c}:=by
 have k:=(h.2.set 5 (.slice A n c)).set 6 (.int .i64 at_);exact⟨(h.1.put 5 _).put 6 _,⟨k.tx,k.off,(hL.setCell (notE 5) (notE 5) _).setCell (notE 6) (notE 6) _,k.undo,k.past,k.stash,k.pat,k.lines,k.lnil,k.dlt⟩⟩
theorem EdAt.past_ {A B:Option Addr}{n c m d:Nat}{L:List (List Int)}{at_:Int}{st:List Int}(hL:Txs w (fun k=>¬Ew D E X G R k) (fun k=>¬Ew D E X G R k) A n c L)(hS:Ru w (fun k=>¬Ew D E X G R k) B m d st):
 EdAt D (((w.setCell ⟨E,8,none⟩ (.slice A n c)).setCell ⟨E,9,none⟩ (.int .i64 at_)).setCell ⟨E,10,none⟩ (.slice B m d)) E X G R g {e with past:=L,pat:=at_,stash:=st} {v with pA:=A,pn:=n,pc:=c,sA:=B,sn:=m,sc:=d}:=by
 have k:=((h.2.set 8 (.slice A n c)).set 9 (.int .i64 at_)).set 10 (.slice B m d);exact⟨((h.1.put 8 _).put 9 _).put 10 _,⟨k.tx,k.off,k.ring,k.undo,((hL.setCell (notE 8) (notE 8) _).setCell (notE 9) (notE 9) _).setCell (notE 10) (notE 10) _,
  Sl.setCell (Sl.setCell (Sl.setCell hS (notE 8) _) (notE 9) _) (notE 10) _,k.pat,k.lines,k.lnil,k.dlt⟩⟩
theorem EdAt.seek_ {A:Option Addr}{n c:Nat}{s:Sk}(hp:Ru w (fun k=>¬Ew D E X G R k) A n c s.pat):
 EdAt D (((((((w.setCell ⟨E,11,none⟩ (.bool s.back)).setCell ⟨E,12,none⟩ (.slice A n c)).setCell ⟨E,13,none⟩ (.int .i64 s.at_)).setCell ⟨E,14,none⟩ (.int .i64 s.place)).setCell ⟨E,15,none⟩ (.bool s.failed)).setCell ⟨E,16,none⟩ (.int .i64 s.homeAt)).setCell ⟨E,17,none⟩ (.int .i64 s.homePlace))
  E X G R g {e with sk:=s} {v with qA:=A,qn:=n,qc:=c}:=by
 have k:=((((((h.2.set 11 (.bool s.back)).set 12 (.slice A n c)).set 13 (.int .i64 s.at_)).set 14 (.int .i64 s.place)).set 15 (.bool s.failed)).set 16 (.int .i64 s.homeAt)).set 17 (.int .i64 s.homePlace);have b1:Bx (w.setCell ⟨E,11,none⟩ (.bool s.back)) E (edV g X {e with sk:={e.sk with back:=s.back}} v) 100:=h.1.put 11 _;have b2:Bx _ E (edV g X {e with sk:={e.sk with back:=s.back}} {v with qA:=A,qn:=n,qc:=c}) 100:=b1.put 12 (.slice A n c);have b3:Bx _ E (edV g X {e with sk:={e.sk with back:=s.back,at_:=s.at_}} {v with qA:=A,qn:=n,qc:=c}) 100:=b2.put 13 (.int .i64 s.at_);have b4:Bx _ E (edV g X {e with sk:={e.sk with back:=s.back,at_:=s.at_,place:=s.place}} {v with qA:=A,qn:=n,qc:=c}) 100:=b3.put 14 (.int .i64 s.place);have b5:Bx _ E (edV g X {e with sk:={e.sk with back:=s.back,at_:=s.at_,place:=s.place,failed:=s.failed}} {v with qA:=A,qn:=n,qc:=c}) 100:=b4.put 15 (.bool s.failed);have b6:Bx _ E (edV g X {e with sk:={e.sk with back:=s.back,at_:=s.at_,place:=s.place,failed:=s.failed,homeAt:=s.homeAt}} {v with qA:=A,qn:=n,qc:=c}) 100:=b5.put 16 (.int .i64 s.homeAt);have b7:Bx _ E (edV g X {e with sk:=s} {v with qA:=A,qn:=n,qc:=c}) 100:=b6.put 17 (.int .i64 s.homePlace);exact⟨b7,⟨k.tx,k.off,k.ring,k.undo,k.past,k.stash,
  Sl.setCell (Sl.setCell (Sl.setCell (Sl.setCell (Sl.setCell (Sl.setCell (Sl.setCell hp (notE 11) _) (notE 12) _) (notE 13) _) (notE 14) _) (notE 15) _) (notE 16) _) (notE 17) _,k.lines,k.lnil,k.dlt⟩⟩
end
section
variable {w w0:World}{E X0 G0 R0 X G R:Nat}
theorem EdN.set4 (h:EdN E X0 G0 R0 X G R w0 w)(a b c d:Value):EdN E X0 G0 R0 X G R w0 ((((w.setCell ⟨E,21,none⟩ a).setCell ⟨E,22,none⟩ b).setCell ⟨E,23,none⟩ c).setCell ⟨E,24,none⟩ d):=
 (((h.set 21 a).set 22 b).set 23 c).set 24 d
theorem EdN.set7 (h:EdN E X0 G0 R0 X G R w0 w)(a b c d e f g:Value):
 EdN E X0 G0 R0 X G R w0 (((((((w.setCell ⟨E,11,none⟩ a).setCell ⟨E,12,none⟩ b).setCell ⟨E,13,none⟩ c).setCell ⟨E,14,none⟩ d).setCell ⟨E,15,none⟩ e).setCell ⟨E,16,none⟩ f).setCell ⟨E,17,none⟩ g):=
 ((((((h.set 11 a).set 12 b).set 13 c).set 14 d).set 15 e).set 16 f).set 17 g
end
theorem EdN.txs {w w':World}{E X G R X' G' R':Nat}{A:Option Addr}{n c:Nat}{L:List (List Int)}(h:EdN E X G R X' G' R' w w')(hs:Txs w (fun k=>¬Ew D E X G R k) (fun k=>¬Ew D E X G R k) A n c L):
 Txs w' (fun k=>¬Ew D E X' G' R' k) (fun k=>¬Ew D E X' G' R' k) A n c L:=
 ((hs.weak (F':=fun k=>¬Ew D E X G R k∧k<w.heap.size) (G':=fun k=>¬Ew D E X G R k∧k<w.heap.size) (fun _ hl hk=>⟨hk,hl⟩) (fun _ hl hk=>⟨hk,hl⟩)).frame h.mu.size (fun k hk hl=>h.keep k hk hl) (fun k hk hl=>h.keep k hk hl)).weak h.still h.still
end
end Go.Proofs.YtociefdcccokjaaGreat

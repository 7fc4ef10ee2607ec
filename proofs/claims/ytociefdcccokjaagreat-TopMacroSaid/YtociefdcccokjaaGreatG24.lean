/-
  Lemmas for TopMacro. Conditions: each states its own.
-/
import Derived.Test.YtociefdcccokjaaGreatG19
import Derived.Test.YtociefdcccokjaaGreatG22
import Derived.Test.YtociefdcccokjaaGreatG23
set_option maxHeartbeats 12800000
namespace Go.Proofs.YtociefdcccokjaaGreat
open Go.RowKit Go.Lib
section
variable {D:Nat→Prop}
section
variable {w w':World}{b i:Nat}{cs:Array Value}{t:TypeId}{u:Value}
theorem Bx.at_ (h:Bx w b cs t)(hi:cs[i]? =some u):w.cell? ⟨b,i,none⟩=some u∧w.frozen? ⟨b,i,none⟩=false:=by
 unfold Bx at h;constructor
 ·simp[World.cell?,h,hi]
 ·simp[World.frozen?,h]
theorem Bx.put (h:Bx w b cs t)(i:Nat)(u:Value):Bx (w.setCell ⟨b,i,none⟩ u) b (cs.setIfInBounds i u) t:=by
 unfold Bx at h⊢;have hlt:b<w.heap.size:=(Array.getElem?_eq_some_iff.1 h).1;have hv:=(Array.getElem?_eq_some_iff.1 h).2;simp[World.setCell,hlt,Array.getElem_modify_self,hv]
end
def Eb (E X G R k:Nat):Prop:=k=E∨Xb X G R k
def Ew (D:Nat→Prop)(E X G R k:Nat):Prop:=(k=E∨D k)∨Xb X G R k
theorem Eb.ew {E X G R k:Nat}(h:Eb E X G R k):Ew D E X G R k:=h.elim (fun h=>.inl (.inl h)) .inr
structure EdL where
 rA:Option Addr
 rn:Nat
 rc:Nat
 uA:Option Addr
 un:Nat
 uc:Nat
 pA:Option Addr
 pn:Nat
 pc:Nat
 sA:Option Addr
 sn:Nat
 sc:Nat
 qA:Option Addr
 qn:Nat
 qc:Nat
 lA:Option Addr
 ln:Nat
 lc:Nat
def edV (g X:Nat)(e:EdS)(v:EdL):Array Value:=
 #[.pointer (some ⟨g,0,none⟩),.map none,.pointer (some ⟨X,0,none⟩),.int .i64 e.cursor,.int .i64 e.mark,.slice v.rA v.rn v.rc,.int .i64 e.rat,.slice v.uA v.un v.uc,
  .slice v.pA v.pn v.pc,.int .i64 e.pat,.slice v.sA v.sn v.sc,.bool e.sk.back,.slice v.qA v.qn v.qc,.int .i64 e.sk.at_,.int .i64 e.sk.place,.bool e.sk.failed,.int .i64 e.sk.homeAt,.int .i64 e.sk.homePlace,
  .bool e.seeks,.bool e.px,.bool e.quote,.bool e.cnt.some_,.bool e.cnt.minus,.bool e.cnt.digits,.int .i64 e.cnt.n,.int .i64 e.last,.int .i64 e.run,.bool e.bell,.bool e.redraw,.slice v.lA v.ln v.lc]
structure EdR (D:Nat→Prop)(w:World)(E X G R g:Nat)(e:EdS)(v:EdL):Prop where
 tx:TxAtF (fun k=>¬Ew D E X G R k) w X G R g e.tx
 off:¬Xb X G R E
 ring:Txs w (fun k=>¬Ew D E X G R k) (fun k=>¬Ew D E X G R k) v.rA v.rn v.rc e.ring
 undo:GrpsF (fun k=>¬Ew D E X G R k) w v.uA v.un v.uc e.undo
 past:Txs w (fun k=>¬Ew D E X G R k) (fun k=>¬Ew D E X G R k) v.pA v.pn v.pc e.past
 stash:Ru w (fun k=>¬Ew D E X G R k) v.sA v.sn v.sc e.stash
 pat:Ru w (fun k=>¬Ew D E X G R k) v.qA v.qn v.qc e.sk.pat
 lines:Txs w (fun k=>¬Ew D E X G R k) (fun k=>¬Ew D E X G R k) v.lA v.ln v.lc e.lines
 lnil:e.lines=[]→v.lA=none∧v.ln=0∧v.lc=0
 dlt:∀k,D k→k<w.heap.size
def EdAt (D:Nat→Prop)(w:World)(E X G R g:Nat)(e:EdS)(v:EdL):Prop:=Bx w E (edV g X e v) 100∧EdR D w E X G R g e v
theorem TxAtF.lt {F:Nat→Prop}{w:World}{X G R g:Nat}{x:Tx}(h:TxAtF F w X G R g x):∀k,Xb X G R k→k<w.heap.size:=by
 obtain⟨A,n,c,h1,h2,-⟩:=h;obtain⟨_,_,_,_,h',h'',_⟩:=h2;intro k e;rcases e with e|e|e
 ·rw[e];exact h1.lt
 ·rw[e];exact h'.lt
 ·rw[e];exact h''.lt
theorem EdAt.lt {w:World}{E X G R g:Nat}{e:EdS}{v:EdL}(h:EdAt D w E X G R g e v):∀k,Ew D E X G R k→k<w.heap.size:=by
 intro k hk;rcases hk with(rfl|hk)|hk
 ·exact h.1.lt
 ·exact h.2.dlt k hk
 ·exact h.2.tx.lt k hk
theorem EdR.kp {w w':World}{E X G R g:Nat}{e:EdS}{v:EdL}(h:EdR D w E X G R g e v)(k:Kp w w'):EdR D w' E X G R g e v:=
 ⟨h.tx.kp k,h.off,h.ring.kp k,h.undo.kp k,h.past.kp k,h.stash.kp k,h.pat.kp k,h.lines.kp k,h.lnil,fun q hq=>Nat.lt_of_lt_of_le (h.dlt q hq) k.size⟩
theorem EdAt.kp {w w':World}{E X G R g:Nat}{e:EdS}{v:EdL}(h:EdAt D w E X G R g e v)(k:Kp w w'):EdAt D w' E X G R g e v:=⟨h.1.kp k,h.2.kp k⟩
theorem EdR.set {w:World}{E X G R g:Nat}{e:EdS}{v:EdL}(h:EdR D w E X G R g e v)(i:Nat)(u:Value):EdR D (w.setCell ⟨E,i,none⟩ u) E X G R g e v:=by
 have hE:¬(fun k=>¬Ew D E X G R k) (Addr.mk E i none).block:=fun hn=>hn (.inl (.inl rfl))
 exact⟨h.tx.far hE h.off u,h.off,h.ring.setCell hE hE u,h.undo.setCell hE u,h.past.setCell hE hE u,Sl.setCell h.stash hE u,Sl.setCell h.pat hE u,h.lines.setCell hE hE u,h.lnil,by simpa[World.setCell]using h.dlt⟩
theorem EdAt.set {w:World}{E X G R g:Nat}{e e':EdS}{v:EdL}(h:EdAt D w E X G R g e v)(i:Nat)(u:Value)(hc:(edV g X e v).setIfInBounds i u=edV g X e' v)
 (h1:e'.tx=e.tx)(h2:e'.ring=e.ring)(h3:e'.undo=e.undo)(h4:e'.past=e.past)(h5:e'.stash=e.stash)(h6:e'.sk.pat=e.sk.pat)(h7:e'.lines=e.lines):EdAt D (w.setCell ⟨E,i,none⟩ u) E X G R g e' v:=by
 have k:=h.2.set i u;refine⟨hc▸h.1.put i u,⟨h1▸k.tx,k.off,h2▸k.ring,h3▸k.undo,h4▸k.past,h5▸k.stash,h6▸k.pat,h7▸k.lines,h7▸k.lnil,k.dlt⟩⟩
structure EdN (E X G R X' G' R':Nat)(w w':World):Prop where
 x:X'=X∨w.heap.size≤X'
 g:G'=G∨w.heap.size≤G'
 r:R'=R∨w.heap.size≤R'
 mu:Mu (Eb E X G R) w w'
theorem EdN.refl {E X G R:Nat}{w w':World}(k:Kp w w'):EdN E X G R X G R w w':=⟨.inl rfl,.inl rfl,.inl rfl,.of_kp k⟩
theorem EdN.of_mu {E X G R:Nat}{w w':World}(k:Mu (Eb E X G R) w w'):EdN E X G R X G R w w':=⟨.inl rfl,.inl rfl,.inl rfl,k⟩
theorem EdN.eb {E X G R X' G' R':Nat}{w w':World}(h:EdN E X G R X' G' R' w w'):∀k,Eb E X' G' R' k→Eb E X G R k∨w.heap.size≤k:=by
 intro k hk;rcases hk with rfl|rfl|rfl|rfl
 ·exact .inl (.inl rfl)
 ·exact h.x.imp (fun e=>.inr (.inl e)) id
 ·exact h.g.imp (fun e=>.inr (.inr (.inl e))) id
 ·exact h.r.imp (fun e=>.inr (.inr (.inr e))) id
theorem EdN.trans {E X G R X' G' R' X'' G'' R'':Nat}{w w' w'':World}(h:EdN E X G R X' G' R' w w')(k:EdN E X' G' R' X'' G'' R'' w' w''):EdN E X G R X'' G'' R'' w w'':=by
 have hs:=h.mu.size;have f:∀{a b c:Nat},(b=a∨w.heap.size≤b)→(c=b∨w'.heap.size≤c)→(c=a∨w.heap.size≤c):=by
  rintro a b c h1 h2;omega
 refine⟨f h.x k.x,f h.g k.g,f h.r k.r,h.mu.trans k.mu fun b hb hE=>?_⟩;rcases h.eb b hE with h|h
 ·exact h
 ·omega
theorem EdN.then_mu {E X G R X' G' R':Nat}{w w' w'':World}(h:EdN E X G R X' G' R' w w')(k:Mu (Eb E X' G' R') w' w''):EdN E X G R X' G' R' w w'':=h.trans (.of_mu k)
theorem EdN.tab {E X G R X' G' R':Nat}{w w' wT:World}{g:Nat}{T:TM}(h:EdN E X G R X' G' R' w w')(hT:TabN wT w g T (Eb E X G R)):TabN wT w' g T (Eb E X' G' R'):=by
 refine⟨hT.at_,h.mu.kp hT.kp hT.off,fun k hk=>?_⟩;have:=hT.kp.size;rcases h.eb k hk with h|h
 ·exact hT.off k h
 ·omega
theorem TabN.less {wT w:World}{g:Nat}{T:TM}{S S':Nat→Prop}(h:TabN wT w g T S)(hS:∀k,S' k→S k):TabN wT w g T S':=⟨h.at_,h.kp,fun k hk=>h.off k (hS k hk)⟩
theorem EdN.off {E X G R X' G' R':Nat}{w w':World}(h:EdN E X G R X' G' R' w w')(k:Nat)(hk:k<w.heap.size)(hn:¬Ew D E X G R k):¬Ew D E X' G' R' k:=by
 intro hE;rcases hE with(rfl|hd)|hx
 ·exact hn (.inl (.inl rfl))
 ·exact hn (.inl (.inr hd))
 ·rcases h.eb k (.inr hx)with h|h
  ·exact hn h.ew
  ·omega
theorem EdR.step {w w':World}{E X G R X' G' R' g:Nat}{e:EdS}{v:EdL}{t:Tx}(h:EdR D w E X G R g e v)(n:EdN E X G R X' G' R' w w')(hE:E<w.heap.size)(ht:TxAtF (NewX w.heap.size X' G' R') w' X' G' R' g t):
 EdR D w' E X' G' R' g {e with tx:=t} v:=by
 have off:¬Xb X' G' R' E:=by
  intro hx;have hh:∀{a b:Nat},E=b→(b=a∨w.heap.size≤b)→E=a:=by rintro a b h1 h2;omega
  rcases hx with hx|hx|hx
  ·exact h.off (.inl (hh hx n.x))
  ·exact h.off (.inr (.inl (hh hx n.g)))
  ·exact h.off (.inr (.inr (hh hx n.r)))
 have fr:∀k,¬Ew D E X G R k→k<w.heap.size→w'.heap[k]? =w.heap[k]? :=fun k hk hl=>n.mu.block k hl fun hb=>hk hb.ew
 have wk:∀k,k<w'.heap.size→(¬Ew D E X G R k∧k<w.heap.size)→¬Ew D E X' G' R' k:=fun k _ hk=>n.off k hk.2 hk.1
 refine⟨ht.weak fun k _ hk=>?_,off,?_,?_,?_,?_,?_,?_,h.lnil,fun q hq=>Nat.lt_of_lt_of_le (h.dlt q hq) n.mu.size⟩
 ·rintro((rfl|hd)|hx)
  ·have:=hk.1;omega
  ·have:=hk.1;have:=h.dlt k hd;omega
  ·exact hk.2 hx
 ·exact((h.ring.weak (F':=fun k=>¬Ew D E X G R k∧k<w.heap.size) (G':=fun k=>¬Ew D E X G R k∧k<w.heap.size) (fun k hl hk=>⟨hk,hl⟩) (fun k hl hk=>⟨hk,hl⟩)).frame n.mu.size (fun k hk hl=>fr k hk.1 hl) (fun k hk hl=>fr k hk.1 hl)).weak wk wk
 ·exact((h.undo.weak (G:=fun k=>¬Ew D E X G R k∧k<w.heap.size) (fun k hl hk=>⟨hk,hl⟩)).frame n.mu.size (fun k hk hl=>fr k hk.1 hl)).weak wk
 ·exact((h.past.weak (F':=fun k=>¬Ew D E X G R k∧k<w.heap.size) (G':=fun k=>¬Ew D E X G R k∧k<w.heap.size) (fun k hl hk=>⟨hk,hl⟩) (fun k hl hk=>⟨hk,hl⟩)).frame n.mu.size (fun k hk hl=>fr k hk.1 hl) (fun k hk hl=>fr k hk.1 hl)).weak wk wk
 ·exact(Sl.frame (Sl.weak (G:=fun k=>¬Ew D E X G R k∧k<w.heap.size) h.stash (fun k hl hk=>⟨hk,hl⟩)) n.mu.size (fun k hk hl=>fr k hk.1 hl)).weak wk
 ·exact(Sl.frame (Sl.weak (G:=fun k=>¬Ew D E X G R k∧k<w.heap.size) h.pat (fun k hl hk=>⟨hk,hl⟩)) n.mu.size (fun k hk hl=>fr k hk.1 hl)).weak wk
 ·exact((h.lines.weak (F':=fun k=>¬Ew D E X G R k∧k<w.heap.size) (G':=fun k=>¬Ew D E X G R k∧k<w.heap.size) (fun k hl hk=>⟨hk,hl⟩) (fun k hl hk=>⟨hk,hl⟩)).frame n.mu.size (fun k hk hl=>fr k hk.1 hl) (fun k hk hl=>fr k hk.1 hl)).weak wk wk
end
section
variable {D:Nat→Prop}
def RetB (D:Nat→Prop)(E X G R g:Nat)(e:EdS)(v:EdL)(w:World)(en:Ending)(w':World):Prop:=en=.returned (.tuple #[])∧EdAt D w' E X G R g e v∧Mu (fun k=>k=E) w w'
theorem retB {E X G R g:Nat}{e e':EdS}{v:EdL}{w w1:World}(h:EdAt D w E X G R g e v)(k:Kp w w1)(i:Nat)(u:Value)(hc:(edV g X e v).setIfInBounds i u=edV g X e' v)
 (h1:e'.tx=e.tx)(h2:e'.ring=e.ring)(h3:e'.undo=e.undo)(h4:e'.past=e.past)(h5:e'.stash=e.stash)(h6:e'.sk.pat=e.sk.pat)(h7:e'.lines=e.lines):
 RetB D E X G R g e' v w (.returned (.tuple #[])) (w1.setCell ⟨E,i,none⟩ u):=
 ⟨rfl,(h.kp k).set i u hc h1 h2 h3 h4 h5 h6 h7,Mu.setCell (S:=fun k=>k=E) (p:=⟨E,i,none⟩) (Mu.of_kp k) rfl u⟩
theorem retB_same {E X G R g:Nat}{e:EdS}{v:EdL}{w w1:World}(h:EdAt D w E X G R g e v)(k:Kp w w1):RetB D E X G R g e v w (.returned (.tuple #[])) w1:=⟨rfl,h.kp k,.of_kp k⟩
section
variable (E X G R g:Nat)(e:EdS)(v:EdL)(w:World)(h:EdAt D w E X G R g e v)
include h
theorem zO:Calls Tryz.prog 65 #[.pointer (some ⟨E,0,none⟩)] w (RetB D E X G R g e.ring_ v w):=by
 obtain⟨p27,f27⟩:w.cell? ⟨E,27,none⟩=some (.bool e.bell)∧w.frozen? ⟨E,27,none⟩=false:=h.1.at_ rfl;have H:=hid h;clear h;go_enter Tryz.func65,Tryz.ntmps65;go_wp2_with fail;go_end0;exact retB H.out (Kp.refl _) 27 _ rfl rfl rfl rfl rfl rfl rfl rfl
theorem settle_any:Calls Tryz.prog 118 #[.pointer (some ⟨E,0,none⟩)] w (RetB D E X G R g e.settle v w):=by
 have p4:w.cell? ⟨E,4,none⟩=some (.int .i64 e.mark):=(h.1.at_ rfl).1;have p2:w.cell? ⟨E,2,none⟩=some (.pointer (some ⟨X,0,none⟩)):=(h.1.at_ rfl).1;obtain⟨m,hm⟩:∃m,m=e.mark:=⟨_,rfl⟩;obtain⟨q,hq⟩:∃q,q=e.tx.floor m:=⟨_,rfl⟩;rw[←hm]at p4;have HFL:=hid (fun(wx:World) (kx:Kp w wx)=>zR X G R g e.tx wx (((h.kp kx).2.tx).tx (fun k hk hx=>hk (.inr hx))) m);rw[←hq]at HFL;obtain⟨HM,HQ,H⟩:=hid3 hm hq h;clear h hm hq;by_cases h0:0≤m
 ·have es:{e with mark:=q}=e.settle:=by unfold EdS.settle;rw[if_pos (by rw[←HM.out];exact h0),HQ.out,HM.out]
  rw[←es];clear es;go_enter Tryz.func118,Tryz.ntmps118;go_upto_region 1 with fail;go_region_with ((go_at_call 73;refine(HFL.out _ (Kp.refl w).drew).mono ?_;rintro en w3 ⟨rfl,k3⟩;have HB3:=hid (H.out.kp ((Kp.refl w).drew.trans k3));obtain⟨q4,g4⟩:w3.cell? ⟨E,4,none⟩=some (.int .i64 e.mark)∧w3.frozen? ⟨E,4,none⟩=false:=HB3.out.1.at_ rfl;rw[←HM.out]at q4;have q2:w3.cell? ⟨E,2,none⟩=some (.pointer (some ⟨X,0,none⟩)):=(HB3.out.1.at_ rfl).1))
  all_goals
   go_end0;exact retB H.out ((Kp.refl w).drew.trans k3) 4 _ rfl rfl rfl rfl rfl rfl rfl rfl
 ·have es:e=e.settle:=by unfold EdS.settle;rw[if_neg (by rw[←HM.out];exact h0)]
  rw[←es];clear es;go_enter Tryz.func118,Tryz.ntmps118;go_wp2_with fail;go_end0;exact retB_same H.out (Kp.refl _)
end
end
section
variable {D:Nat→Prop}
theorem moved_any (E X G R g:Nat)(e:EdS)(v:EdL)(x:Ed)(A B:Option Addr)(n c m d:Nat)(w:World)(h:EdAt D w E X G R g e v)(hn:x.old.length=n)(hm:x.new.length=m)
 (ha:0≤x.at_∧x.at_≤1000000)(hn':n≤1000000)(hm':m≤1000000)(hk:e.mark≤1099511627776):
 Calls Tryz.prog 117 #[.pointer (some ⟨E,0,none⟩),.agg #[.int .i64 x.at_,.slice A n c,.slice B m d]] w (RetB D E X G R g (EdS.moved e x) v w):=by
 obtain⟨p4,f4⟩:w.cell? ⟨E,4,none⟩=some (.int .i64 e.mark)∧w.frozen? ⟨E,4,none⟩=false:=h.1.at_ rfl;have hE:=h.1.lt;obtain⟨a,hha⟩:∃a,a=x.at_:=⟨_,rfl⟩;rw[←hha]at ha⊢;obtain⟨mk,hmk⟩:∃mk,mk=e.mark:=⟨_,rfl⟩;rw[←hmk]at hk p4;obtain⟨s,hs⟩:∃s,s=a+(n:Int):=⟨_,rfl⟩;obtain⟨t,ht⟩:∃t,t=a+(m:Int):=⟨_,rfl⟩;obtain⟨q,hq⟩:∃q,q=keepW ⟨a,s,t⟩ mk:=⟨_,rfl⟩;have HWN:=hid (fun(wx:World)=>window_any a A B n c m d wx (by omega) (by omega) (by omega));rw[←hs,←ht]at HWN;have HKP:=hid (fun(wx:World) (h0:0≤mk)=>keep_any a s t mk wx (by omega) (by omega) (by omega) (by omega));rw[←hq]at HKP;obtain⟨HM,HQ,H,HE⟩:=hid4 hmk (show q=keepW (winE x) e.mark by unfold winE;rw[hq,hs,ht,hha,hmk,hn,hm]) h hE;clear h hmk hq hs ht hha hn hm ha hk hn' hm';by_cases h0:0≤mk
 ·have es:{e with mark:=q}=EdS.moved e x:=by unfold EdS.moved;rw[if_pos (by rw[←HM.out];exact h0),HQ.out]
  rw[←es];clear es;go_enter Tryz.func117,Tryz.ntmps117;go_upto_region 1 with fail;have k1:=(Kp.refl w).alloc (.cells #[.int .i64 a,.slice A n c,.slice B m d] 239);have bw:=Bx.new w #[.int .i64 a,.slice A n c,.slice B m d] 239;obtain⟨W,hW⟩:∃W,W=w.heap.size:=⟨_,rfl⟩;rw[←hW]at bw⊢;obtain⟨H1,HW,HBW,HK1⟩:=hid4 (H.out.kp k1) hW bw k1;clear k1 bw hW p4 f4;generalize(w.alloc (.cells #[.int .i64 a,.slice A n c,.slice B m d] 239))=w1 at *;obtain⟨p4,f4⟩:w1.cell? ⟨E,4,none⟩=some (.int .i64 e.mark)∧w1.frozen? ⟨E,4,none⟩=false:=H1.out.1.at_ rfl;rw[←HM.out]at p4;obtain⟨b0,b1,b2,_,_,_⟩:=HBW.out.three;go_upto_region 2 with fail;go_region_with (first
   |(go_at_call 153;refine(HWN.out _).mono ?_;rintro en w3 ⟨rfl,k3⟩;have HB3:=hid (H1.out.kp ((Kp.refl w1).drew.trans k3));have HK3:=hid ((Kp.refl w1).drew.trans k3);obtain⟨q4,g4⟩:w3.cell? ⟨E,4,none⟩=some (.int .i64 e.mark)∧w3.frozen? ⟨E,4,none⟩=false:=HB3.out.1.at_ rfl;rw[←HM.out]at q4;clear k3)
   |(go_at_call 154;refine(HKP.out _ h0).mono ?_;rintro en w4 ⟨rfl,k4⟩;have HB4:=hid (H1.out.kp (HK3.out.trans k4));have HK4:=hid (HK3.out.trans k4);obtain⟨r4,e4⟩:w4.cell? ⟨E,4,none⟩=some (.int .i64 e.mark)∧w4.frozen? ⟨E,4,none⟩=false:=HB4.out.1.at_ rfl;rw[←HM.out]at r4;clear k4))
  all_goals
   go_end0;exact retB H.out (HK1.out.trans HK4.out) 4 _ rfl rfl rfl rfl rfl rfl rfl rfl
 ·have es:e=EdS.moved e x:=by unfold EdS.moved;rw[if_neg (by rw[←HM.out];exact h0)]
  rw[←es];clear es;go_enter Tryz.func117,Tryz.ntmps117;go_wp2_with fail;go_end0;exact retB_same H.out ((Kp.refl _).alloc _)
end
section
variable {D:Nat→Prop}
structure EdOk1 (x:Ed):Prop where
 at0:0≤x.at_
 at1:x.at_≤65536
 old:x.old.length≤65536
 new:x.new.length≤65536
 o32:R32ok x.old
 n32:R32ok x.new
theorem EdOk1.back {x:Ed}(h:EdOk1 x):EdOk1 x.back:=⟨h.at0,h.at1,h.new,h.old,h.n32,h.o32⟩
theorem cutM_le (l:List Int)(a b:Nat):(cutM l a b).length≤l.length:=by simp[cutM];omega
theorem cutM_sub (l:List Int)(a b:Nat):∀x∈cutM l a b,x∈l:=fun _ h=>List.mem_of_mem_take (List.mem_of_mem_drop h)
theorem spliceL_32 {T:TM}(hT:T.Ok){l ins:List Int}(h:R32ok l)(hi:R32ok ins)(a b:Nat):R32ok (zX T l a b ins):=by
 unfold zX;refine R32ok.app (R32ok.app (h.sub fun _ h=>List.mem_of_mem_take h) ?_) (h.sub fun _ h=>List.mem_of_mem_drop h);unfold midL;refine nfcC_32 hT ?_;exact R32ok.app (R32ok.app (h.sub fun _ h=>List.mem_of_mem_take (List.mem_of_mem_drop h)) hi) (h.sub fun _ h=>List.mem_of_mem_take (List.mem_of_mem_drop h))
theorem replaceE_ok {T:TM}(hT:T.Ok){x t:Tx}{frm tt c:Int}{ins:List Int}{ed:Ed}(h:yQ T x frm tt ins=some (t,ed,c))(hx:TxOk x)(hi:R32ok ins)(ht:TxOk t):EdOk1 ed∧0≤c∧c≤65536:=by
 by_cases hb:badE x frm tt
 ·rw[replaceE_bad T ins hb]at h;cases h
 ·have hb':=hb
  unfold badE at hb';obtain⟨a,rfl⟩:∃a:Nat,frm=a:=⟨frm.toNat,by omega⟩;obtain⟨b,rfl⟩:∃b:Nat,tt=b:=⟨tt.toNat,by omega⟩;have hwok:=winL_ok T x.l ins (a:=a) (b:=b) (by omega) (by omega);have hn:=narrowL_ok hwok.1;have h32:=spliceL_32 hT hx.r32 hi a b;unfold yQ at h;rw[if_neg hb']at h;simp only[Int.toNat_natCast]at h;generalize zX T x.l a b ins=is at *;generalize winL T x.l a b ins=wn at *;generalize vJ x.l is wn=v at *
  split at h
  ·cases h
  ·rename_i hle
   have hl:=hx.len;simp only[Option.some.injEq,Prod.mk.injEq]at h;obtain⟨h1,h2,h3⟩:=h;obtain⟨n1,n2,n3,n4,n5⟩:=hn;have c0:=IxOk.ceil_in ht.ix (afterW x.l is wn b);have tl:=ht.len;rw[h1]at h3;rw[h3]at c0;refine⟨?_,c0.1,by omega⟩;rw[←h2];exact⟨n1,by dsimp only;omega,Nat.le_trans (cutM_le _ _ _) hl,by have:=cutM_le is v.frm.toNat v.is_.toNat;dsimp only;omega,hx.r32.sub (cutM_sub _ _ _),h32.sub (cutM_sub _ _ _)⟩
end
section
variable {D:Nat→Prop}
structure EdOk (j:Nat)(e:EdS):Prop where
 jb:j≤1000
 c1:e.cursor≤67108864*((j:Int)+1)
 m1:e.mark≤67108864*((j:Int)+1)
 rlen:e.ring.length≤60
 rtx:∀x∈e.ring,x.length≤65536*(j+1)∧R32ok x
 rat0:0≤e.rat
 rat1:e.rat<e.ring.length∨(e.ring=[]∧e.rat=0)
 ulen:e.undo.length≤1000
 ues:∀g∈e.undo,g.es.length≤j+1∧g.cur≤67108864*((j:Int)+1)∧∀x∈g.es,EdOk1 x
 pat0:0≤e.pat
 pat1:e.pat≤501
 plen:e.past.length≤500
 ptx:TxOks e.past
 stash:e.stash.length≤65536∧R32ok e.stash
 ska:0≤e.sk.at_∧e.sk.at_≤501
 skh:0≤e.sk.homeAt∧e.sk.homeAt≤501
 skp:e.sk.pat.length≤j∧R32ok e.sk.pat
 n0:0≤e.cnt.n∧e.cnt.n≤9999
 run:0≤e.run∧e.run≤20
 lines:e.lines.length≤j
theorem EdOk.up {j k:Nat}{e:EdS}(h:EdOk j e)(hk:j≤k)(hk2:k≤1000):EdOk k e:=by
 refine⟨hk2,by have:=h.c1;omega,by have:=h.m1;omega,h.rlen,fun x hx=>⟨by have:=(h.rtx x hx).1;omega,(h.rtx x hx).2⟩,h.rat0,h.rat1,h.ulen,fun g hg=>⟨by have:=(h.ues g hg).1;omega,by have:=(h.ues g hg).2.1;omega,(h.ues g hg).2.2⟩,
  h.pat0,h.pat1,h.plen,h.ptx,h.stash,h.ska,h.skh,⟨by have:=h.skp.1;omega,h.skp.2⟩,h.n0,h.run,by have:=h.lines;omega⟩
theorem EdOk.ring_ {j:Nat}{e:EdS}(h:EdOk j e):EdOk j e.ring_:=⟨h.jb,h.c1,h.m1,h.rlen,h.rtx,h.rat0,h.rat1,h.ulen,h.ues,h.pat0,h.pat1,h.plen,h.ptx,h.stash,h.ska,h.skh,h.skp,h.n0,h.run,h.lines⟩
theorem EdOk.same {j:Nat}{e e':EdS}(h:EdOk j e)(h1:e'.cursor=e.cursor)(h2:e'.mark=e.mark)(h3:e'.ring=e.ring)(h4:e'.rat=e.rat)(h5:e'.undo=e.undo)(h6:e'.past=e.past)(h7:e'.pat=e.pat)(h8:e'.stash=e.stash)
 (h9:e'.sk=e.sk)(h10:e'.cnt=e.cnt)(h11:e'.run=e.run)(h12:e'.lines=e.lines):EdOk j e':=by
 obtain⟨tx,cursor,mark,ring,rat,undo,past,pat,stash,sk,seeks,px,quote,cnt,last,run,bell,redraw,lines⟩:=e';dsimp only at *;subst h1 h2 h3 h4 h5 h6 h7 h8 h9 h10 h11 h12;exact⟨h.jb,h.c1,h.m1,h.rlen,h.rtx,h.rat0,h.rat1,h.ulen,h.ues,h.pat0,h.pat1,h.plen,h.ptx,h.stash,h.ska,h.skh,h.skp,h.n0,h.run,h.lines⟩
theorem addU_ok {us:List Grp}{ed:Ed}{c:Int}{join:Bool}{j:Nat}(hl:us.length≤1000)(hu:∀g∈us,g.es.length≤j+1∧g.cur≤67108864*((j:Int)+1)∧∀x∈g.es,EdOk1 x)(hed:EdOk1 ed)(hc:c≤67108864*((j:Int)+1)):
 (addU us ed c join).length≤1000∧∀g∈addU us ed c join,g.es.length≤j+1+1∧g.cur≤67108864*(((j+1:Nat):Int)+1)∧∀x∈g.es,EdOk1 x:=by
 have up:∀g∈us,g.es.length≤j+1+1∧g.cur≤67108864*(((j+1:Nat):Int)+1)∧∀x∈g.es,EdOk1 x:=fun g hg=>⟨by have:=(hu g hg).1;omega,by have:=(hu g hg).2.1;omega,(hu g hg).2.2⟩
 have one:∀g∈(us++[Grp.mk [ed] c]).drop (us.length+1 - 1000),g.es.length≤j+1+1∧g.cur≤67108864*(((j+1:Nat):Int)+1)∧∀x∈g.es,EdOk1 x:=by
  intro g hg;have hg:=List.mem_of_mem_drop hg;rcases List.mem_append.1 hg with hg|hg
  ·exact up g hg
  ·rw[List.mem_singleton]at hg
   subst hg;refine⟨by simp,by dsimp only;omega,fun x hx=>?_⟩;rw[List.mem_singleton]at hx;subst hx;exact hed
 unfold addU
 split
 ·rename_i g hg
  have hgm:g∈us:=List.mem_of_getLast? hg;refine⟨by have :0<us.length:=List.length_pos_of_mem hgm;simp;omega,fun q hq=>?_⟩;rcases List.mem_append.1 hq with hq|hq
  ·exact up q (List.dropLast_subset _ hq)
  ·rw[List.mem_singleton]at hq
   subst hq;have hh:=hu g hgm;refine⟨by dsimp only;rw[List.length_append];have:=hh.1;simp;omega,by have:=(up g hgm).2.1;exact this,fun x hx=>?_⟩;rcases List.mem_append.1 hx with hx|hx
   ·exact hh.2.2 x hx
   ·rw[List.mem_singleton]at hx
    subst hx;exact hed
 ·exact⟨by simp;omega,one⟩
theorem vK (e:EdS)(x:Ed):∃m,EdS.moved e x={e with mark:=m}∧(EdOk1 x→∀B:Int,131072≤B→e.mark≤B→m≤B+65536):=by
 unfold EdS.moved
 split
 ·refine⟨_,rfl,fun hx B hB h=>?_⟩
  have h0:=hx.at0;have h1:=hx.at1;have h2:=hx.old;have h3:=hx.new;unfold keepW winE;dsimp only
  split
  ·omega
  ·split<;>omega
 ·exact⟨e.mark,rfl,fun _ B _ h=>by omega⟩
theorem yZ (e:EdS):∃m,EdS.settle e={e with mark:=m}∧(TxOk e.tx→m≤65536):=by
 unfold EdS.settle
 split
 ·refine⟨_,rfl,fun ht=>?_⟩
  have:=ht.ix.floor_in e.mark;have:=ht.len;unfold Tx.floor;omega
 ·exact⟨e.mark,rfl,fun _=>by omega⟩
theorem EdOk.change {j:Nat}{e:EdS}(h:EdOk j e){T:TM}(hT:T.Ok)(ht:TxOk e.tx){frm tt:Int}{ins:List Int}{join:Bool}(h32:R32ok ins)(ht':TxOk (e.change T frm tt ins join).1.tx)(hj:j+1≤1000):EdOk (j+1) (e.change T frm tt ins join).1:=by
 unfold EdS.change at ht'⊢;cases ho:yQ T e.tx frm tt ins with
 |none=>exact(h.up (by omega) hj).ring_
 |some p=>
  obtain⟨t,ed,cur⟩:=p;rw[ho]at ht';dsimp only at ht'⊢;obtain⟨m1,hm1,-⟩:=vK {e with tx:=t,undo:=addU e.undo ed e.cursor join} ed;obtain⟨m2,hm2,hs⟩:=yZ (EdS.moved {e with tx:=t,undo:=addU e.undo ed e.cursor join} ed);rw[hm2,hm1]at ht'⊢;rw[hm1]at hs;dsimp only at ht' hs⊢;obtain⟨k1,k2,k3⟩:=replaceE_ok hT ho ht h32 ht';obtain⟨u1,u2⟩:=addU_ok (join:=join) h.ulen h.ues k1 h.c1;have hu:=h.up (k:=j+1) (by omega) hj;have hs:=hs ht';exact⟨hj,by dsimp only;omega,by dsimp only;omega,hu.rlen,hu.rtx,hu.rat0,hu.rat1,u1,u2,hu.pat0,hu.pat1,hu.plen,hu.ptx,hu.stash,hu.ska,hu.skh,hu.skp,hu.n0,hu.run,hu.lines⟩
theorem yX (T:TM)(e:EdS)(frm tt:Int)(ins:List Int)(join:Bool):∃t mk us cu bl,(e.change T frm tt ins join).1={e with tx:=t,mark:=mk,undo:=us,cursor:=cu,bell:=bl}:=by
 unfold EdS.change
 split
 ·exact⟨_,_,_,_,_,rfl⟩
 ·rename_i x ed c _
  obtain⟨m1,hm1,-⟩:=vK {e with tx:=x,undo:=addU e.undo ed e.cursor join} ed;obtain⟨m2,hm2,-⟩:=yZ (EdS.moved {e with tx:=x,undo:=addU e.undo ed e.cursor join} ed);dsimp only;rw[hm2,hm1];exact⟨_,_,_,_,_,rfl⟩
end
end Go.Proofs.YtociefdcccokjaaGreat

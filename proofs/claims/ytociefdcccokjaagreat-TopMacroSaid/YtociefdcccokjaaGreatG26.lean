/-
  Lemmas for TopMacro. Conditions: each states its own.
-/
import Derived.Deep.MidRow
import Derived.Test.YtociefdcccokjaaGreatG25
set_option maxHeartbeats 6400000
set_option maxRecDepth 100000
namespace Go.Proofs.YtociefdcccokjaaGreat
open Go.RowKit Go.Lib
section
variable {D:Nat→Prop}
theorem tx_new_nil (T:TM):Tx.new T []=⟨[],[]⟩:=by
 have h1:nfcC T []=[]:=by
  have:=nfcC_len T [];exact List.eq_nil_of_length_eq_zero (by simpa using this)
 unfold Tx.new;rw[h1];rfl
theorem TxAt.nilF {w:World}{X G R g:Nat}{x:Tx}(F:Nat→Prop)(h:TxAt w X G R g x)(hx:x.st=[]):TxAtF F w X G R g x:=by
 obtain⟨A,n,c,h1,h2,h3,h4⟩:=h;refine⟨A,n,c,h1,h2,⟨Sl.le h3,Sl.cap h3,Sl.len h3,fun hn=>?_⟩,h4⟩;have:=Nu.len h3;rw[hx]at this;simp at this;omega
theorem EdAt.lines_ {w:World}{E X G R g:Nat}{e:EdS}{v:EdL}(h:EdAt D w E X G R g e v){A:Option Addr}{n c:Nat}{L:List (List Int)}(hL:Txs w (fun k=>¬Ew D E X G R k) (fun k=>¬Ew D E X G R k) A n c L)(hne:L≠[]):
 EdAt D (w.setCell ⟨E,29,none⟩ (.slice A n c)) E X G R g {e with lines:=L} {v with lA:=A,ln:=n,lc:=c}:=by
 have k:=h.2.set 29 (.slice A n c);exact⟨h.1.put 29 _,⟨k.tx,k.off,k.ring,k.undo,k.past,k.stash,k.pat,hL.setCell (notE 29) (notE 29) _,fun hh=>absurd hh hne,k.dlt⟩⟩
theorem EdAt.newline {w w':World}{E X G R X' G' R' g:Nat}{e:EdS}{v:EdL}{t:Tx}(h:EdAt D w E X G R g e v)(k:Kp w w')(ht:TxAt w' X' G' R' g t)(hst:t.st=[])(hn:∀q,Xb X' G' R' q→w.heap.size≤q):
 EdAt D (w'.setCell ⟨E,2,none⟩ (.pointer (some ⟨X',0,none⟩))) E X' G' R' g {e with tx:=t} v∧EdN E X G R X' G' R' w (w'.setCell ⟨E,2,none⟩ (.pointer (some ⟨X',0,none⟩))):=by
 have n:EdN E X G R X' G' R' w w':=⟨.inr (hn _ (.inl rfl)),.inr (hn _ (.inr (.inl rfl))),.inr (hn _ (.inr (.inr rfl))),.of_kp k⟩;have r:=h.2.step n h.1.lt (ht.nilF _ hst);exact⟨⟨(h.1.kp k).put 2 _,r.set 2 _⟩,n.set 2 _⟩
theorem EdOk.accept {j:Nat}{e:EdS}(h:EdOk j e)(hj:j+1≤1000)(t:Tx)(htx:TxOk e.tx):EdOk (j+1) ⟨t,0,-1,e.ring,e.rat,[],addM e.past e.tx.l,0,[],Sk.zero,false,false,false,Cn.zero,0,0,e.bell,e.redraw,[e.tx.l]⟩:=by
 have hu:=h.up (k:=j+1) (by omega) hj;refine⟨hj,by dsimp only;omega,by dsimp only;omega,hu.rlen,hu.rtx,hu.rat0,hu.rat1,by simp,by simp,by simp,by simp,addM_length_le _ _ h.plen,fun x hx=>?_,by simp[R32ok.nil],by simp[Sk.zero],by simp[Sk.zero],by simp[Sk.zero,R32ok.nil],by simp[Cn.zero],by simp,by simp⟩;rcases addM_mem hx with hx|rfl
 ·exact h.ptx x hx
 ·exact⟨htx.len,htx.r32⟩
theorem xU {P:Program}{ops:Array Oper}{op:Oper}{a:Act}{w:World}{K:Act→World→Prop}{Q:Exit→Act→World→Prop}{E':Prop}(hgd:op.guard=none)(ty:TypeId)(x y:Operand)(ho:op.op=.store ty x y)
 (b o:Nat)(cells:Array Value)(hx:a.eval x=.pointer (some ⟨b,o,none⟩))(hy:a.eval y=.agg cells)
 (ht:w.there b o cells.size)(hi:(P.info? ty).map (·.size)=some cells.size)(h1:cells.all (·.oneCell')=true)
 (h:K (a.put op.dst undef) (w.setCells b o cells.toList)):if Region.wanted op (yielded ops a.tmps)=true then Oper.wp P op a w K Q else E':=by
 have hw:Region.wanted op (yielded ops a.tmps)=true:=by simp[Region.wanted,hgd]
 rw[if_pos hw];exact wp_store_mid ty x y ho b o cells hx hy ht hi h1 h
theorem EdAt.there3 {w:World}{E X G R g:Nat}{e:EdS}{v:EdL}(h:EdAt D w E X G R g e v):w.there E 3 24:=fun j hj=>by
 refine⟨?_,h.1.frozen _⟩;rw[h.1.cell];simp[edV];omega
theorem EdR.sets {E X G R g:Nat}{e:EdS}{v:EdL}:∀(vs:List Value) (i:Nat) {w:World},EdR D w E X G R g e v→EdR D (w.setCells E i vs) E X G R g e v
 |[],_,_,h=>h
 |u::vs,i,_,h=>EdR.sets vs (i+1) (h.set i u)
theorem EdN.sets {E X0 G0 R0 X G R:Nat}{w0 w:World}(h:EdN E X0 G0 R0 X G R w0 w)(i:Nat)(vs:List Value):EdN E X0 G0 R0 X G R w0 (w.setCells E i vs):=by
 induction vs generalizing i w with
 |nil=>exact h
 |cons u vs ih=>exact ih (h.set i u) (i+1)
theorem EdAt.state {w:World}{E X G R g:Nat}{e:EdS}{v:EdL}(h:EdAt D w E X G R g e v){A B:Option Addr}{n c m d:Nat}{L:List (List Int)}(hL:Txs w (fun k=>¬Ew D E X G R k) (fun k=>¬Ew D E X G R k) A n c L)(hS:Ru w (fun k=>¬Ew D E X G R k) B m d []):
 EdAt D (w.setCells E 3 [.int .i64 0,.int .i64 (-1),.slice v.rA v.rn v.rc,.int .i64 e.rat,.slice none 0 0,.slice A n c,.int .i64 0,.slice B m d,.bool false,.slice none 0 0,.int .i64 0,.int .i64 0,.bool false,.int .i64 0,.int .i64 0,
  .bool false,.bool false,.bool false,.bool false,.bool false,.bool false,.int .i64 0,.int .i64 0,.int .i64 0]) E X G R g
  ⟨e.tx,0,-1,e.ring,e.rat,[],L,0,[],Sk.zero,false,false,false,Cn.zero,0,0,e.bell,e.redraw,e.lines⟩ {v with uA:=none,un:=0,uc:=0,pA:=A,pn:=n,pc:=c,sA:=B,sn:=m,sc:=d,qA:=none,qn:=0,qc:=0}:=by
 have r:EdR D w E X G R g ⟨e.tx,0,-1,e.ring,e.rat,[],L,0,[],Sk.zero,false,false,false,Cn.zero,0,0,e.bell,e.redraw,e.lines⟩ {v with uA:=none,un:=0,uc:=0,pA:=A,pn:=n,pc:=c,sA:=B,sn:=m,sc:=d,qA:=none,qn:=0,qc:=0}:=
  ⟨h.2.tx,h.2.off,h.2.ring,GrpsF.nil,hL,hS,Ru.nil _ _,h.2.lines,h.2.lnil,h.2.dlt⟩
 refine⟨?_,r.sets _ 3⟩;rw[zY _ _ _ _ h.1 (by simp[edV])];exact h.1.setRow _
section
variable (E X G R g:Nat)(e:EdS)(v:EdL)(T:TM)(wT w:World)(h:EdAt D w E X G R g e v)(hT:TabN wT w g T (Eb E X G R))(j:Nat)(ok:EdOk j e)(hj:j+1≤1000)(hln:e.lines=[])
include h ok hT hj hln
theorem accept_any:Calls Tryz.prog 120 #[.pointer (some ⟨E,0,none⟩)] w (RetE D (j+1) E X G R g (e.accept T) (.tuple #[]) w):=by
 have htx:TxOk e.tx:=(h.2.tx.tx fun k hk hx=>hk (.inr hx)).ok;obtain⟨LNA,HRU⟩:=hid2 (h.2.lnil hln) (xG X G R g e.tx w (h.2.tx.tx fun k hk hx=>hk (.inr hx)));have p2:w.cell? ⟨E,2,none⟩=some (.pointer (some ⟨X,0,none⟩)):=(h.c 2 rfl).1;obtain⟨ef,hef⟩:∃x,x=e.accept T:=⟨_,rfl⟩;rw[←hef];obtain⟨HEF,HOKF⟩:=hid2 (show ef=⟨Tx.new T [],0,-1,e.ring,e.rat,[],addM e.past e.tx.l,0,[],Sk.zero,false,false,false,Cn.zero,0,0,e.bell,e.redraw,[e.tx.l]⟩ by rw[hef];unfold EdS.accept;rw[hln];rfl) (ok.accept hj (Tx.new T []) htx);clear hef;obtain⟨H,HT,HTX,HOK,HJ,HLN⟩:=hid6 h hT htx ok hj hln;clear h hT htx ok hj hln;go_enter Tryz.func120,Tryz.ntmps120;go_wp2_with fail;refine HRU.out.mono ?_;rintro en w1 ⟨A,n,c,rfl,hr,k1⟩;obtain⟨H1,HR,K1⟩:=hid3 (H.out.kp k1) hr k1;have HC29:=hid (fun(wx:World) (kx:Kp w1 wx)=>show wx.cell? ⟨E,29,none⟩=some (.slice none 0 0)∧wx.frozen? ⟨E,29,none⟩=false by
  have hh:=(H1.out.kp kx).c 29 rfl;have e1:=LNA.out.1;have e2:=LNA.out.2.1;have e3:=LNA.out.2.2;exact⟨by rw[hh.1];show some (Value.slice v.lA v.ln v.lc)=_;rw[e1,e2,e3],hh.2⟩)
 obtain⟨q29,f29⟩:=HC29.out _ (Kp.refl _);have hE:=H1.out.1.lt;clear p2 hr k1 HRU;go_upto_region 1 with fail;go_upto_region 2 with(at_builtin;refine zA _ rfl _ _ _ rfl w1.heap.size 41 _ 1 24 Tryz.underlying37 vC rfl (by omega) none 0 0 [] rfl (Own.nil _ _ _ _) Any _ 1 1 [.slice A n c] rfl (Sl.new_ w1 #[.slice A n c] _ 1 1 _ rfl trivial (by simp) (by omega)) (by simp[Value.oneCell']) (by simp only[maxLen];omega) (by omega) (by simp) ?_;intro A5 c5 w5 ho5 hg5 hat5;have k5:Kp w1 w5:=((Kp.refl w1).alloc _).grown hg5 (fun q hq=>by cases hq);have H5:=hid (H1.out.kp k5);obtain⟨p29,g29⟩:=HC29.out w5 k5;have hE5:=H5.out.1.lt);have hL:Txs w5 (fun k=>¬Ew D E X G R k) (fun k=>¬Ew D E X G R k) A5 (0+1) c5 [e.tx.l]:=by
  refine⟨_,Sl.weak ho5.sl (fun q _ hq=>H1.out.new_off q hq),rfl,fun i x hx=>?_⟩;cases i with
  |zero=>
   simp only[List.getElem?_cons_zero,Option.some.injEq]at hx;subst hx;exact⟨A,n,c,rfl,Sl.weak (Sl.kp HR.out k5) (fun q _ hq=>H.out.new_off q hq)⟩
  |succ i=>simp at hx
 obtain⟨H6,N6,HRF⟩:=hid3 (H5.out.lines_ hL (by simp)) ((EdN.refl (E:=E) (X:=X) (G:=G) (R:=R) (K1.out.trans k5)).set 29 (.slice A5 (0+1) c5)) ((Sl.setCell (p:=⟨E,29,none⟩) (Sl.kp HR.out k5) (fun hq=>by have:=H.out.1.lt;unfold From at hq;simp at hq;omega) (.slice A5 (0+1) c5)));simp only[Nat.zero_add]at H6 N6 HRF;clear q29 f29 p29 g29 hE hE5 hL k5 ho5 hg5 hat5 H5 H1 HR K1 HC29;generalize(w5.setCell ⟨E,29,none⟩ (.slice A5 1 c5))=w6 at *;have HNW:=hid (textNew_any Any g T none 0 0 [] w6 (N6.out.tab HT.out).tab (Ru.nil _ _) R32ok.nil (by omega) (by have:=nfcC_len T [];simp at this;simp[this]));have p0:w6.cell? ⟨E,0,none⟩=some (.pointer (some ⟨g,0,none⟩)):=(H6.out.c 0 rfl).1;go_wp2_with fail;refine HNW.out.mono ?_;rintro en w7 ⟨X',G',R',rfl,ht7,hn7,k7⟩;obtain⟨h8,n8⟩:=H6.out.newline k7 ht7 (by rw[tx_new_nil]) hn7;obtain⟨HRX,H8,N8,H7⟩:=hid4 (Ru.weak (Sl.setCell (p:=⟨E,2,none⟩) (Sl.kp HRF.out k7) (fun hq=>by have:=H.out.1.lt;unfold From at hq;simp at hq;omega) (.pointer (some ⟨X',0,none⟩))) fun _ _ _=>trivial) h8 (N6.out.trans n8) (H6.out.kp k7);obtain⟨p2,f2⟩:w7.cell? ⟨E,2,none⟩=some (.pointer (some ⟨X,0,none⟩))∧w7.frozen? ⟨E,2,none⟩=false:=H7.out.c 2 rfl;clear h8 n8 ht7 hn7 k7 HNW p0;go_upto_region 3 with fail;clear p2 f2 H7 H6 N6 HRF;generalize(w7.setCell ⟨E,2,none⟩ (.pointer (some ⟨X',0,none⟩)))=w8 at *;obtain⟨ac5,af5⟩:w8.cell? ⟨E,5,none⟩=some (.slice v.rA v.rn v.rc)∧w8.frozen? ⟨E,5,none⟩=false:=H8.out.c 5 rfl;obtain⟨ac6,af6⟩:w8.cell? ⟨E,6,none⟩=some (.int .i64 e.rat)∧w8.frozen? ⟨E,6,none⟩=false:=H8.out.c 6 rfl;obtain⟨ac8,af8⟩:w8.cell? ⟨E,8,none⟩=some (.slice v.pA v.pn v.pc)∧w8.frozen? ⟨E,8,none⟩=false:=H8.out.c 8 rfl;obtain⟨ac9,af9⟩:w8.cell? ⟨E,9,none⟩=some (.int .i64 e.pat)∧w8.frozen? ⟨E,9,none⟩=false:=H8.out.c 9 rfl;obtain⟨ac10,af10⟩:w8.cell? ⟨E,10,none⟩=some (.slice v.sA v.sn v.sc)∧w8.frozen? ⟨E,10,none⟩=false:=H8.out.c 10 rfl;have HR8':Ru w8 Any A n c e.tx.l:=HRX.out;have HAD:=hid (fun(wx:World) (kx:Kp w8 wx)=>past_add (fun q=>¬Ew D E X' G' R' q) Any v.pA v.sA A v.pn v.pc v.sn v.sc n c e.pat e.past e.tx.l wx (fun q hq=>(H8.out.kp kx).new_off q hq) ((H8.out.kp kx).2.past) (Sl.kp HR8' kx)
  (by have:=H8.out.2.past.len;have:=HOK.out.plen;dsimp only at *;omega) (by have:=Ru.len HRX.out;have:=HTX.out.len;omega))
 have hE8:=H8.out.1.lt;refine wp_region_any (by kernel_rfl) ?_;change wpAny _ _ _ _ _ _ _ (World.drew _);refine wpAny_take (i:=0) (v:=?_) rfl (by kernel_rfl) (by kernel_rfl) (by kernel_rfl) (fun _ _ _ h=>h) (Or.inl ⟨by rfl,?_⟩) ?_
 rotate_left
 ·(intro w;go_simp;try with_reducible rfl)
 refine wpAny_take (i:=1) (v:=?_) rfl (by kernel_rfl) (by kernel_rfl) (by kernel_rfl) (fun _ _ _ h=>h) (Or.inl ⟨by rfl,?_⟩) ?_
 rotate_left
 ·(intro w;go_simp;try with_reducible rfl)
 refine wpAny_take (i:=2) (v:=?_) rfl (by kernel_rfl) (by kernel_rfl) (by kernel_rfl) (fun _ _ _ h=>h) (Or.inl ⟨by rfl,?_⟩) ?_
 rotate_left
 ·(intro w;go_simp;try with_reducible rfl)
 refine wpAny_take (i:=3) (v:=?_) rfl (by kernel_rfl) (by kernel_rfl) (by kernel_rfl) (fun _ _ _ h=>h) (Or.inl ⟨by rfl,?_⟩) ?_
 rotate_left
 ·(intro w;go_simp;try with_reducible rfl)
 refine wpAny_take (i:=4) (v:=?_) rfl (by kernel_rfl) (by kernel_rfl) (by kernel_rfl) (fun _ _ _ h=>h) (Or.inl ⟨by rfl,?_⟩) ?_
 rotate_left
 ·(intro w;go_simp;try with_reducible rfl)
 refine wpAny_take (i:=6) (v:=?_) rfl (by kernel_rfl) (by kernel_rfl) (by kernel_rfl) (fun _ _ _ h=>h) (Or.inl ⟨by rfl,?_⟩) ?_
 rotate_left
 ·(intro w;go_simp;try with_reducible rfl)
 refine wpAny_take (i:=7) (v:=?_) rfl (by kernel_rfl) (by kernel_rfl) (by kernel_rfl) (fun _ _ _ h=>h) (Or.inl ⟨by rfl,?_⟩) ?_
 rotate_left
 ·(intro w;go_simp;try with_reducible rfl)
 refine wpAny_take (i:=8) (v:=?_) rfl (by kernel_rfl) (by kernel_rfl) (by kernel_rfl) (fun _ _ _ h=>h) (Or.inl ⟨by rfl,?_⟩) ?_
 rotate_left
 ·(intro w;go_simp;try with_reducible rfl)
 refine wpAny_take (i:=9) (v:=?_) rfl (by kernel_rfl) (by kernel_rfl) (by kernel_rfl) (fun _ _ _ h=>h) (Or.inl ⟨by rfl,?_⟩) ?_
 rotate_left
 ·(intro w;go_simp;try with_reducible rfl)
 refine wpAny_take (i:=11) (v:=?_) rfl (by kernel_rfl) (by kernel_rfl) (by kernel_rfl) (fun _ _ _ h=>h) (Or.inl ⟨by rfl,?_⟩) ?_
 rotate_left
 ·(intro w;go_simp;try with_reducible rfl)
 refine wpAny_ready (rs:=[5,10]) (by kernel_rfl) (by simp) ?_;refine AllReady.cons rfl (fun K hK=>?_) (AllReady.cons rfl (fun K hK=>?_) AllReady.nil)
 ·go_simp
  refine hK _ _ ?_;clear hK K;refine wpAny_ready (rs:=[10]) (by kernel_rfl) (by simp) ?_;refine AllReady.cons rfl (fun K hK=>?_) AllReady.nil;go_simp;refine hK _ _ ?_;clear hK K;refine wpAny_ready (rs:=[12]) (by kernel_rfl) (by simp) ?_;refine AllReady.cons rfl (fun K hK=>?_) AllReady.nil;go_simp;go_at_call 155;refine(HAD.out _ (Kp.refl w8).drew).mono ?_;rintro en w9 ⟨A9,n9,c9,B9,m9,d9,rfl,hT9,hS9,k9⟩;obtain⟨HT9,HS9,K9⟩:=hid3 hT9 hS9 ((Kp.refl w8).drew.trans k9);have H9:=hid (H8.out.kp K9.out);obtain⟨bc5,bf5⟩:w9.cell? ⟨E,5,none⟩=some (.slice v.rA v.rn v.rc)∧w9.frozen? ⟨E,5,none⟩=false:=H9.out.c 5 rfl;obtain⟨bc6,bf6⟩:w9.cell? ⟨E,6,none⟩=some (.int .i64 e.rat)∧w9.frozen? ⟨E,6,none⟩=false:=H9.out.c 6 rfl;clear hT9 hS9 k9;dsimp only;refine hK _ _ ?_;clear hK K;refine wpAny_take (i:=13) (v:=?_) rfl (by kernel_rfl) (by kernel_rfl) (by kernel_rfl) (fun _ _ _ h=>h) (Or.inl ⟨by rfl,?_⟩) ?_
  rotate_left
  ·(intro w;go_simp;try with_reducible rfl)
  refine wpAny_take (i:=14) (v:=?_) rfl (by kernel_rfl) (by kernel_rfl) (by kernel_rfl) (fun _ _ _ h=>h) (Or.inl ⟨by rfl,?_⟩) ?_
  rotate_left
  ·(intro w;go_simp;try with_reducible rfl)
  refine wpAny_take (i:=15) (v:=?_) rfl (by kernel_rfl) (by kernel_rfl) (by kernel_rfl) (fun _ _ _ h=>h) (Or.inl ⟨by rfl,?_⟩) ?_
  rotate_left
  ·(intro w;go_simp;try with_reducible rfl)
  refine wpAny_ready (rs:=[16]) (by kernel_rfl) (by simp) ?_;refine AllReady.cons rfl (fun K hK=>?_) AllReady.nil;refine xU rfl 70 _ _ rfl E 3 _ rfl rfl H9.out.there3 (by kernel_rfl) (by kernel_rfl) ?_;refine hK _ _ ?_;clear hK K;refine wpAny_done (by kernel_rfl) ?_ _;have hfin:=H9.out.state (B:=B9) (m:=m9) (d:=d9) HT9.out HS9.out;go_end0;refine⟨rfl,X',G',R',{v with lA:=A5,ln:=1,lc:=c5,uA:=none,un:=0,uc:=0,pA:=A9,pn:=n9,pc:=c9,sA:=B9,sn:=m9,sc:=d9,qA:=none,qn:=0,qc:=0},?_,(N8.out.then_kp K9.out).sets 3 _,?_⟩
  ·rw[HEF.out]
   exact hfin
  ·rw[HEF.out]
   exact HOKF.out
 ·go_simp
  refine hK _ _ ?_;clear hK K;refine wpAny_ready (rs:=[5,12]) (by kernel_rfl) (by simp) ?_;refine AllReady.cons rfl (fun K hK=>?_) (AllReady.cons rfl (fun K hK=>?_) AllReady.nil)
  ·go_simp
   refine hK _ _ ?_;clear hK K;refine wpAny_ready (rs:=[12]) (by kernel_rfl) (by simp) ?_;refine AllReady.cons rfl (fun K hK=>?_) AllReady.nil;go_simp;go_at_call 155;refine(HAD.out _ (Kp.refl w8).drew).mono ?_;rintro en w9 ⟨A9,n9,c9,B9,m9,d9,rfl,hT9,hS9,k9⟩;obtain⟨HT9,HS9,K9⟩:=hid3 hT9 hS9 ((Kp.refl w8).drew.trans k9);have H9:=hid (H8.out.kp K9.out);obtain⟨bc5,bf5⟩:w9.cell? ⟨E,5,none⟩=some (.slice v.rA v.rn v.rc)∧w9.frozen? ⟨E,5,none⟩=false:=H9.out.c 5 rfl;obtain⟨bc6,bf6⟩:w9.cell? ⟨E,6,none⟩=some (.int .i64 e.rat)∧w9.frozen? ⟨E,6,none⟩=false:=H9.out.c 6 rfl;clear hT9 hS9 k9;dsimp only;refine hK _ _ ?_;clear hK K;refine wpAny_take (i:=13) (v:=?_) rfl (by kernel_rfl) (by kernel_rfl) (by kernel_rfl) (fun _ _ _ h=>h) (Or.inl ⟨by rfl,?_⟩) ?_
   rotate_left
   ·(intro w;go_simp;try with_reducible rfl)
   refine wpAny_take (i:=14) (v:=?_) rfl (by kernel_rfl) (by kernel_rfl) (by kernel_rfl) (fun _ _ _ h=>h) (Or.inl ⟨by rfl,?_⟩) ?_
   rotate_left
   ·(intro w;go_simp;try with_reducible rfl)
   refine wpAny_take (i:=15) (v:=?_) rfl (by kernel_rfl) (by kernel_rfl) (by kernel_rfl) (fun _ _ _ h=>h) (Or.inl ⟨by rfl,?_⟩) ?_
   rotate_left
   ·(intro w;go_simp;try with_reducible rfl)
   refine wpAny_ready (rs:=[16]) (by kernel_rfl) (by simp) ?_;refine AllReady.cons rfl (fun K hK=>?_) AllReady.nil;refine xU rfl 70 _ _ rfl E 3 _ rfl rfl H9.out.there3 (by kernel_rfl) (by kernel_rfl) ?_;refine hK _ _ ?_;clear hK K;refine wpAny_done (by kernel_rfl) ?_ _;have hfin:=H9.out.state (B:=B9) (m:=m9) (d:=d9) HT9.out HS9.out;go_end0;refine⟨rfl,X',G',R',{v with lA:=A5,ln:=1,lc:=c5,uA:=none,un:=0,uc:=0,pA:=A9,pn:=n9,pc:=c9,sA:=B9,sn:=m9,sc:=d9,qA:=none,qn:=0,qc:=0},?_,(N8.out.then_kp K9.out).sets 3 _,?_⟩
   ·rw[HEF.out]
    exact hfin
   ·rw[HEF.out]
    exact HOKF.out
  ·go_simp
   go_at_call 155;refine(HAD.out _ (Kp.refl w8).drew).mono ?_;rintro en w9 ⟨A9,n9,c9,B9,m9,d9,rfl,hT9,hS9,k9⟩;obtain⟨HT9,HS9,K9⟩:=hid3 hT9 hS9 ((Kp.refl w8).drew.trans k9);have H9:=hid (H8.out.kp K9.out);obtain⟨bc5,bf5⟩:w9.cell? ⟨E,5,none⟩=some (.slice v.rA v.rn v.rc)∧w9.frozen? ⟨E,5,none⟩=false:=H9.out.c 5 rfl;obtain⟨bc6,bf6⟩:w9.cell? ⟨E,6,none⟩=some (.int .i64 e.rat)∧w9.frozen? ⟨E,6,none⟩=false:=H9.out.c 6 rfl;clear hT9 hS9 k9;dsimp only;refine hK _ _ ?_;clear hK K;refine wpAny_ready (rs:=[5]) (by kernel_rfl) (by simp) ?_;refine AllReady.cons rfl (fun K hK=>?_) AllReady.nil;go_simp;refine hK _ _ ?_;clear hK K;refine wpAny_take (i:=13) (v:=?_) rfl (by kernel_rfl) (by kernel_rfl) (by kernel_rfl) (fun _ _ _ h=>h) (Or.inl ⟨by rfl,?_⟩) ?_
   rotate_left
   ·(intro w;go_simp;try with_reducible rfl)
   refine wpAny_take (i:=14) (v:=?_) rfl (by kernel_rfl) (by kernel_rfl) (by kernel_rfl) (fun _ _ _ h=>h) (Or.inl ⟨by rfl,?_⟩) ?_
   rotate_left
   ·(intro w;go_simp;try with_reducible rfl)
   refine wpAny_take (i:=15) (v:=?_) rfl (by kernel_rfl) (by kernel_rfl) (by kernel_rfl) (fun _ _ _ h=>h) (Or.inl ⟨by rfl,?_⟩) ?_
   rotate_left
   ·(intro w;go_simp;try with_reducible rfl)
   refine wpAny_ready (rs:=[16]) (by kernel_rfl) (by simp) ?_;refine AllReady.cons rfl (fun K hK=>?_) AllReady.nil;refine xU rfl 70 _ _ rfl E 3 _ rfl rfl H9.out.there3 (by kernel_rfl) (by kernel_rfl) ?_;refine hK _ _ ?_;clear hK K;refine wpAny_done (by kernel_rfl) ?_ _;have hfin:=H9.out.state (B:=B9) (m:=m9) (d:=d9) HT9.out HS9.out;go_end0;refine⟨rfl,X',G',R',{v with lA:=A5,ln:=1,lc:=c5,uA:=none,un:=0,uc:=0,pA:=A9,pn:=n9,pc:=c9,sA:=B9,sn:=m9,sc:=d9,qA:=none,qn:=0,qc:=0},?_,(N8.out.then_kp K9.out).sets 3 _,?_⟩
   ·rw[HEF.out]
    exact hfin
   ·rw[HEF.out]
    exact HOKF.out
end
end
end Go.Proofs.YtociefdcccokjaaGreat

/-
  Lemmas for TopMacro. Conditions: each states its own.
-/
import Derived.Test.YtociefdcccokjaaGreatG25
set_option maxHeartbeats 6400000
set_option maxRecDepth 100000
namespace Go.Proofs.YtociefdcccokjaaGreat
open Go.RowKit Go.Lib
section
variable {D:Nat→Prop}
theorem EdOk.visit {j:Nat}{e:EdS}(h:EdOk j e)(i cu:Int)(st:List Int)(h1:0≤i∧i≤500)(h2:st.length≤65536∧R32ok st)(h3:cu≤65536):EdOk j {e with pat:=i,stash:=st,cursor:=cu}:=
 ⟨h.jb,by dsimp only;omega,h.m1,h.rlen,h.rtx,h.rat0,h.rat1,h.ulen,h.ues,h1.1,by dsimp only;omega,h.plen,h.ptx,h2,h.ska,h.skh,h.skp,h.n0,h.run,h.lines⟩
theorem lineM_ok {L:List (List Int)}{at_ i:Int}{st now s:List Int}(h:yL L at_ st i now=some s)(hL:TxOks L)(hs:st.length≤65536∧R32ok st)(hn:now.length≤65536∧R32ok now):(s.length≤65536∧R32ok s)∧0≤i∧i≤L.length:=by
 unfold yL at h
 split at h
 ·cases h
 ·rename_i hc
  refine⟨?_,by omega,by omega⟩
  split at h
  ·simp only[Option.some.injEq]at h
   subst h;rw[List.getD_eq_getElem?_getD];rcases hx:L[L.length - i.toNat]? with _|x
   ·exact⟨by simp,R32ok.nil⟩
   ·exact hL x (List.mem_of_getElem? hx)
  ·split at h
   ·cases h;exact hn
   ·cases h;exact hs
theorem stashM_ok {at_ i:Int}{st now:List Int}(hs:st.length≤65536∧R32ok st)(hn:now.length≤65536∧R32ok now):(stashM at_ st i now).length≤65536∧R32ok (stashM at_ st i now):=by
 unfold stashM
 split
 ·exact⟨by simp,R32ok.nil⟩
 ·split
  ·exact hn
  ·exact hs
def GoAt (F:Nat→Prop)(L:List (List Int))(at_:Int)(st:List Int)(o:Option (List Int))(x y z:Value)(w w':World)(P:Nat):Prop:=
 ∃A n c B m d C k f,x=.pointer (some ⟨P,0,none⟩)∧y=.slice C k f∧z=.bool o.isSome∧Bx w' P #[.slice A n c,.int .i64 at_,.slice B m d] 64∧Txs w' F F A n c L∧Ru w' F B m d st∧Ru w' F C k f (o.getD [])∧Kp w w'∧w.heap.size≤P
section
variable {F F0:Nat→Prop}{w w4:World}{P n c m d k f:Nat}{A B C:Option Addr}{at_:Int}{L:List (List Int)}{st:List Int}{o:Option (List Int)}{x y z:Value}
 (hFF:∀q,F q→F0 q)(hT:Txs w4 F F A n c L)(hS:Ru w4 F B m d st)(hC:Ru w4 F C k f (o.getD []))(kk:Kp w w4)
include hFF hT hS hC kk
theorem goAt_set (hP:¬F P)(fa:Bx w4 P #[x,y,z] 64)(hq:w.heap.size≤P):
 GoAt F0 L at_ st o (.pointer (some ⟨P,0,none⟩)) (.slice C k f) (.bool o.isSome) w (((w4.setCell ⟨P,0,none⟩ (.slice A n c)).setCell ⟨P,1,none⟩ (.int .i64 at_)).setCell ⟨P,2,none⟩ (.slice B m d)) P:=by
 have h0:¬F (Addr.mk P 0 none).block:=hP;have h1:¬F (Addr.mk P 1 none).block:=hP;have h2:¬F (Addr.mk P 2 none).block:=hP;exact⟨A,n,c,B,m,d,C,k,f,rfl,rfl,rfl,fa.set3 _ _ _,(((hT.setCell h0 h0 _).setCell h1 h1 _).setCell h2 h2 _).weak (fun q _ h=>hFF q h) (fun q _ h=>hFF q h),Sl.weak (Sl.setCell (Sl.setCell (Sl.setCell hS h0 _) h1 _) h2 _) (fun q _ h=>hFF q h),
  Sl.weak (Sl.setCell (Sl.setCell (Sl.setCell hC h0 _) h1 _) h2 _) (fun q _ h=>hFF q h),((kk.setCell hq _).setCell hq _).setCell hq _,hq⟩
theorem goAt_new:GoAt F0 L at_ st o (.pointer (some ⟨w4.heap.size,0,none⟩)) (.slice C k f) (.bool o.isSome) w (w4.alloc (.cells #[.slice A n c,.int .i64 at_,.slice B m d] 64)) w4.heap.size:=
 ⟨A,n,c,B,m,d,C,k,f,rfl,rfl,rfl,Bx.new _ _ _,(hT.weak (fun q _ h=>hFF q h) (fun q _ h=>hFF q h)).kp ((Kp.refl _).alloc _),Sl.alloc (Sl.weak hS fun q _ h=>hFF q h) _,Sl.alloc (Sl.weak hC fun q _ h=>hFF q h) _,kk.alloc _,kk.size⟩
end
theorem heldP {w:World}{E X G R g P:Nat}{e:EdS}{v:EdL}(h:EdAt D w E X G R g e v)(hn:E≠P)(a b c:Value):
 (((w.setCell ⟨P,0,none⟩ a).setCell ⟨P,1,none⟩ b).setCell ⟨P,2,none⟩ c).cell? ⟨E,2,none⟩=some (.pointer (some ⟨X,0,none⟩))∧(((w.setCell ⟨P,0,none⟩ a).setCell ⟨P,1,none⟩ b).setCell ⟨P,2,none⟩ c).cell? ⟨E,8,none⟩=some (.slice v.pA v.pn v.pc)∧
 (((w.setCell ⟨P,0,none⟩ a).setCell ⟨P,1,none⟩ b).setCell ⟨P,2,none⟩ c).cell? ⟨E,9,none⟩=some (.int .i64 e.pat)∧(((w.setCell ⟨P,0,none⟩ a).setCell ⟨P,1,none⟩ b).setCell ⟨P,2,none⟩ c).cell? ⟨E,10,none⟩=some (.slice v.sA v.sn v.sc):=by
 have b1:=Bx.far (p:=⟨P,2,none⟩) (Bx.far (p:=⟨P,1,none⟩) (Bx.far (p:=⟨P,0,none⟩) h.1 hn a) hn b) hn c;exact⟨b1.cell 2,b1.cell 8,b1.cell 9,b1.cell 10⟩
section
variable (E X G R g:Nat)(e:EdS)(v:EdL)(T:TM)(wT w:World)(h:EdAt D w E X G R g e v)(hT:TabN wT w g T (Eb E X G R))(j:Nat)(ok:EdOk j e)(hj:j+1≤1000)(i cu:Int)
include h hT ok hj
theorem visit_any:Calls Tryz.prog 72 #[.pointer (some ⟨E,0,none⟩),.int .i64 i,.int .i64 cu] w (RetE D (j+1) E X G R g (e.visit T i cu).1 (.bool (e.visit T i cu).2) w):=by
 have htx:TxOk e.tx:=(h.2.tx.tx fun k hk hx=>hk (.inr hx)).ok;have HRU:=hid (fun(wx:World) (kx:Kp w wx)=>xG X G R g e.tx wx ((h.kp kx).2.tx.tx fun k hk hx=>hk (.inr hx)));have HGO:=hid (fun(F:Nat→Prop) (wx:World) (kx:Kp w wx) (hF:∀q,wx.heap.size≤q→F q) (hF2:∀q,q<w.heap.size→¬Ew D E X G R q→F q) (C:Option Addr) (k f:Nat) (hC:Ru wx Any C k f e.tx.l)=>past_go F Any v.pA v.sA C v.pn v.pc v.sn v.sc k f e.pat i e.past e.stash e.tx.l wx hF
  ((h.2.past.weak hF2 hF2).kp kx) (Sl.kp (Sl.weak h.2.stash hF2) kx) hC (by have:=h.2.past.len;have:=ok.plen;omega) (by have:=Ru.len h.2.stash;have:=ok.stash.1;omega) (by have:=Ru.len hC;have:=htx.len;omega) (fun x hx=>by have:=(ok.ptx x hx).1;omega))
 obtain⟨ef,hef⟩:∃x,x=e.visit T i cu:=⟨_,rfl⟩;rw[←hef];have HEF:=hid hef;clear hef;obtain⟨ol,hol⟩:∃o,o=yL e.past e.pat e.stash i e.tx.l:=⟨_,rfl⟩;obtain⟨at1,hat1⟩:∃o,o=if ol.isSome=true then i else e.pat:=⟨_,rfl⟩;obtain⟨st1,hst1⟩:∃o,o=if ol.isSome=true then stashM e.pat e.stash i e.tx.l else e.stash:=⟨_,rfl⟩;rw[←hol]at HGO;rw[←hat1,←hst1]at HGO;obtain⟨HOL,HAT,HSTM,HTX,H,HT,HOK,HJ⟩:=hid8 hol hat1 hst1 htx h hT ok hj;have p2:w.cell? ⟨E,2,none⟩=some (.pointer (some ⟨X,0,none⟩)):=(h.c 2 rfl).1;have p8:w.cell? ⟨E,8,none⟩=some (.slice v.pA v.pn v.pc):=(h.c 8 rfl).1;have p9:w.cell? ⟨E,9,none⟩=some (.int .i64 e.pat):=(h.c 9 rfl).1;have p10:w.cell? ⟨E,10,none⟩=some (.slice v.sA v.sn v.sc):=(h.c 10 rfl).1;clear h hT ok hj htx hol hat1 hst1;go_enter Tryz.func72,Tryz.ntmps72;go_upto_region 1 with fail;go_cut [7,8,9] (fun x y z wx=>∃P,Hid (GoAt (fun q=>¬Ew D E X G R q) e.past at1 st1 ol x y z w wx P))
 case first=>
  go_region_held3 (fun w'=>w'.cell? ⟨E,2,none⟩=some (.pointer (some ⟨X,0,none⟩))∧w'.cell? ⟨E,8,none⟩=some (.slice v.pA v.pn v.pc)∧w'.cell? ⟨E,9,none⟩=some (.int .i64 e.pat)∧w'.cell? ⟨E,10,none⟩=some (.slice v.sA v.sn v.sc))
   (first|(with_reducible exact⟨p2,p8,p9,p10⟩)|(with_reducible exact⟨r2,r8,r9,r10⟩)|(with_reducible exact⟨s2,s8,s9,s10⟩)|(with_reducible exact heldP H4 nP _ _ _)|go_keep)
   (first|(go_at_call 45;(first|(refine(HRU.out _ (Kp.refl w).drew).mono ?_;rintro en w3 ⟨A3,n3,c3,rfl,hr3,k3⟩;have K3:=hid ((Kp.refl w).drew.trans k3))|(refine(HRU.out _ ((Kp.refl w).drew.alloc _)).mono ?_;rintro en w3 ⟨A3,n3,c3,rfl,hr3,k3⟩;have K3:=hid (((Kp.refl w).drew.alloc _).trans k3);have f3:Bx w3 w.heap.size _ _:=Bx.kp (Bx.new w.drew _ _) k3));have HR3:=hid hr3;have H3:=H.out.kp K3.out;have hE3:=H3.1.lt;have r2:w3.cell? ⟨E,2,none⟩=some (.pointer (some ⟨X,0,none⟩)):=(H3.c 2 rfl).1;have r8:w3.cell? ⟨E,8,none⟩=some (.slice v.pA v.pn v.pc):=(H3.c 8 rfl).1;have r9:w3.cell? ⟨E,9,none⟩=some (.int .i64 e.pat):=(H3.c 9 rfl).1;have r10:w3.cell? ⟨E,10,none⟩=some (.slice v.sA v.sn v.sc):=(H3.c 10 rfl).1;clear hr3)|(go_at_call 107;(first|(have f3':=f3;refine(HGO.out (fun q=>¬Ew D E X G R q∧q≠w.heap.size) _ K3.out (fun q hq=>⟨H3.new_off q hq,fun hh=>by have:=f3.lt;omega⟩) (fun q hq hn=>⟨hn,by omega⟩) A3 n3 c3 (Sl.any HR3.out)).mono ?_;rintro en w4 ⟨A4,n4,c4,B4,m4,d4,C4,k4',f4,rfl,hT4,hS4,hC4,k4⟩;have K4:=hid (K3.out.trans k4);have fa:=f3.kp k4;have qa:=Nat.le_refl w.heap.size;have nP:E≠w.heap.size:=Nat.ne_of_lt H.out.1.lt;obtain⟨b0,b1,b2,z0,z1,z2⟩:=fa.three;have bl:=fa.lt)|(refine(HGO.out (fun q=>¬Ew D E X G R q∧q≠w3.heap.size) _ (K3.out.alloc _) (fun q hq=>⟨H3.new_off q (by simp at hq;omega),fun hh=>by simp at hq;omega⟩) (fun q hq hn=>⟨hn,by have:=K3.out.size;omega⟩) A3 n3 c3 (Sl.any (Sl.alloc HR3.out _))).mono ?_;rintro en w4 ⟨A4,n4,c4,B4,m4,d4,C4,k4',f4,rfl,hT4,hS4,hC4,k4⟩;have K4:=hid ((K3.out.alloc _).trans k4);have fa:Bx w4 w3.heap.size _ _:=Bx.kp (Bx.new w3 _ _) k4;have qa:=K3.out.size;have nP:E≠w3.heap.size:=Nat.ne_of_lt hE3;obtain⟨b0,b1,b2,z0,z1,z2⟩:=fa.three;have bl:=fa.lt)|(refine(HGO.out (fun q=>¬Ew D E X G R q) _ K3.out (fun q hq=>H3.new_off q hq) (fun q hq hn=>hn) A3 n3 c3 (Sl.any HR3.out)).mono ?_;rintro en w4 ⟨A4,n4,c4,B4,m4,d4,C4,k4',f4,rfl,hT4,hS4,hC4,k4⟩;have K4:=hid (K3.out.trans k4)));have HT4:=hid hT4;have HS4:=hid hS4;have HC4:=hid hC4;have H4:=H.out.kp K4.out;have hE4:=H4.1.lt;have s2:w4.cell? ⟨E,2,none⟩=some (.pointer (some ⟨X,0,none⟩)):=(H4.c 2 rfl).1;have s8:w4.cell? ⟨E,8,none⟩=some (.slice v.pA v.pn v.pc):=(H4.c 8 rfl).1;have s9:w4.cell? ⟨E,9,none⟩=some (.int .i64 e.pat):=(H4.c 9 rfl).1;have s10:w4.cell? ⟨E,10,none⟩=some (.slice v.sA v.sn v.sc):=(H4.c 10 rfl).1;clear hT4 hS4 hC4))
  all_goals
   go_wp2_with fail;go_meet;first
    |exact⟨_,goAt_set (fun q hq=>hq.1) HT4.out HS4.out HC4.out K4.out (fun hq=>hq.2 rfl) fa qa⟩
    |exact⟨_,goAt_new (fun q hq=>hq) HT4.out HS4.out HC4.out K4.out⟩
 case rest=>
  obtain⟨P,hgo⟩:=hcut;obtain⟨A,n,c,B,m,d,C,k,f,rfl,rfl,rfl,hb,hPT,hPS,hPC,kk,hP⟩:=hgo.out;obtain⟨HPT,HPS,HPC,HB,HPE,KK,H2⟩:=hid7 hPT hPS hPC hb (show¬Ew D E X G R P from H.out.new_off P hP) kk (H.out.kp kk);clear hgo hb hPT hPS hPC kk hP p2 p8 p9 p10 HRU HGO;cases ol with
  |none=>
   have HE2:=hid (show ef=(e,false) by rw[HEF.out];unfold EdS.visit;rw[←HOL.out]);simp only[Option.isSome_none];go_wp2_with fail;go_ret;exact⟨by rw[HE2.out];rfl,X,G,R,v,by rw[HE2.out];exact H2.out,.refl KK.out,by rw[HE2.out];exact HOK.out.up (by omega) HJ.out⟩
  |some s=>
   simp only[Option.isSome_some];have hres:ef=(fun p:EdS×Bool=>if p.2=true then({p.1 with pat:=i,stash:=stashM e.pat e.stash i e.tx.l,cursor:=p.1.tx.floor cu},true)else p) (e.change T 0 e.tx.l.length s false):=by rw[HEF.out];unfold EdS.visit;rw[←HOL.out]
   have hlk:=lineM_ok HOL.out.symm HOK.out.ptx HOK.out.stash ⟨HTX.out.len,HTX.out.r32⟩;have hsk:=stashM_ok (at_:=e.pat) (i:=i) HOK.out.stash ⟨HTX.out.len,HTX.out.r32⟩;have hat:=HAT.out;have hst:=HSTM.out;rw[Option.isSome_some,if_pos rfl]at hat hst
   replace hat:=hat.symm
   replace hst:=hst.symm
   subst hat hst;obtain⟨t1,mk,us,cu1,bl,hch⟩:=yX T e 0 e.tx.l.length s false;have HCH:=hid (fun(wx:World) (kx:Kp wc wx)=>zZ E X G R g e v (fun q=>¬Ew D E X G R q) T 0 e.tx.l.length C k f s false wT wx (H2.out.kp kx) (HT.out.next (KK.out.trans kx)) (Sl.kp HPC.out kx) hlk.1.2 (by have:=Ru.len HPC.out;have:=hlk.1.1;dsimp only[Option.getD_some]at *;omega) j HOK.out HJ.out);obtain⟨b2,hb2⟩:∃b,b=(e.change T 0 e.tx.l.length s false).2:=⟨_,rfl⟩;have hpair:e.change T 0 e.tx.l.length s false=({e with tx:=t1,mark:=mk,undo:=us,cursor:=cu1,bell:=bl},b2):=Prod.ext hch hb2.symm;rw[hpair]at hres HCH;obtain⟨HRS,HLK,HSK,HSZ⟩:=hid4 hres hlk hsk (fun(wx:World) (kx:Kp wc wx)=>yY X G R g e.tx wx ((H2.out.kp kx).2.tx.tx fun k hk hx=>hk (.inr hx)));have p2:wc.cell? ⟨E,2,none⟩=some (.pointer (some ⟨X,0,none⟩)):=(H2.out.c 2 rfl).1;clear hch hb2 hpair hres hlk hsk;obtain⟨ll,hll⟩:∃x:Int,x=(e.tx.l.length:Int):=⟨_,rfl⟩;rw[←hll]at HCH HSZ;clear hll;go_upto_region 2 with fail;go_wp2_with fail;refine(HSZ.out _ (Kp.refl _)).mono ?_;rintro en w3 ⟨rfl,k3⟩;go_wp2_with fail;refine(HCH.out _ k3).mono ?_;rintro en w4 ⟨rfl,X',G',R',v1,h4,n4,ok4⟩;have n4':=(EdN.refl (E:=E) (X:=X) (G:=G) (R:=R) k3).trans n4;obtain⟨N4,HPT4,HPS4,HB4,H4,OK4⟩:=hid6 ((EdN.refl (E:=E) (X:=X) (G:=G) (R:=R) KK.out).trans n4') (n4'.txs HPT.out) (n4'.ru HPS.out) (n4'.bx HB.out HPE.out) h4 ok4;clear h4 n4 n4' ok4 HCH HSZ p2 k3;cases b2 with
   |false=>
    have HE2:=hid (HRS.out);go_wp2_with fail;go_ret;exact⟨by rw[HE2.out];rfl,X',G',R',v1,by rw[HE2.out];exact H4.out,N4.out,by rw[HE2.out];exact OK4.out⟩
   |true=>
    have HE2:=hid (HRS.out);obtain⟨b0,b1,b2,_,_,_⟩:=HB4.out.1.three;obtain⟨p8,f8⟩:w4.cell? ⟨E,8,none⟩=some (.slice v1.pA v1.pn v1.pc)∧w4.frozen? ⟨E,8,none⟩=false:=H4.out.c 8 rfl;obtain⟨p9,f9⟩:w4.cell? ⟨E,9,none⟩=some (.int .i64 e.pat)∧w4.frozen? ⟨E,9,none⟩=false:=H4.out.c 9 rfl;obtain⟨p10,f10⟩:w4.cell? ⟨E,10,none⟩=some (.slice v1.sA v1.sn v1.sc)∧w4.frozen? ⟨E,10,none⟩=false:=H4.out.c 10 rfl;have hE:=H4.out.1.lt;obtain⟨H5,N5⟩:=hid2 (H4.out.past_ (at_:=i) HPT4.out HPS4.out) (((N4.out.set 8 (.slice A n c)).set 9 (.int .i64 i)).set 10 (.slice B m d));go_upto_region 5 with fail;clear p8 f8 p9 f9 p10 f10 b0 b1 b2 H4 HB4 HPT4 HPS4 N4;generalize(((w4.setCell ⟨E,8,none⟩ (.slice A n c)).setCell ⟨E,9,none⟩ (.int .i64 i)).setCell ⟨E,10,none⟩ (.slice B m d))=w5 at *;obtain⟨HFL,htx5⟩:=hid2 (zR X' G' R' g _ w5 (H5.out.2.tx.tx fun k hk hx=>hk (.inr hx)) cu) ((H5.out.2.tx.tx fun k hk hx=>hk (.inr hx)).ok);have q2:w5.cell? ⟨E,2,none⟩=some (.pointer (some ⟨X',0,none⟩)):=(H5.out.c 2 rfl).1;go_wp2_with fail;refine HFL.out.mono ?_;rintro en w6 ⟨rfl,k6⟩;obtain⟨H6,N6⟩:=hid2 (H5.out.kp k6) (N5.out.then_kp k6);clear k6 q2 HFL H5;obtain⟨p3,f3⟩:w6.cell? ⟨E,3,none⟩=some (.int .i64 cu1)∧w6.frozen? ⟨E,3,none⟩=false:=H6.out.c 3 rfl;go_wp2_with fail;go_ret;refine⟨by rw[HE2.out];rfl,X',G',R',{v1 with pA:=A,pn:=n,pc:=c,sA:=B,sn:=m,sc:=d},?_,N6.out.set 3 _,?_⟩
    ·rw[HE2.out]
     exact H6.out.set 3 _ rfl rfl rfl rfl rfl rfl rfl rfl
    ·rw[HE2.out]
     exact OK4.out.visit i _ _ (by have:=HLK.out.2;have:=HOK.out.plen;omega) HSK.out (by have:=htx5.out.ix.floor_in cu;have:=htx5.out.len;unfold Tx.floor;omega)
end
end
end Go.Proofs.YtociefdcccokjaaGreat

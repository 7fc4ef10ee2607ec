/-
  Lemmas for TopMacro. Conditions: each states its own.
-/
import Derived.Test.YtociefdcccokjaaGreatG26
import Derived.Test.YtociefdcccokjaaGreatG33
import Derived.Test.YtociefdcccokjaaGreatG37
import Derived.Test.YtociefdcccokjaaGreatG38
set_option maxHeartbeats 6400000
set_option maxRecDepth 100000
namespace Go.Proofs.YtociefdcccokjaaGreat
open Go.RowKit Go.Lib
section
variable {D:Nat→Prop}
theorem undoes_form (T:TM):∀(es:List Ed) (e:EdS),∃t m,(EdS.undoes T es e).1={e with tx:=t,mark:=m}
 |[],e=>⟨_,_,rfl⟩
 |x::r,e=>by
  cases hd:doE T e.tx x.back with
  |none=>rw[undoes_none hd];exact⟨_,_,rfl⟩
  |some t=>
   rw[undoes_some hd];obtain⟨m,hm,-⟩:=vK {e with tx:=t} x.back;rw[hm];obtain⟨t',m',h'⟩:=undoes_form T r {e with tx:=t,mark:=m};rw[h'];exact⟨_,_,rfl⟩
theorem undone_ok {j:Nat}{e:EdS}(h:EdOk j e)(T:TM)(ht:TxOk (e.undone T).1.tx)(hb:(e.undone T).2=true):EdOk j (e.undone T).1:=by
 unfold EdS.undone at *;cases hg:e.undo.getLast? with
 |none=>rw[hg]at hb;cases hb
 |some q=>
  rw[hg]at ht hb;dsimp only at ht hb⊢;obtain⟨t,m,hf⟩:=undoes_form T q.es.reverse e;by_cases h2:(EdS.undoes T q.es.reverse e).2=true
  ·rw[if_pos h2]at ht⊢
   rw[hf]at ht⊢;obtain⟨m2,hm2,hs2⟩:=yZ {e with tx:=t,mark:=m};rw[hm2]at ht⊢;dsimp only at ht⊢;have hm:=hs2 ht;have hq:=h.ues q (List.mem_of_getLast? hg);exact⟨h.jb,hq.2.1,by dsimp only;omega,h.rlen,h.rtx,h.rat0,h.rat1,by have:=h.ulen;simp;omega,fun g hg=>h.ues g (List.dropLast_subset _ hg),h.pat0,h.pat1,h.plen,h.ptx,h.stash,h.ska,h.skh,h.skp,h.n0,h.run,h.lines⟩
  ·rw[if_neg h2]at hb
   exact absurd hb h2
theorem undone_form (T:TM)(e:EdS):∃t m us cu,(e.undone T).1={e with tx:=t,mark:=m,undo:=us,cursor:=cu}:=by
 unfold EdS.undone
 split
 ·exact⟨_,_,_,_,rfl⟩
 ·rename_i q _
  obtain⟨t,m,hf⟩:=undoes_form T q.es.reverse e
  split
  ·rw[hf]
   obtain⟨m2,hm2,-⟩:=yZ {e with tx:=t,mark:=m};dsimp only;rw[hm2];exact⟨_,_,_,_,rfl⟩
  ·rw[hf]
   exact⟨_,_,_,_,rfl⟩
theorem EdOk.marks {j:Nat}{e:EdS}(h:EdOk j e)(cu mk:Int)(h1:cu≤67108864*((j:Int)+1))(h2:mk≤67108864*((j:Int)+1)):EdOk j {e with cursor:=cu,mark:=mk}:=
 ⟨h.jb,h1,h2,h.rlen,h.rtx,h.rat0,h.rat1,h.ulen,h.ues,h.pat0,h.pat1,h.plen,h.ptx,h.stash,h.ska,h.skh,h.skp,h.n0,h.run,h.lines⟩
def swO (o:Option (Sp×List Int)):Sp×List Int:=o.getD (⟨0,0,false⟩,[])
theorem swap_u (X G R g:Nat)(x:Tx)(at_:Int)(w:World)(h:TxAt w X G R g x)(o:Option (Sp×List Int))(ho:swapO x at_=o):
 Calls Tryz.prog 122 #[.pointer (some ⟨X,0,none⟩),.int .i64 at_] w fun e w'=>∃A n c,e=.returned (.tuple #[.agg #[.int .i64 (swO o).1.frm,.int .i64 (swO o).1.tt,.bool (swO o).1.ahead],.slice A n c,.bool o.isSome])∧Ru w' (From w.heap.size) A n c (swO o).2∧Kp w w':=by
 refine(swap_any X G R g x at_ w h).mono ?_;intro e w' k;rw[ho]at k;cases o with
 |some p=>
  obtain⟨s,l⟩:=p;exact k
 |none=>exact⟨none,0,0,k.1,Ru.nil _ _,k.2⟩
theorem swO_ok {x:Tx}(ht:TxOk x)(a:Int):R32ok (swO (swapO x a)).2∧(swO (swapO x a)).2.length≤131072:=by
 have hl:=ht.len;unfold swapO;dsimp only
 split
 ·exact⟨R32ok.nil,by simp[swO]⟩
 ·refine⟨(part_32 ht.r32 _ _).app (part_32 ht.r32 _ _),?_⟩
  unfold swO;dsimp only[Option.getD_some];rw[List.length_append];have h1:=part_len x (swapAt x a) (x.on (swapAt x a) 1);have h2:=part_len x (x.on (swapAt x a) (-1)) (swapAt x a);omega
def SwAt (F:Nat→Prop)(sf st:Int)(sa b:Bool)(l:List Int)(x y z:Value)(w w':World):Prop:=∃P A n c,x=.pointer (some ⟨P,0,none⟩)∧y=.slice A n c∧z=.bool b∧Bx w' P #[.int .i64 sf,.int .i64 st,.bool sa] 228∧Ru w' F A n c l∧Kp w w'∧w.heap.size≤P
theorem swAt_set {F F0:Nat→Prop}{sf st:Int}{sa b:Bool}{l:List Int}{w w4:World}{P n c:Nat}{A:Option Addr}{x y z:Value}(kk:Kp w w4)(fa:Bx w4 P #[x,y,z] 228)(hq:w.heap.size≤P)(hP:¬F P)(hF:∀q,F q→F0 q)(hr:Ru w4 F A n c l):
 SwAt F0 sf st sa b l (.pointer (some ⟨P,0,none⟩)) (.slice A n c) (.bool b) w (((w4.setCell ⟨P,0,none⟩ (.int .i64 sf)).setCell ⟨P,1,none⟩ (.int .i64 st)).setCell ⟨P,2,none⟩ (.bool sa)):=
 have h0:¬F (Addr.mk P 0 none).block:=hP;have h1:¬F (Addr.mk P 1 none).block:=hP;have h2:¬F (Addr.mk P 2 none).block:=hP
 ⟨P,A,n,c,rfl,rfl,rfl,fa.set3 _ _ _,Sl.weak (Sl.setCell (Sl.setCell (Sl.setCell hr h0 _) h1 _) h2 _) (fun q _ h=>hF q h),((kk.setCell hq _).setCell hq _).setCell hq _,hq⟩
theorem swAt_new {F:Nat→Prop}{sf st:Int}{sa b:Bool}{l:List Int}{w w4:World}{n c:Nat}{A:Option Addr}(kk:Kp w w4)(hr:Ru w4 F A n c l):
 SwAt F sf st sa b l (.pointer (some ⟨w4.heap.size,0,none⟩)) (.slice A n c) (.bool b) w (w4.alloc (.cells #[.int .i64 sf,.int .i64 st,.bool sa] 228)):=
 ⟨_,A,n,c,rfl,rfl,rfl,Bx.new _ _ _,Sl.alloc hr _,kk.alloc _,kk.size⟩
theorem held2s {w:World}{E X G R g P:Nat}{e:EdS}{v:EdL}(h:EdAt D w E X G R g e v)(hn:E≠P){cu:Int}(hc:cu=e.cursor)(a b c:Value):
 (((w.setCell ⟨P,0,none⟩ a).setCell ⟨P,1,none⟩ b).setCell ⟨P,2,none⟩ c).cell? ⟨E,2,none⟩=some (.pointer (some ⟨X,0,none⟩))∧(((w.setCell ⟨P,0,none⟩ a).setCell ⟨P,1,none⟩ b).setCell ⟨P,2,none⟩ c).cell? ⟨E,3,none⟩=some (.int .i64 cu):=by
 have h1:=held3s h hn a b c;rw[hc];exact⟨h1.1,h1.2.1⟩
section
variable {w:World}{E X G R g:Nat}{e:EdS}{v:EdL}(h:EdAt D w E X G R g e v){pt cu:Int}(hp:pt=e.pat)(hc:cu=e.cursor)(a b c d f i l:Value)
include h hp hc
theorem heldB:(((((((w.setCell ⟨E,11,none⟩ a).setCell ⟨E,12,none⟩ b).setCell ⟨E,13,none⟩ c).setCell ⟨E,14,none⟩ d).setCell ⟨E,15,none⟩ f).setCell ⟨E,16,none⟩ i).setCell ⟨E,17,none⟩ l).cell? ⟨E,8,none⟩=some (.slice v.pA v.pn v.pc)∧(((((((w.setCell ⟨E,11,none⟩ a).setCell ⟨E,12,none⟩ b).setCell ⟨E,13,none⟩ c).setCell ⟨E,14,none⟩ d).setCell ⟨E,15,none⟩ f).setCell ⟨E,16,none⟩ i).setCell ⟨E,17,none⟩ l).cell? ⟨E,9,none⟩=some (.int .i64 pt)∧(((((((w.setCell ⟨E,11,none⟩ a).setCell ⟨E,12,none⟩ b).setCell ⟨E,13,none⟩ c).setCell ⟨E,14,none⟩ d).setCell ⟨E,15,none⟩ f).setCell ⟨E,16,none⟩ i).setCell ⟨E,17,none⟩ l).cell? ⟨E,10,none⟩=some (.slice v.sA v.sn v.sc)∧(((((((w.setCell ⟨E,11,none⟩ a).setCell ⟨E,12,none⟩ b).setCell ⟨E,13,none⟩ c).setCell ⟨E,14,none⟩ d).setCell ⟨E,15,none⟩ f).setCell ⟨E,16,none⟩ i).setCell ⟨E,17,none⟩ l).cell? ⟨E,3,none⟩=some (.int .i64 cu):=by
 have b1:=((((((h.1.put 11 a).put 12 b).put 13 c).put 14 d).put 15 f).put 16 i).put 17 l;rw[b1.cell 8,b1.cell 9,b1.cell 10,b1.cell 3,hp,hc];simp[edV]
theorem heldB2 (z:Value):((((((((w.setCell ⟨E,11,none⟩ a).setCell ⟨E,12,none⟩ b).setCell ⟨E,13,none⟩ c).setCell ⟨E,14,none⟩ d).setCell ⟨E,15,none⟩ f).setCell ⟨E,16,none⟩ i).setCell ⟨E,17,none⟩ l).setCell ⟨E,18,none⟩ z).cell? ⟨E,8,none⟩=some (.slice v.pA v.pn v.pc)∧((((((((w.setCell ⟨E,11,none⟩ a).setCell ⟨E,12,none⟩ b).setCell ⟨E,13,none⟩ c).setCell ⟨E,14,none⟩ d).setCell ⟨E,15,none⟩ f).setCell ⟨E,16,none⟩ i).setCell ⟨E,17,none⟩ l).setCell ⟨E,18,none⟩ z).cell? ⟨E,9,none⟩=some (.int .i64 pt)∧((((((((w.setCell ⟨E,11,none⟩ a).setCell ⟨E,12,none⟩ b).setCell ⟨E,13,none⟩ c).setCell ⟨E,14,none⟩ d).setCell ⟨E,15,none⟩ f).setCell ⟨E,16,none⟩ i).setCell ⟨E,17,none⟩ l).setCell ⟨E,18,none⟩ z).cell? ⟨E,10,none⟩=some (.slice v.sA v.sn v.sc)∧((((((((w.setCell ⟨E,11,none⟩ a).setCell ⟨E,12,none⟩ b).setCell ⟨E,13,none⟩ c).setCell ⟨E,14,none⟩ d).setCell ⟨E,15,none⟩ f).setCell ⟨E,16,none⟩ i).setCell ⟨E,17,none⟩ l).setCell ⟨E,18,none⟩ z).cell? ⟨E,3,none⟩=some (.int .i64 cu):=by
 have b1:=(((((((h.1.put 11 a).put 12 b).put 13 c).put 14 d).put 15 f).put 16 i).put 17 l).put 18 z;rw[b1.cell 8,b1.cell 9,b1.cell 10,b1.cell 3,hp,hc];simp[edV]
end
structure UnLp (j:Nat)(T:TM)(e0:EdS)(m i:Nat)(b:Bool)(e1:EdS):Prop where
 ok:EdOk (if b=true then j else j+1) e1
 res:EdS.undoN T m e0=if b=true then EdS.undoN T (m - i) e1 else(e1,false)
section
variable (E X G R g:Nat)(e:EdS)(v:EdL)(T:TM)(wT w:World)(h:EdAt D w E X G R g e v)(hT:TabN wT w g T (Eb E X G R))(j:Nat)(ok:EdOk j e)(hj:j+1≤1000)(n:Int)(hn: -9999≤n∧n≤9999)
 (k:KeyV)(KA:Option Addr)(kn kc:Nat)(hk:Ru w Any KA kn kc k.text)(hk32:R32ok k.text)(hk65:k.text.length≤65536)(hln:e.lines=[])
include h hT ok hj hn hk hk32 hk65 hln
theorem others_accept:OtC D E X G R g e T w j n k KA kn kc 2:=by
 unfold OtC;obtain⟨ef,hef⟩:∃x,x=e.others T 2 n k:=⟨_,rfl⟩;rw[←hef];obtain⟨HEF,H,HT,HOK,HJ,HLN,HKT,HK32,HK65⟩:=hid9 (show ef=(e.accept T,true)from hef) h hT ok hj hln hk hk32 hk65;have HNB:=hid hn;clear h hT ok hj hln hk hk32 hk65 hef;go_enter Tryz.func83,Tryz.ntmps83;go_upto_region 1 with fail;obtain⟨P,w1,hP,hw,K1,HB1,HPE,HPN,H1,N1⟩:=zT H.out k KA kn kc;rw[hw,hP];have HKW:=hid (Sl.weak HKT.out (F:=Any) (G:=fun q=>q≠P) (fun q hq _=>by omega));have HKR:=hid (Sl.kp HKW.out K1.out);clear hw hP;go_upto_region 4 with fail;have HAC:=hid (accept_any E X G R g e v T wT w1 H1.out (HT.out.next K1.out) j HOK.out HJ.out HLN.out);go_wp2_with fail;refine HAC.out.mono ?_;rintro en w2 ⟨rfl,X',G',R',v1,h2,n2,ok2⟩;go_wp2_with fail;go_ret;exact⟨by rw[HEF.out];rfl,X',G',R',v1,by rw[HEF.out];exact h2,N1.out.trans n2,by rw[HEF.out];exact ok2⟩
theorem others_mark:OtC D E X G R g e T w j n k KA kn kc 17:=by
 unfold OtC;obtain⟨ef,hef⟩:∃x,x=e.others T 17 n k:=⟨_,rfl⟩;rw[←hef];obtain⟨HEF,HOK2,H,HT,HOK,HJ,HLN,HKT,HK32⟩:=hid9 (show ef=({e with mark:=e.cursor},true)from hef) ((ok.up (k:=j+1) (by omega) hj).marks e.cursor e.cursor (ok.up (k:=j+1) (by omega) hj).c1 (ok.up (k:=j+1) (by omega) hj).c1) h hT ok hj hln hk hk32;obtain⟨HK65,HNB⟩:=hid2 hk65 hn;clear h hT ok hj hln hk hk32 hk65 hef;go_enter Tryz.func83,Tryz.ntmps83;go_upto_region 1 with fail;obtain⟨P,w1,hP,hw,K1,HB1,HPE,HPN,H1,N1⟩:=zT H.out k KA kn kc;rw[hw,hP];have HKW:=hid (Sl.weak HKT.out (F:=Any) (G:=fun q=>q≠P) (fun q hq _=>by omega));have HKR:=hid (Sl.kp HKW.out K1.out);clear hw hP;go_upto_region 8 with fail;have p3:w1.cell? ⟨E,3,none⟩=some (.int .i64 e.cursor):=(H1.out.c 3 rfl).1;obtain⟨p4,f4⟩:w1.cell? ⟨E,4,none⟩=some (.int .i64 e.mark)∧w1.frozen? ⟨E,4,none⟩=false:=H1.out.c 4 rfl;go_wp2_with fail;go_ret;refine⟨by rw[HEF.out];rfl,X,G,R,v,?_,N1.out.set 4 _,?_⟩
 ·rw[HEF.out];exact H1.out.set 4 _ rfl rfl rfl rfl rfl rfl rfl rfl
 ·rw[HEF.out];exact HOK2.out
theorem others_redraw:OtC D E X G R g e T w j n k KA kn kc 27:=by
 unfold OtC;obtain⟨ef,hef⟩:∃x,x=e.others T 27 n k:=⟨_,rfl⟩;rw[←hef];obtain⟨HEF,H,HT,HOK,HJ,HLN,HKT,HK32,HK65⟩:=hid9 (show ef=({e with redraw:=true},true)from hef) h hT ok hj hln hk hk32 hk65;have HNB:=hid hn;clear h hT ok hj hln hk hk32 hk65 hef;go_enter Tryz.func83,Tryz.ntmps83;go_upto_region 1 with fail;obtain⟨P,w1,hP,hw,K1,HB1,HPE,HPN,H1,N1⟩:=zT H.out k KA kn kc;rw[hw,hP];have HKW:=hid (Sl.weak HKT.out (F:=Any) (G:=fun q=>q≠P) (fun q hq _=>by omega));have HKR:=hid (Sl.kp HKW.out K1.out);clear hw hP;go_upto_region 28 with fail;obtain⟨p28,f28⟩:w1.cell? ⟨E,28,none⟩=some (.bool e.redraw)∧w1.frozen? ⟨E,28,none⟩=false:=H1.out.c 28 rfl;go_wp2_with fail;go_ret;refine⟨by rw[HEF.out];rfl,X,G,R,v,?_,N1.out.set 28 _,?_⟩
 ·rw[HEF.out];exact H1.out.set 28 _ rfl rfl rfl rfl rfl rfl rfl rfl
 ·rw[HEF.out];exact(HOK.out.up (k:=j+1) (by omega) HJ.out).same rfl rfl rfl rfl rfl rfl rfl rfl rfl rfl rfl rfl
theorem others_paste:OtC D E X G R g e T w j n k KA kn kc 32:=by
 unfold OtC;obtain⟨ef,hef⟩:∃x,x=e.others T 32 n k:=⟨_,rfl⟩;rw[←hef];obtain⟨HEF,H,HT,HOK,HJ,HLN,HKT,HK32,HK65⟩:=hid9 (show ef=if k.text=[]then(e,false)else e.change T e.cursor e.cursor k.text false from hef) h hT ok hj hln hk hk32 hk65;have HNB:=hid hn;clear h hT ok hj hln hk hk32 hk65 hef;go_enter Tryz.func83,Tryz.ntmps83;go_upto_region 1 with fail;obtain⟨P,w1,hP,hw,K1,HB1,HPE,HPN,H1,N1⟩:=zT H.out k KA kn kc;rw[hw,hP];have HKW:=hid (Sl.weak HKT.out (F:=Any) (G:=fun q=>q≠P) (fun q hq _=>by omega));have HKR:=hid (Sl.kp HKW.out K1.out);clear hw hP;go_upto_region 6 with fail;have hkn:=Ru.len HKR.out;obtain⟨pa,pb,pc,pd,_,_,_,_⟩:=HB1.out.four;by_cases ht:k.text=[]
 ·rw[ht]at hkn
  obtain rfl:kn=0:=by simpa using hkn.symm
  have HE2:=hid (show ef=(e,false) by rw[HEF.out,if_pos ht]);clear ht;go_quiet (fail);go_wp2_with fail;go_ret;exact⟨by rw[HE2.out];rfl,X,G,R,v,by rw[HE2.out];exact H1.out.kp ((Kp.refl w1).drewN nq),N1.out.then_kp ((Kp.refl w1).drewN nq),by rw[HE2.out];exact HOK.out.up (by omega) HJ.out⟩
 ·have HE2:=hid (show ef=e.change T e.cursor e.cursor k.text false by rw[HEF.out,if_neg ht])
  have hk0:0<kn:=by have:=List.length_pos_iff.2 ht;omega
  have hk1:(0:Int)<(kn:Int):=by omega
  have HCH:=hid (fun(wx:World) (kx:Kp w1 wx)=>zZ E X G R g e v _ T e.cursor e.cursor KA kn kc k.text false wT wx (H1.out.kp kx) ((HT.out.next K1.out).next kx) (Sl.kp HKR.out kx) HK32.out (by have:=HK65.out;have:=Ru.len HKR.out;omega) j HOK.out HJ.out);rw[←HE2.out]at HCH;have p3:w1.cell? ⟨E,3,none⟩=some (.int .i64 e.cursor):=(H1.out.c 3 rfl).1;clear ht hkn;go_still_tail 18,(by kernel_rfl);change wpList _ _ _ _ _ w1.drew;go_wp2_with fail;refine(HCH.out _ (Kp.refl w1).drew).mono ?_;rintro en w2 ⟨rfl,X',G',R',v1,h2,n2,ok2⟩;go_wp2_with fail;go_ret;exact⟨rfl,X',G',R',v1,h2,(N1.out.then_kp (Kp.refl w1).drew).trans n2,ok2⟩
theorem others_exchange:OtC D E X G R g e T w j n k KA kn kc 18:=by
 unfold OtC;obtain⟨ef,hef⟩:∃x,x=e.others T 18 n k:=⟨_,rfl⟩;rw[←hef];obtain⟨HEF,H,HT,HOK,HJ,HLN,HKT,HK32,HK65⟩:=hid9 (show ef=if e.mark<0 then(e,false)else({e with cursor:=e.mark,mark:=e.cursor},true)from hef) h hT ok hj hln hk hk32 hk65;have HNB:=hid hn;clear h hT ok hj hln hk hk32 hk65 hef;go_enter Tryz.func83,Tryz.ntmps83;go_upto_region 1 with fail;obtain⟨P,w1,hP,hw,K1,HB1,HPE,HPN,H1,N1⟩:=zT H.out k KA kn kc;rw[hw,hP];have HKW:=hid (Sl.weak HKT.out (F:=Any) (G:=fun q=>q≠P) (fun q hq _=>by omega));have HKR:=hid (Sl.kp HKW.out K1.out);clear hw hP;go_upto_region 10 with fail;have hE:=H1.out.1.lt;obtain⟨mk,hmk⟩:∃x,x=e.mark:=⟨_,rfl⟩;have HMK:=hid hmk;obtain⟨p3,f3⟩:w1.cell? ⟨E,3,none⟩=some (.int .i64 e.cursor)∧w1.frozen? ⟨E,3,none⟩=false:=H1.out.c 3 rfl;obtain⟨p4,f4⟩:w1.cell? ⟨E,4,none⟩=some (.int .i64 mk)∧w1.frozen? ⟨E,4,none⟩=false:=by rw[hmk];exact H1.out.c 4 rfl
 clear hmk;by_cases hm:mk<0
 ·have HE2:=hid (show ef=(e,false) by rw[HEF.out,if_pos (by rw[←HMK.out];exact hm)])
  go_wp2_with fail;go_ret;exact⟨by rw[HE2.out];rfl,X,G,R,v,by rw[HE2.out];exact H1.out,N1.out,by rw[HE2.out];exact HOK.out.up (by omega) HJ.out⟩
 ·have HE2:=hid (show ef=({e with cursor:=mk,mark:=e.cursor},true) by rw[HEF.out,if_neg (by rw[←HMK.out];exact hm),HMK.out])
  go_upto_region 12 with fail;go_region
  all_goals
   go_wp2_with fail;go_ret;refine⟨by rw[HE2.out];rfl,X,G,R,v,?_,((N1.out.then_kp (Kp.refl w1).drew).set 3 _).set 4 _,?_⟩
   ·rw[HE2.out];exact((H1.out.kp (Kp.refl w1).drew).set (e':={e with cursor:=mk}) 3 _ rfl rfl rfl rfl rfl rfl rfl rfl).set 4 _ rfl rfl rfl rfl rfl rfl rfl rfl
   ·rw[HE2.out];exact(HOK.out.up (k:=j+1) (by omega) HJ.out).marks mk e.cursor (by rw[HMK.out];exact(HOK.out.up (k:=j+1) (by omega) HJ.out).m1) (HOK.out.up (k:=j+1) (by omega) HJ.out).c1
theorem others_up:OtC D E X G R g e T w j n k KA kn kc 22:=by
 unfold OtC;obtain⟨ef,hef⟩:∃x,x=e.others T 22 n k:=⟨_,rfl⟩;rw[←hef];obtain⟨HEF,H,HT,HOK,HJ,HLN,HKT,HK32,HK65⟩:=hid9 (show ef=e.visit T (e.pat+n) 65536 from hef) h hT ok hj hln hk hk32 hk65;have HNB:=hid hn;clear h hT ok hj hln hk hk32 hk65 hef;go_enter Tryz.func83,Tryz.ntmps83;go_upto_region 1 with fail;obtain⟨P,w1,hP,hw,K1,HB1,HPE,HPN,H1,N1⟩:=zT H.out k KA kn kc;rw[hw,hP];have HKW:=hid (Sl.weak HKT.out (F:=Any) (G:=fun q=>q≠P) (fun q hq _=>by omega));have HKR:=hid (Sl.kp HKW.out K1.out);clear hw hP;go_upto_region 21 with fail;obtain⟨pt,hpt⟩:∃x,x=e.pat:=⟨_,rfl⟩;have hpb:0≤pt∧pt≤501:=by rw[hpt];exact⟨HOK.out.pat0,HOK.out.pat1⟩
 obtain⟨HPA,HVI⟩:=hid2 (fun(wx:World)=>past_at v.pA v.sA v.pn v.pc v.sn v.sc pt wx) (fun(wx:World) (kx:Kp w1 wx)=>visit_any E X G R g e v T wT wx (H1.out.kp kx) ((HT.out.next K1.out).next kx) j HOK.out HJ.out (pt+n) 65536);rw[hpt,←HEF.out,←hpt]at HVI;have p8:w1.cell? ⟨E,8,none⟩=some (.slice v.pA v.pn v.pc):=(H1.out.c 8 rfl).1;have p9:w1.cell? ⟨E,9,none⟩=some (.int .i64 pt):=by rw[hpt];exact(H1.out.c 9 rfl).1
 have p10:w1.cell? ⟨E,10,none⟩=some (.slice v.sA v.sn v.sc):=(H1.out.c 10 rfl).1;clear hpt;go_wp2_with fail;refine(HPA.out _).mono ?_;rintro en w2 ⟨rfl,k2⟩;go_wp2_with fail;refine(HVI.out _ k2).mono ?_;rintro en w3 ⟨rfl,X',G',R',v1,h3,n3,ok3⟩;go_wp2_with fail;go_ret;exact⟨rfl,X',G',R',v1,h3,(N1.out.then_kp k2).trans n3,ok3⟩
theorem others_down:OtC D E X G R g e T w j n k KA kn kc 23:=by
 unfold OtC;obtain⟨ef,hef⟩:∃x,x=e.others T 23 n k:=⟨_,rfl⟩;rw[←hef];obtain⟨HEF,H,HT,HOK,HJ,HLN,HKT,HK32,HK65⟩:=hid9 (show ef=e.visit T (e.pat - n) 65536 from hef) h hT ok hj hln hk hk32 hk65;have HNB:=hid hn;clear h hT ok hj hln hk hk32 hk65 hef;go_enter Tryz.func83,Tryz.ntmps83;go_upto_region 1 with fail;obtain⟨P,w1,hP,hw,K1,HB1,HPE,HPN,H1,N1⟩:=zT H.out k KA kn kc;rw[hw,hP];have HKW:=hid (Sl.weak HKT.out (F:=Any) (G:=fun q=>q≠P) (fun q hq _=>by omega));have HKR:=hid (Sl.kp HKW.out K1.out);clear hw hP;go_upto_region 23 with fail;obtain⟨pt,hpt⟩:∃x,x=e.pat:=⟨_,rfl⟩;have hpb:0≤pt∧pt≤501:=by rw[hpt];exact⟨HOK.out.pat0,HOK.out.pat1⟩
 obtain⟨HPA,HVI⟩:=hid2 (fun(wx:World)=>past_at v.pA v.sA v.pn v.pc v.sn v.sc pt wx) (fun(wx:World) (kx:Kp w1 wx)=>visit_any E X G R g e v T wT wx (H1.out.kp kx) ((HT.out.next K1.out).next kx) j HOK.out HJ.out (pt - n) 65536);rw[hpt,←HEF.out,←hpt]at HVI;have p8:w1.cell? ⟨E,8,none⟩=some (.slice v.pA v.pn v.pc):=(H1.out.c 8 rfl).1;have p9:w1.cell? ⟨E,9,none⟩=some (.int .i64 pt):=by rw[hpt];exact(H1.out.c 9 rfl).1
 have p10:w1.cell? ⟨E,10,none⟩=some (.slice v.sA v.sn v.sc):=(H1.out.c 10 rfl).1;clear hpt;go_wp2_with fail;refine(HPA.out _).mono ?_;rintro en w2 ⟨rfl,k2⟩;go_wp2_with fail;refine(HVI.out _ k2).mono ?_;rintro en w3 ⟨rfl,X',G',R',v1,h3,n3,ok3⟩;go_wp2_with fail;go_ret;exact⟨rfl,X',G',R',v1,h3,(N1.out.then_kp k2).trans n3,ok3⟩
theorem others_sback:OtC D E X G R g e T w j n k KA kn kc 24:=by
 unfold OtC;obtain⟨ef,hef⟩:∃x,x=e.others T 24 n k:=⟨_,rfl⟩;rw[←hef];obtain⟨HEF,H,HT,HOK,HJ,HLN,HKT,HK32,HK65⟩:=hid9 (show ef=({e with sk:=⟨true,[],e.pat,e.cursor,false,e.pat,e.cursor⟩,seeks:=true},true)from hef) h hT ok hj hln hk hk32 hk65;have HNB:=hid hn;clear h hT ok hj hln hk hk32 hk65 hef;go_enter Tryz.func83,Tryz.ntmps83;go_upto_region 1 with fail;obtain⟨P,w1,hP,hw,K1,HB1,HPE,HPN,H1,N1⟩:=zT H.out k KA kn kc;rw[hw,hP];have HKW:=hid (Sl.weak HKT.out (F:=Any) (G:=fun q=>q≠P) (fun q hq _=>by omega));have HKR:=hid (Sl.kp HKW.out K1.out);clear hw hP;go_upto_region 26 with fail;obtain⟨pt,hpt⟩:∃x,x=e.pat:=⟨_,rfl⟩;obtain⟨cu,hcu⟩:∃x,x=e.cursor:=⟨_,rfl⟩;obtain⟨HPT,HCU,HPA,HBG⟩:=hid4 hpt hcu (fun(wx:World)=>past_at v.pA v.sA v.pn v.pc v.sn v.sc pt wx) (fun(wx:World)=>skBegin_any true pt cu wx);have p8:w1.cell? ⟨E,8,none⟩=some (.slice v.pA v.pn v.pc):=(H1.out.c 8 rfl).1;have p9:w1.cell? ⟨E,9,none⟩=some (.int .i64 pt):=by rw[hpt];exact(H1.out.c 9 rfl).1
 have p10:w1.cell? ⟨E,10,none⟩=some (.slice v.sA v.sn v.sc):=(H1.out.c 10 rfl).1;have p3:w1.cell? ⟨E,3,none⟩=some (.int .i64 cu):=by rw[hcu];exact(H1.out.c 3 rfl).1
 have hE:=H1.out.1.lt;clear hpt hcu;go_region_held3 (fun w'=>w'.cell? ⟨E,8,none⟩=some (.slice v.pA v.pn v.pc)∧w'.cell? ⟨E,9,none⟩=some (.int .i64 pt)∧w'.cell? ⟨E,10,none⟩=some (.slice v.sA v.sn v.sc)∧w'.cell? ⟨E,3,none⟩=some (.int .i64 cu))
  (first|(with_reducible exact⟨p8,p9,p10,p3⟩)|(with_reducible exact⟨q8,q9,q10,q3⟩)|(with_reducible exact⟨r8,r9,r10,r3⟩)|(with_reducible exact heldB H3.out HPT.out HCU.out _ _ _ _ _ _ _)|(with_reducible exact heldB2 H3.out HPT.out HCU.out _ _ _ _ _ _ _ _)|go_keep)
  (first|(go_at_call 71;refine(HPA.out _).mono ?_;rintro en w2 ⟨rfl,k2⟩;have K2:=hid ((Kp.refl w1).drew.trans k2);have H2:=hid (H1.out.kp K2.out);have q8:w2.cell? ⟨E,8,none⟩=some (.slice v.pA v.pn v.pc):=(H2.out.c 8 rfl).1;have q9:w2.cell? ⟨E,9,none⟩=some (.int .i64 pt):=(by rw[HPT.out];exact(H2.out.c 9 rfl).1);have q10:w2.cell? ⟨E,10,none⟩=some (.slice v.sA v.sn v.sc):=(H2.out.c 10 rfl).1;have q3:w2.cell? ⟨E,3,none⟩=some (.int .i64 cu):=(by rw[HCU.out];exact(H2.out.c 3 rfl).1);have hE2:=H2.out.1.lt)|(go_at_call 121;refine(HBG.out _).mono ?_;rintro en w3 ⟨rfl,k3⟩;simp only[SkV];have K3:=hid (K2.out.trans k3);have H3:=hid (H1.out.kp K3.out);have r8:w3.cell? ⟨E,8,none⟩=some (.slice v.pA v.pn v.pc):=(H3.out.c 8 rfl).1;have r9:w3.cell? ⟨E,9,none⟩=some (.int .i64 pt):=(by rw[HPT.out];exact(H3.out.c 9 rfl).1);have r10:w3.cell? ⟨E,10,none⟩=some (.slice v.sA v.sn v.sc):=(H3.out.c 10 rfl).1;have r3:w3.cell? ⟨E,3,none⟩=some (.int .i64 cu):=(by rw[HCU.out];exact(H3.out.c 3 rfl).1);have hE3:=H3.out.1.lt;obtain⟨x11,y11⟩:=H3.out.c 11 rfl;obtain⟨x12,y12⟩:=H3.out.c 12 rfl;obtain⟨x13,y13⟩:=H3.out.c 13 rfl;obtain⟨x14,y14⟩:=H3.out.c 14 rfl;obtain⟨x15,y15⟩:=H3.out.c 15 rfl;obtain⟨x16,y16⟩:=H3.out.c 16 rfl;obtain⟨x17,y17⟩:=H3.out.c 17 rfl;obtain⟨x18,y18⟩:=H3.out.c 18 rfl))
 have H4:=hid (H3.out.seek_ (s:=⟨true,[],pt,cu,false,pt,cu⟩) (A:=none) (n:=0) (c:=0) (Ru.nil _ _));go_wp2_with fail;go_ret;refine⟨by rw[HEF.out];rfl,X,G,R,{v with qA:=none,qn:=0,qc:=0},?_,((N1.out.then_kp K3.out).set7 _ _ _ _ _ _ _).set 18 _,?_⟩
 ·have he:({e with sk:=⟨true,[],e.pat,e.cursor,false,e.pat,e.cursor⟩,seeks:=true}:EdS)={e with sk:=⟨true,[],pt,cu,false,pt,cu⟩,seeks:=true}:=by rw[HPT.out,HCU.out]
  rw[HEF.out];show EdAt D _ E X G R g ({e with sk:=⟨true,[],e.pat,e.cursor,false,e.pat,e.cursor⟩,seeks:=true}:EdS) _;rw[he];exact H4.out.set 18 _ rfl rfl rfl rfl rfl rfl rfl rfl
 ·rw[HEF.out]
  exact(HOK.out.up (k:=j+1) (by omega) HJ.out).sk_ (s:=⟨true,[],e.pat,e.cursor,false,e.pat,e.cursor⟩) ⟨⟨HOK.out.pat0,HOK.out.pat1⟩,⟨HOK.out.pat0,HOK.out.pat1⟩,by simp[R32ok.nil]⟩ e.bell true
theorem others_son:OtC D E X G R g e T w j n k KA kn kc 25:=by
 unfold OtC;obtain⟨ef,hef⟩:∃x,x=e.others T 25 n k:=⟨_,rfl⟩;rw[←hef];obtain⟨HEF,H,HT,HOK,HJ,HLN,HKT,HK32,HK65⟩:=hid9 (show ef=({e with sk:=⟨false,[],e.pat,e.cursor,false,e.pat,e.cursor⟩,seeks:=true},true)from hef) h hT ok hj hln hk hk32 hk65;have HNB:=hid hn;clear h hT ok hj hln hk hk32 hk65 hef;go_enter Tryz.func83,Tryz.ntmps83;go_upto_region 1 with fail;obtain⟨P,w1,hP,hw,K1,HB1,HPE,HPN,H1,N1⟩:=zT H.out k KA kn kc;rw[hw,hP];have HKW:=hid (Sl.weak HKT.out (F:=Any) (G:=fun q=>q≠P) (fun q hq _=>by omega));have HKR:=hid (Sl.kp HKW.out K1.out);clear hw hP;go_upto_region 26 with fail;obtain⟨pt,hpt⟩:∃x,x=e.pat:=⟨_,rfl⟩;obtain⟨cu,hcu⟩:∃x,x=e.cursor:=⟨_,rfl⟩;obtain⟨HPT,HCU,HPA,HBG⟩:=hid4 hpt hcu (fun(wx:World)=>past_at v.pA v.sA v.pn v.pc v.sn v.sc pt wx) (fun(wx:World)=>skBegin_any false pt cu wx);have p8:w1.cell? ⟨E,8,none⟩=some (.slice v.pA v.pn v.pc):=(H1.out.c 8 rfl).1;have p9:w1.cell? ⟨E,9,none⟩=some (.int .i64 pt):=by rw[hpt];exact(H1.out.c 9 rfl).1
 have p10:w1.cell? ⟨E,10,none⟩=some (.slice v.sA v.sn v.sc):=(H1.out.c 10 rfl).1;have p3:w1.cell? ⟨E,3,none⟩=some (.int .i64 cu):=by rw[hcu];exact(H1.out.c 3 rfl).1
 have hE:=H1.out.1.lt;clear hpt hcu;go_region_held3 (fun w'=>w'.cell? ⟨E,8,none⟩=some (.slice v.pA v.pn v.pc)∧w'.cell? ⟨E,9,none⟩=some (.int .i64 pt)∧w'.cell? ⟨E,10,none⟩=some (.slice v.sA v.sn v.sc)∧w'.cell? ⟨E,3,none⟩=some (.int .i64 cu))
  (first|(with_reducible exact⟨p8,p9,p10,p3⟩)|(with_reducible exact⟨q8,q9,q10,q3⟩)|(with_reducible exact⟨r8,r9,r10,r3⟩)|(with_reducible exact heldB H3.out HPT.out HCU.out _ _ _ _ _ _ _)|(with_reducible exact heldB2 H3.out HPT.out HCU.out _ _ _ _ _ _ _ _)|go_keep)
  (first|(go_at_call 71;refine(HPA.out _).mono ?_;rintro en w2 ⟨rfl,k2⟩;have K2:=hid ((Kp.refl w1).drew.trans k2);have H2:=hid (H1.out.kp K2.out);have q8:w2.cell? ⟨E,8,none⟩=some (.slice v.pA v.pn v.pc):=(H2.out.c 8 rfl).1;have q9:w2.cell? ⟨E,9,none⟩=some (.int .i64 pt):=(by rw[HPT.out];exact(H2.out.c 9 rfl).1);have q10:w2.cell? ⟨E,10,none⟩=some (.slice v.sA v.sn v.sc):=(H2.out.c 10 rfl).1;have q3:w2.cell? ⟨E,3,none⟩=some (.int .i64 cu):=(by rw[HCU.out];exact(H2.out.c 3 rfl).1);have hE2:=H2.out.1.lt)|(go_at_call 121;refine(HBG.out _).mono ?_;rintro en w3 ⟨rfl,k3⟩;simp only[SkV];have K3:=hid (K2.out.trans k3);have H3:=hid (H1.out.kp K3.out);have r8:w3.cell? ⟨E,8,none⟩=some (.slice v.pA v.pn v.pc):=(H3.out.c 8 rfl).1;have r9:w3.cell? ⟨E,9,none⟩=some (.int .i64 pt):=(by rw[HPT.out];exact(H3.out.c 9 rfl).1);have r10:w3.cell? ⟨E,10,none⟩=some (.slice v.sA v.sn v.sc):=(H3.out.c 10 rfl).1;have r3:w3.cell? ⟨E,3,none⟩=some (.int .i64 cu):=(by rw[HCU.out];exact(H3.out.c 3 rfl).1);have hE3:=H3.out.1.lt;obtain⟨x11,y11⟩:=H3.out.c 11 rfl;obtain⟨x12,y12⟩:=H3.out.c 12 rfl;obtain⟨x13,y13⟩:=H3.out.c 13 rfl;obtain⟨x14,y14⟩:=H3.out.c 14 rfl;obtain⟨x15,y15⟩:=H3.out.c 15 rfl;obtain⟨x16,y16⟩:=H3.out.c 16 rfl;obtain⟨x17,y17⟩:=H3.out.c 17 rfl;obtain⟨x18,y18⟩:=H3.out.c 18 rfl))
 have H4:=hid (H3.out.seek_ (s:=⟨false,[],pt,cu,false,pt,cu⟩) (A:=none) (n:=0) (c:=0) (Ru.nil _ _));go_wp2_with fail;go_ret;refine⟨by rw[HEF.out];rfl,X,G,R,{v with qA:=none,qn:=0,qc:=0},?_,((N1.out.then_kp K3.out).set7 _ _ _ _ _ _ _).set 18 _,?_⟩
 ·have he:({e with sk:=⟨false,[],e.pat,e.cursor,false,e.pat,e.cursor⟩,seeks:=true}:EdS)={e with sk:=⟨false,[],pt,cu,false,pt,cu⟩,seeks:=true}:=by rw[HPT.out,HCU.out]
  rw[HEF.out];show EdAt D _ E X G R g ({e with sk:=⟨false,[],e.pat,e.cursor,false,e.pat,e.cursor⟩,seeks:=true}:EdS) _;rw[he];exact H4.out.set 18 _ rfl rfl rfl rfl rfl rfl rfl rfl
 ·rw[HEF.out]
  exact(HOK.out.up (k:=j+1) (by omega) HJ.out).sk_ (s:=⟨false,[],e.pat,e.cursor,false,e.pat,e.cursor⟩) ⟨⟨HOK.out.pat0,HOK.out.pat1⟩,⟨HOK.out.pat0,HOK.out.pat1⟩,by simp[R32ok.nil]⟩ e.bell true
theorem others_undo:OtC D E X G R g e T w j n k KA kn kc 21:=by
 unfold OtC;obtain⟨ef,hef⟩:∃x,x=e.others T 21 n k:=⟨_,rfl⟩;rw[←hef];obtain⟨HEF,H,HT,HOK,HJ,HLN,HKT,HK32,HK65⟩:=hid9 (show ef=if 0<n then EdS.undoN T n.toNat e else(e,false)from hef) h hT ok hj hln hk hk32 hk65;have HNB:=hid hn;clear h hT ok hj hln hk hk32 hk65 hef;go_enter Tryz.func83,Tryz.ntmps83;go_upto_region 1 with fail;obtain⟨P,w1,hP,hw,K1,HB1,HPE,HPN,H1,N1⟩:=zT H.out k KA kn kc;rw[hw,hP];have HKW:=hid (Sl.weak HKT.out (F:=Any) (G:=fun q=>q≠P) (fun q hq _=>by omega));have HKR:=hid (Sl.kp HKW.out K1.out);clear hw hP;go_upto_region 14 with fail;by_cases h0:0<n
 ·obtain⟨m,rfl⟩:∃m:Nat,n=m:=⟨n.toNat,by omega⟩
  have HE2:=hid (show ef=EdS.undoN T m e by rw[HEF.out,if_pos h0,Int.toNat_natCast]);have hm1:m≤9999:=by omega
  go_wp2_with fail;go_loopg [9,10] m (fun gk bv iv wr=>∃(i:Nat) (b:Bool) (X1 G1 R1:Nat) (v1:EdL) (e1:EdS),bv=.bool b∧iv=.int .i64 i∧i+gk=m∧Hid (EdAt D wr E X1 G1 R1 g e1 v1)∧Hid (EdN E X G R X1 G1 R1 w wr)∧Hid (UnLp j T e m i b e1))
  case atStart=>exact⟨0,true,X,G,R,v,e,by simp;omega,rfl,by omega,H1.out,N1.out,⟨HOK.out,rfl⟩⟩
  case round=>
   obtain⟨i,b,X1,G1,R1,v1,e1,rfl,rfl,hi,h2,n2,hl⟩:=hrel;cases b with
   |false=>
    have hrs:=hl.out.res;rw[if_neg (by simp)]at hrs;obtain⟨HE3,HOK3⟩:=hid2 (show ef=(e1,false) by rw[HE2.out,hrs]) hl.out.ok;rw[if_neg (by simp)]at HOK3;clear hrs;by_cases hlt:i<m
    all_goals
     go_wp2_with fail;go_ret;exact⟨by rw[HE3.out];rfl,X1,G1,R1,v1,by rw[HE3.out];exact h2.out,n2.out,by rw[HE3.out];exact HOK3.out⟩
   |true=>
    have hrs:=hl.out.res;rw[if_pos rfl]at hrs;have HOK3:=hid hl.out.ok;rw[if_pos rfl]at HOK3;by_cases hlt:i<m
    ·have HUN:=hid (undone_any E X1 G1 R1 g e1 v1 T wT wr h2.out (n2.out.tab HT.out) j HOK3.out HJ.out)
     obtain⟨b2,hb2⟩:∃x,x=(e1.undone T).2:=⟨_,rfl⟩;rw[←hb2]at HUN;have hmi:m - i=(m - (i+1))+1:=by omega
     rw[hmi]at hrs;have hst:EdS.undoN T (m - (i+1)+1) e1=if b2=true then EdS.undoN T (m - (i+1)) (e1.undone T).1 else((e1.undone T).1,false):=by rw[hb2];rfl
     rw[hst]at hrs;obtain⟨HRS,HB2⟩:=hid2 hrs hb2;clear hrs hst hmi hb2;go_wp2_with fail;refine HUN.out.mono ?_;rintro en w3 ⟨rfl,X2,G2,R2,v2,h3,n3,ok3⟩;obtain⟨H3,N3⟩:=hid2 h3 (n2.out.trans n3);have HL3:=hid (show UnLp j T e m (i+1) b2 (e1.undone T).1 from⟨by
      cases b2 with
      |true=>rw[if_pos rfl];exact undone_ok HOK3.out T (h3.2.tx.tx fun k hk hx=>hk (.inr hx)).ok HB2.out.symm
      |false=>rw[if_neg (by simp)];exact ok3,HRS.out⟩)
     clear h3 n3 ok3 HUN;go_wp2_with fail;go_roundg (gk - 1)
     case measure=>omega
     case rel=>exact⟨i+1,b2,X2,G2,R2,v2,(e1.undone T).1,rfl,by go_num,by omega,H3.out,N3.out,HL3.out⟩
    ·have hmi:m - i=0:=by omega
     rw[hmi]at hrs;obtain⟨HE3,HOK4⟩:=hid2 (show ef=(e1,true) by rw[HE2.out,hrs];rfl) (HOK3.out.up (k:=j+1) (by omega) HJ.out);clear hrs hmi;go_wp2_with fail;go_ret;exact⟨by rw[HE3.out];rfl,X1,G1,R1,v1,by rw[HE3.out];exact h2.out,n2.out,by rw[HE3.out];exact HOK4.out⟩
 ·have HE2:=hid (show ef=(e,false) by rw[HEF.out,if_neg h0])
  go_wp2_with fail;go_loopg [9,10] 0 (fun gk bv iv wr=>bv=.bool false∧iv=.int .i64 0∧wr=w1)
  case atStart=>exact⟨by first|rfl|simp[h0]|(simp;omega),rfl,rfl⟩
  case round=>
   obtain⟨rfl,rfl,hwr⟩:=hrel;subst wr;go_wp2_with fail;go_ret;exact⟨by rw[HE2.out];rfl,X,G,R,v,by rw[HE2.out];exact H1.out,N1.out,by rw[HE2.out];exact HOK.out.up (by omega) HJ.out⟩
theorem others_swap:OtC D E X G R g e T w j n k KA kn kc 31:=by
 unfold OtC;obtain⟨ef,hef⟩:∃x,x=e.others T 31 n k:=⟨_,rfl⟩;rw[←hef];obtain⟨HEF,H,HT,HOK,HJ,HLN,HKT,HK32,HK65⟩:=hid9 (show ef=match swapO e.tx e.cursor with|some (s,l)=>e.change T s.frm s.tt l false|none=>(e,false)from hef) h hT ok hj hln hk hk32 hk65;have HNB:=hid hn;clear h hT ok hj hln hk hk32 hk65 hef;go_enter Tryz.func83,Tryz.ntmps83;go_upto_region 1 with fail;obtain⟨P,w1,hP,hw,K1,HB1,HPE,HPN,H1,N1⟩:=zT H.out k KA kn kc;rw[hw,hP];have HKW:=hid (Sl.weak HKT.out (F:=Any) (G:=fun q=>q≠P) (fun q hq _=>by omega));have HKR:=hid (Sl.kp HKW.out K1.out);clear hw hP;go_upto_region 30 with fail;obtain⟨so,hso⟩:∃x,x=swapO e.tx e.cursor:=⟨_,rfl⟩;obtain⟨cu,hcu⟩:∃x,x=e.cursor:=⟨_,rfl⟩;obtain⟨HSO,HCU⟩:=hid2 hso hcu;obtain⟨sf,hsf⟩:∃x,x=(swO so).1.frm:=⟨_,rfl⟩;obtain⟨st,hst⟩:∃x,x=(swO so).1.tt:=⟨_,rfl⟩;obtain⟨sa,hsa⟩:∃x,x=(swO so).1.ahead:=⟨_,rfl⟩;obtain⟨sl,hsl⟩:∃x,x=(swO so).2:=⟨_,rfl⟩;obtain⟨sb,hsb⟩:∃x,x=so.isSome:=⟨_,rfl⟩;have HSW:=hid (fun(wx:World) (kx:Kp w1 wx)=>swap_u X G R g e.tx e.cursor wx ((H1.out.kp kx).2.tx.tx fun k hk hx=>hk (.inr hx)) so hso.symm);rw[←hsf,←hst,←hsa,←hsl,←hsb,←hcu]at HSW;obtain⟨HSE,HSB,HLK⟩:=hid3 (show swO so=(⟨sf,st,sa⟩,sl) by rw[hsf,hst,hsa,hsl]) hsb (show R32ok sl∧sl.length≤131072 by rw[hsl,hso];exact swO_ok (H1.out.2.tx.tx fun k hk hx=>hk (.inr hx)).ok e.cursor);have p2:w1.cell? ⟨E,2,none⟩=some (.pointer (some ⟨X,0,none⟩)):=(H1.out.c 2 rfl).1;have p3:w1.cell? ⟨E,3,none⟩=some (.int .i64 cu):=by rw[hcu];exact(H1.out.c 3 rfl).1
 have HE1:=hid H1.out.1.lt;clear hso hcu hsf hst hsa hsl hsb;go_cut [11,12,13] (fun x y z wx=>Hid (SwAt (fun q=>¬Ew D E X G R q) sf st sa sb sl x y z w1 wx))
 case first=>
  go_region_held3 (fun w'=>w'.cell? ⟨E,2,none⟩=some (.pointer (some ⟨X,0,none⟩))∧w'.cell? ⟨E,3,none⟩=some (.int .i64 cu))
   (first|(with_reducible exact⟨p2,p3⟩)|(with_reducible exact⟨r2,r3⟩)|(with_reducible exact held2s H3 nP HCU.out _ _ _)|go_keep)
   (first|(go_at_call 122;(first|(refine(HSW.out _ (Kp.refl w1).drew).mono ?_;rintro en w3 ⟨A3,n3,c3,rfl,hr3,k3⟩;have K3:=hid ((Kp.refl w1).drew.trans k3);have HR3:=hid hr3)|(refine(HSW.out _ ((Kp.refl w1).drew.alloc _)).mono ?_;rintro en w3 ⟨A3,n3,c3,rfl,hr3,k3⟩;have K3:=hid (((Kp.refl w1).drew.alloc _).trans k3);have HR3:=hid hr3;have fa:Bx w3 w1.heap.size _ _:=Bx.kp (Bx.new w1.drew _ _) k3;have nP:E≠w1.heap.size:=Nat.ne_of_lt HE1.out;obtain⟨b0,b1,b2,z0,z1,z2⟩:=fa.three;have bl:=fa.lt));have H3:=H1.out.kp K3.out;have hE3:=H3.1.lt;have r2:w3.cell? ⟨E,2,none⟩=some (.pointer (some ⟨X,0,none⟩)):=(H3.c 2 rfl).1;have r3:w3.cell? ⟨E,3,none⟩=some (.int .i64 cu):=(by rw[HCU.out];exact(H3.c 3 rfl).1)))
  all_goals
   go_wp2_with fail;go_meet;first
    |exact swAt_new K3.out (Sl.weak HR3.out (fun q _ hq=>H1.out.new_off q hq))
    |exact swAt_set K3.out fa le_ (fun hq=>absurd hq.2 (by simp)) (fun q hq=>hq.1) (Sl.weak HR3.out (fun q _ hq=>(⟨H1.out.new_off q (by unfold From at hq;simp at hq;omega),by unfold From at hq;simp at hq;omega⟩:¬Ew D E X G R q∧q≠w1.heap.size)))
 case rest=>
  obtain⟨P2,A3,n3,c3,rfl,rfl,rfl,hb,hr3,kk,hP2⟩:=hcut.out;obtain⟨HB,HR3,KK,H4⟩:=hid4 hb hr3 kk (H1.out.kp kk);clear hb hr3 kk hP2 hcut p2 p3 HSW;cases sb with
  |false=>
   have HE2:=hid (show ef=(e,false) by rw[HEF.out,←HSO.out];have:=HSB.out;cases so with|none=>rfl|some s=>cases this);go_wp2_with fail;go_ret;exact⟨by rw[HE2.out];rfl,X,G,R,v,by rw[HE2.out];exact H4.out,N1.out.then_kp KK.out,by rw[HE2.out];exact HOK.out.up (by omega) HJ.out⟩
  |true=>
   have HE2:=hid (show ef=e.change T sf st sl false by
    rw[HEF.out,←HSO.out];have hb:=HSB.out;have hs:=HSE.out;cases so with
    |none=>cases hb
    |some s=>unfold swO at hs;dsimp only[Option.getD_some]at hs;rw[hs])
   have HCH:=hid (zZ E X G R g e v _ T sf st A3 n3 c3 sl false wT wc H4.out ((HT.out.next K1.out).next KK.out) HR3.out HLK.out.1 (by have:=Ru.len HR3.out;have:=HLK.out.2;omega) j HOK.out HJ.out);rw[←HE2.out]at HCH;obtain⟨d0,d1,d2,_,_,_⟩:=HB.out.three;go_wp2_with fail;refine HCH.out.mono ?_;rintro en w5 ⟨rfl,X',G',R',v1,h5,n5,ok5⟩;go_wp2_with fail;go_ret;exact⟨rfl,X',G',R',v1,h5,(N1.out.then_kp KK.out).trans n5,ok5⟩
theorem others_none (c:Int)(hc:c≠2∧c≠32∧c≠17∧c≠18∧c≠21∧c≠22∧c≠23∧c≠24∧c≠25∧c≠27∧c≠31):OtC D E X G R g e T w j n k KA kn kc c:=by
 unfold OtC;obtain⟨ef,hef⟩:∃x,x=e.others T c n k:=⟨_,rfl⟩;rw[←hef];obtain⟨c2,c32,c17,c18,c21,c22,c23,c24,c25,c27,c31⟩:=hc;have HEF:=hid (show ef=(e,false) by rw[hef];unfold EdS.others;rw[if_neg c2,if_neg c32,if_neg c17,if_neg c18,if_neg c21,if_neg c22,if_neg c23,if_neg (fun hh=>hh.elim c24 c25),if_neg c27,if_neg c31]);have g2:(c==2)=false:=by simpa using c2
 have g32:(c==32)=false:=by simpa using c32
 have g17:(c==17)=false:=by simpa using c17
 have g18:(c==18)=false:=by simpa using c18
 have g21:(c==21)=false:=by simpa using c21
 have g22:(c==22)=false:=by simpa using c22
 have g23:(c==23)=false:=by simpa using c23
 have g24:(c==24)=false:=by simpa using c24
 have g25:(c==25)=false:=by simpa using c25
 have g27:(c==27)=false:=by simpa using c27
 have g31:(c==31)=false:=by simpa using c31
 clear c2 c32 c17 c18 c21 c22 c23 c24 c25 c27 c31;obtain⟨H,HT,HOK,HJ,HLN,HKT,HK32,HK65,HNB⟩:=hid9 h hT ok hj hln hk hk32 hk65 hn;clear h hT ok hj hln hk hk32 hk65 hef;go_enter Tryz.func83,Tryz.ntmps83;go_upto_region 1 with fail;obtain⟨P,w1,hP,hw,K1,HB1,HPE,HPN,H1,N1⟩:=zT H.out k KA kn kc;rw[hw,hP];have HKW:=hid (Sl.weak HKT.out (F:=Any) (G:=fun q=>q≠P) (fun q hq _=>by omega));have HKR:=hid (Sl.kp HKW.out K1.out);clear hw hP;go_wp2_with fail;go_ret;exact⟨by rw[HEF.out];rfl,X,G,R,v,by rw[HEF.out];exact H1.out,N1.out,by rw[HEF.out];exact HOK.out.up (by omega) HJ.out⟩
theorem others_any (c:Int):Calls Tryz.prog 83 #[.pointer (some ⟨E,0,none⟩),.int .i64 c,.int .i64 n,.agg #[.int .i64 k.kind,.int .i32 k.rune,.bool k.meta_,.slice KA kn kc]] w (RetE D (j+1) E X G R g (e.others T c n k).1 (.bool (e.others T c n k).2) w):=by
 by_cases c2:c=2
 ·subst c2;exact others_accept E X G R g e v T wT w h hT j ok hj n hn k KA kn kc hk hk32 hk65 hln
 by_cases c32:c=32
 ·subst c32;exact others_paste E X G R g e v T wT w h hT j ok hj n hn k KA kn kc hk hk32 hk65 hln
 by_cases c17:c=17
 ·subst c17;exact others_mark E X G R g e v T wT w h hT j ok hj n hn k KA kn kc hk hk32 hk65 hln
 by_cases c18:c=18
 ·subst c18;exact others_exchange E X G R g e v T wT w h hT j ok hj n hn k KA kn kc hk hk32 hk65 hln
 by_cases c21:c=21
 ·subst c21;exact others_undo E X G R g e v T wT w h hT j ok hj n hn k KA kn kc hk hk32 hk65 hln
 by_cases c22:c=22
 ·subst c22;exact others_up E X G R g e v T wT w h hT j ok hj n hn k KA kn kc hk hk32 hk65 hln
 by_cases c23:c=23
 ·subst c23;exact others_down E X G R g e v T wT w h hT j ok hj n hn k KA kn kc hk hk32 hk65 hln
 by_cases c24:c=24
 ·subst c24;exact others_sback E X G R g e v T wT w h hT j ok hj n hn k KA kn kc hk hk32 hk65 hln
 by_cases c25:c=25
 ·subst c25;exact others_son E X G R g e v T wT w h hT j ok hj n hn k KA kn kc hk hk32 hk65 hln
 by_cases c27:c=27
 ·subst c27;exact others_redraw E X G R g e v T wT w h hT j ok hj n hn k KA kn kc hk hk32 hk65 hln
 by_cases c31:c=31
 ·subst c31;exact others_swap E X G R g e v T wT w h hT j ok hj n hn k KA kn kc hk hk32 hk65 hln
 exact others_none E X G R g e v T wT w h hT j ok hj n hn k KA kn kc hk hk32 hk65 hln c ⟨c2,c32,c17,c18,c21,c22,c23,c24,c25,c27,c31⟩
end
end
end Go.Proofs.YtociefdcccokjaaGreat

/-
  Lemmas for TopMacro. Conditions: each states its own.
-/
import Derived.Test.YtociefdcccokjaaGreatG25
set_option maxHeartbeats 12800000
set_option maxRecDepth 100000
namespace Go.Proofs.YtociefdcccokjaaGreat
open Go.RowKit Go.Lib
section
variable {D:Nat→Prop}
theorem undoLast_none (F:Nat→Prop)(A:Option Addr)(n c:Nat)(gs:List Grp)(w:World)(h:GrpsF F w A n c gs)(hes:∀g∈gs,g.es.length≤1000000)(hg:gs.getLast? =none):
 Calls Tryz.prog 114 #[.agg #[.slice A n c]] w fun e w'=>e=.returned (.tuple #[.agg #[.slice none 0 0,.int .i64 0],.bool false])∧Kp w w':=by
 refine(undo_last F A n c gs w h hes).mono ?_;intro e w' k;unfold RetLast at k;rw[hg]at k;exact k
theorem undoLast_some (F:Nat→Prop)(A:Option Addr)(n c:Nat)(gs:List Grp)(w:World)(h:GrpsF F w A n c gs)(hes:∀g∈gs,g.es.length≤1000000)(q:Grp)(hg:gs.getLast? =some q):
 Calls Tryz.prog 114 #[.agg #[.slice A n c]] w fun e w'=>∃B m d,e=.returned (.tuple #[.agg #[.slice B m d,.int .i64 q.cur],.bool true])∧EdsFG (From w.heap.size) F w' B m d q.es∧Kp w w':=by
 refine(undo_last F A n c gs w h hes).mono ?_;intro e w' k;unfold RetLast at k;rw[hg]at k;exact k
theorem textDo_some (X G R g:Nat)(x:Tx)(T:TM)(ed:Ed)(A B:Option Addr)(n c m d:Nat)(wT w:World)(h:TxAt w X G R g x)(hT:TabN wT w g T (Xb X G R))
 (ho:Ru w Any A n c ed.old)(hw:Ru w Any B m d ed.new)(hok:EdOk1 ed)(t:Tx)(hd:doE T x ed=some t):
 Calls Tryz.prog 116 #[.pointer (some ⟨X,0,none⟩),.agg #[.int .i64 ed.at_,.slice A n c,.slice B m d]] w fun e w'=>e=.returned (.int .i64 0)∧∃R',(R'=R∨w.heap.size≤R')∧TxAtF (NewX w.heap.size X G R') w' X G R' g t∧Mu (Xb X G R) w w':=by
 refine(textDo_any X G R g x T ed A B n c m d wT w h hT ho hw hok.n32 (by have:=Ru.len ho;have:=hok.old;omega) (by have:=Ru.len hw;have:=hok.new;omega) hok.at1).mono ?_;intro e w' k;rw[hd]at k;exact k
theorem textDo_none (X G R g:Nat)(x:Tx)(T:TM)(ed:Ed)(A B:Option Addr)(n c m d:Nat)(wT w:World)(h:TxAt w X G R g x)(hT:TabN wT w g T (Xb X G R))
 (ho:Ru w Any A n c ed.old)(hw:Ru w Any B m d ed.new)(hok:EdOk1 ed)(hd:doE T x ed=none):
 Calls Tryz.prog 116 #[.pointer (some ⟨X,0,none⟩),.agg #[.int .i64 ed.at_,.slice A n c,.slice B m d]] w fun e w'=>∃k:Nat,0<k∧e=.returned (.int .i64 (k:Int))∧Kp w w':=by
 refine(textDo_any X G R g x T ed A B n c m d wT w h hT ho hw hok.n32 (by have:=Ru.len ho;have:=hok.old;omega) (by have:=Ru.len hw;have:=hok.new;omega) hok.at1).mono ?_;intro e w' k;rw[hd]at k;exact k
section
variable (E X G R g:Nat)(e:EdS)(v:EdL)(T:TM)(wT w:World)(h:EdAt D w E X G R g e v)(hT:TabN wT w g T (Eb E X G R))(j:Nat)(ok:EdOk j e)(hj:j+1≤1000)
include h ok hj
theorem undone_none (hg:e.undo.getLast? =none):Calls Tryz.prog 80 #[.pointer (some ⟨E,0,none⟩)] w (RetE D (j+1) E X G R g (e.undone T).1 (.bool (e.undone T).2) w):=by
 have hr:e.undone T=(e,false):=by unfold EdS.undone;rw[hg]
 rw[hr];have HL:=hid (undoLast_none _ v.uA v.un v.uc e.undo w h.2.undo (fun q hq=>by have:=(ok.ues q hq).1;omega) hg);have p7:w.cell? ⟨E,7,none⟩=some (.slice v.uA v.un v.uc):=(h.1.at_ rfl).1;obtain⟨HOK,H⟩:=hid2 (ok.up (k:=j+1) (by omega) hj) h;clear h ok hg hr;go_enter Tryz.func80,Tryz.ntmps80;go_wp2_with fail;refine HL.out.mono ?_;rintro en w1 ⟨rfl,k1⟩;go_wp2_with fail;go_ret;exact⟨rfl,X,G,R,v,H.out.kp (k1.alloc _),.refl (k1.alloc _),HOK.out⟩
include hT
theorem undone_some (q:Grp)(hg:e.undo.getLast? =some q):Calls Tryz.prog 80 #[.pointer (some ⟨E,0,none⟩)] w (RetE D (j+1) E X G R g (e.undone T).1 (.bool (e.undone T).2) w):=by
 have hr:e.undone T=if(EdS.undoes T q.es.reverse e).2=true then({EdS.settle (EdS.undoes T q.es.reverse e).1 with undo:=e.undo.dropLast,cursor:=q.cur},true)else EdS.undoes T q.es.reverse e:=by unfold EdS.undone;rw[hg]
 have HR:=hid hr;have hqm:=List.mem_of_getLast? hg;have HQ:=hid (ok.ues q hqm);have hlu:0<v.un:=by have:=h.2.undo.grps.len;have:=List.length_pos_of_mem hqm;omega
 have HL:=hid (undoLast_some _ v.uA v.un v.uc e.undo w h.2.undo (fun q hq=>by have:=(ok.ues q hq).1;omega) q hg);have p7:w.cell? ⟨E,7,none⟩=some (.slice v.uA v.un v.uc):=(h.1.at_ rfl).1;obtain⟨HG,HOK,H,HT,HLU,HJ⟩:=hid6 hg ok h hT hlu hj;generalize e.undone T=res at *;clear h ok hg hr hqm hT hlu hj;go_enter Tryz.func80,Tryz.ntmps80;go_wp2_with fail;refine HL.out.mono ?_;rintro en w1 ⟨B,m,d,rfl,hge,k1⟩;go_upto_region 2 with fail;have k2:=k1.alloc (.cells #[.slice B m d,.int .i64 q.cur] 235);have bg:=Bx.new w1 #[.slice B m d,.int .i64 q.cur] 235;have hmq:m=q.es.length:=by obtain⟨_,_,_,h3⟩:=hge;exact h3.symm
 have HU0:=hid (show UnSt D E X G R g e v T q.es (67108864*((j:Int)+1)+65536*m) w (w1.alloc (.cells #[.slice B m d,.int .i64 q.cur] 235)) w1.heap.size B m d q.cur m e.tx e.mark R from
  ⟨H.out.kp k2,.refl k2,(hge.kp' ((Kp.refl w1).alloc _)).g (fun k _ hk=>H.out.new_off k hk),bg,(H.out.kp k1).new_off _ le_,by rw[hmq,List.take_length],by have:=HOK.out.m1;omega⟩)
 have hm1:m≤1001:=by have:=HQ.out.1;have:=HOK.out.jb;omega
 obtain⟨HMQ,KK⟩:=hid2 hmq (k2.size);generalize(w1.alloc (.cells #[.slice B m d,.int .i64 q.cur] 235))=w2 at *;obtain⟨P,hP⟩:∃P,P=w1.heap.size:=⟨_,rfl⟩;rw[←hP]at HU0 bg⊢;clear hP hge k2 hmq;obtain⟨b0,b1⟩:w2.cell? ⟨P,0,none⟩=some (.slice B m d)∧w2.cell? ⟨P,1,none⟩=some (.int .i64 q.cur):=⟨bg.cell 0,bg.cell 1⟩;go_wp2_with fail;go_loopg [5] m (fun k iv wr=>∃(t:Tx) (mk:Int) (R1:Nat),iv=.int .i64 ((k:Int) - 1)∧k≤m∧Hid (UnSt D E X G R g e v T q.es (67108864*((j:Int)+1)+65536*m) w wr P B m d q.cur k t mk R1))
 case atStart=>exact⟨e.tx,e.mark,R,rfl,le_,HU0⟩
 case round=>
  obtain⟨t,mk,R1,rfl,hk,hst⟩:=hrel;cases gk with
  |zero=>
   have hres:=hst.out.res;have hrz:EdS.undoes T q.es.reverse e=({e with tx:=t,mark:=mk},true):=by rw[←hres,List.take_zero];rfl
   obtain⟨m2,hm2,hs2⟩:=yZ {e with tx:=t,mark:=mk};have hE2:res=({e with tx:=t,mark:=m2,undo:=e.undo.dropLast,cursor:=q.cur},true):=by rw[HR.out,hrz,if_pos rfl,hm2]
   have htx:=(hst.out.ed.2.tx.tx fun k hk hx=>hk (.inr hx)).ok;obtain⟨HE2,HM2,HST⟩:=hid3 hE2 (hs2 htx) (settle_any E X G R1 g _ v wr hst.out.ed);rw[hm2]at HST;clear hres hrz hm2 hs2 hE2 htx b0 b1;go_wp2_with fail;refine HST.out.mono ?_;rintro en w5 ⟨rfl,h5,m5⟩;obtain⟨N5,HB5,H5⟩:=hid3 (hst.out.n.then_mu (m5.weak (S':=Eb E X G R1) fun _ _ q=>.inl q)) (m5.bx hst.out.box (fun hp=>hst.out.off (.inl (.inl hp)))) h5;clear h5 m5 HST;obtain⟨p7,f7⟩:w5.cell? ⟨E,7,none⟩=some (.slice v.uA v.un v.uc)∧w5.frozen? ⟨E,7,none⟩=false:=H5.out.c 7 rfl;obtain⟨p3,f3⟩:w5.cell? ⟨E,3,none⟩=some (.int .i64 e.cursor)∧w5.frozen? ⟨E,3,none⟩=false:=H5.out.c 3 rfl;obtain⟨b0,b1⟩:w5.cell? ⟨P,0,none⟩=some (.slice B m d)∧w5.cell? ⟨P,1,none⟩=some (.int .i64 q.cur):=⟨HB5.out.cell 0,HB5.out.cell 1⟩;obtain⟨HLE,HCA⟩:=hid2 (H5.out.2.undo.grps.le) (H5.out.2.undo.grps.cap);obtain⟨HD,HEq⟩:=hid2 (fun(wx:World)=>undo_drop_s v.uA v.un v.uc wx HLU.out HLE.out HCA.out) (show E≠P from fun hp=>hst.out.off (.inl (.inl hp.symm)));go_upto_region 12 with fail;have hE:=H5.out.1.lt;go_region_with ((go_at_call 119;refine(HD.out _).mono ?_;rintro en w7 ⟨rfl,k7⟩;have K7:=hid ((Kp.refl w5).drew.trans k7);have H7:=hid (H5.out.kp K7.out);have HB7:=hid (HB5.out.kp K7.out);obtain⟨q7,g7⟩:w7.cell? ⟨E,7,none⟩=some (.slice v.uA v.un v.uc)∧w7.frozen? ⟨E,7,none⟩=false:=H7.out.c 7 rfl;obtain⟨q3,g3⟩:w7.cell? ⟨E,3,none⟩=some (.int .i64 e.cursor)∧w7.frozen? ⟨E,3,none⟩=false:=H7.out.c 3 rfl;obtain⟨d0,d1⟩:w7.cell? ⟨P,0,none⟩=some (.slice B m d)∧w7.cell? ⟨P,1,none⟩=some (.int .i64 q.cur):=⟨HB7.out.cell 0,HB7.out.cell 1⟩;have hE7:=H7.out.1.lt;clear k7))
   all_goals
    go_wp2_with fail;go_ret;refine⟨by rw[HE2.out];rfl,X,G,R1,{v with un:=v.un - 1,uc:=v.un - 1},?_,((N5.out.then_kp K7.out).set 7 _).set 3 _,?_⟩
    ·rw[HE2.out]
     have hg:=H7.out.2.undo.take (m:=v.un - 1) (by omega) (v.un - 1) le_ (by have:=HLE.out;omega);have hdl:e.undo.take (v.un - 1)=e.undo.dropLast:=by rw[List.dropLast_eq_take,H7.out.2.undo.grps.len]
     rw[hdl]at hg;exact(H7.out.undo_ hg).set 3 _ rfl rfl rfl rfl rfl rfl rfl rfl
    ·rw[HE2.out]
     exact HOK.out.drop HG.out t m2 (by have:=HM2.out;omega) HJ.out
  |succ k=>
   rw[show(((k+1:Nat):Int) - 1)=(k:Int) by omega];have hkm:k<q.es.length:=by rw[←HMQ.out];omega
   obtain⟨x,hx⟩:∃x,q.es[k]? =some x:=⟨_,List.getElem?_eq_getElem hkm⟩;obtain⟨ad,C1,c1,d1,C2,c2,d2,rfl,e0,e1,e2,ro,rn⟩:=hst.out.gr.get hx;have hxo:=HQ.out.2.2 x (List.mem_of_getElem? hx);have hres:=hst.out.res;rw[take_rev hx]at hres;obtain⟨HRS,HXO,HRO,HRN⟩:=hid4 hres hxo ro rn;obtain⟨b0,b1⟩:wr.cell? ⟨P,0,none⟩=some (.slice (some ad) m d)∧wr.cell? ⟨P,1,none⟩=some (.int .i64 q.cur):=⟨hst.out.box.cell 0,hst.out.box.cell 1⟩;obtain⟨sat,hsat⟩:∃s,s=x.at_:=⟨_,rfl⟩;rw[←hsat]at e0;obtain⟨HEB,HSA⟩:=hid2 (fun(wx:World)=>editBack_any sat C1 C2 c1 d1 c2 d2 wx) hsat;have hlt:k<m:=by omega
   have hdm:m≤d:=by obtain⟨_,h1,_⟩:=hst.out.gr;exact Sl.le h1
   clear hx hres hxo ro rn hkm hsat;go_upto_region 7 with fail;go_wp2_with fail;refine(HEB.out _).mono ?_;rintro en w3 ⟨rfl,k3⟩;clear HEB e0 e1 e2 b0 b1;have k4:=k3.alloc (.cells #[.int .i64 sat,.slice C2 c2 d2,.slice C1 c1 d1] 239);have be:=Bx.new w3 #[.int .i64 sat,.slice C2 c2 d2,.slice C1 c1 d1] 239;go_upto_region 8 with fail;obtain⟨Q,hQ⟩:∃Q,Q=w3.heap.size:=⟨_,rfl⟩;rw[←hQ]at be⊢;have HQE:=hid (show¬Ew D E X G R1 Q by rw[hQ];exact(hst.out.ed.kp k3).new_off _ le_);clear hQ k3;obtain⟨K4,HBE⟩:=hid2 k4 be;clear k4 be;generalize(w3.alloc (.cells #[.int .i64 sat,.slice C2 c2 d2,.slice C1 c1 d1] 239))=w4 at *;have H4:=hid (hst.out.ed.kp K4.out);have p2:w4.cell? ⟨E,2,none⟩=some (.pointer (some ⟨X,0,none⟩)):=(H4.out.c 2 rfl).1;obtain⟨a0,a1,a2,_,_,_⟩:=HBE.out.three;have k4d:Kp w4 w4.drew:=(Kp.refl w4).drew;have hx4:TxAt w4.drew X G R1 g t:=(H4.out.kp k4d).2.tx.tx fun k hk hx=>hk (.inr hx)
   have hT4:TabN wT w4.drew g T (Xb X G R1):=((hst.out.n.then_kp (K4.out.trans k4d)).tab HT.out).less fun k hk=>.inr hk
   have ro4:Ru w4.drew (fun k=>¬Ew D E X G R1 k) C1 c1 d1 x.old:=Sl.kp HRO.out (K4.out.trans k4d);have rn4:Ru w4.drew (fun k=>¬Ew D E X G R1 k) C2 c2 d2 x.new:=Sl.kp HRN.out (K4.out.trans k4d);cases hdo:doE T t x.back with
   |none=>
    have HDO:=hid (textDo_none X G R1 g t T x.back C2 C1 c2 d2 c1 d1 wT w4.drew hx4 hT4 rn4.any ro4.any HXO.out.back hdo);have hrz:=HRS.out;rw[undoes_none hdo]at hrz;have hE2:res=({e with tx:=t,mark:=mk},false):=by rw[HR.out,←hrz];rfl
    have HE2:=hid hE2;rw[show x.back.at_=sat from HSA.out.symm]at HDO;clear hx4 hT4 ro4 rn4 hdo hrz hE2 HRS;go_still_tail 5,(by kernel_rfl);change wpList _ _ _ _ _ w4.drew;go_wp2_with fail;refine HDO.out.mono ?_;rintro en w5 ⟨k5,hk5,rfl,kk5⟩;have q5:((k5:Int) != 0)=true:=by simp;omega
    clear HDO;go_wp2_with fail;go_ret;refine⟨by rw[HE2.out];rfl,X,G,R1,v,?_,hst.out.n.then_kp (K4.out.trans (k4d.trans kk5)),?_⟩
    ·rw[HE2.out];exact H4.out.kp (k4d.trans kk5)
    ·rw[HE2.out];exact HOK.out.mark t mk (by have:=hst.out.mb;omega) HJ.out
   |some t2=>
    have HDO:=hid (textDo_some X G R1 g t T x.back C2 C1 c2 d2 c1 d1 wT w4.drew hx4 hT4 rn4.any ro4.any HXO.out.back t2 hdo);have hrz:=HRS.out;rw[undoes_some hdo]at hrz;have HRZ:=hid hrz;rw[show x.back.at_=sat from HSA.out.symm]at HDO;clear hx4 hT4 ro4 rn4 hdo hrz HRS;go_still_tail 5,(by kernel_rfl);change wpList _ _ _ _ _ w4.drew;go_wp2_with fail;refine HDO.out.mono ?_;rintro en w5 ⟨rfl,R2,hR2,htx2,m5⟩;obtain⟨h5,n5⟩:=(H4.out.kp k4d).line hR2 m5 htx2;have N5:=hid ((hst.out.n.then_kp (K4.out.trans k4d)).trans n5);have be5:=m5.bx (HBE.out.kp k4d) (fun hx=>HQE.out (.inr hx));have gr5:=n5.eds (hst.out.gr.kp (K4.out.trans k4d));have bp5:=n5.bx (hst.out.box.kp (K4.out.trans k4d)) hst.out.off;obtain⟨HQ5,HB5,HG5,HP5,H5⟩:=hid5 (show¬Ew D E X G R2 Q from n5.off Q (HBE.out.kp k4d).lt HQE.out) be5 gr5 bp5 h5;have HMV:=hid (moved_any E X G R2 g _ v x.back C2 C1 c2 d2 c1 d1 w5 h5 (Ru.len HRN.out) (Ru.len HRO.out) (by have:=HXO.out.back.at0;have:=HXO.out.back.at1;omega)
     (by have:=HXO.out.new;have:=Ru.len HRN.out;omega) (by have:=HXO.out.old;have:=Ru.len HRO.out;omega) (by have:=hst.out.mb;have:=HOK.out.jb;dsimp only;omega))
    rw[show x.back.at_=sat from HSA.out.symm]at HMV;clear HDO n5 be5 gr5 bp5 h5 m5 htx2 hR2 a0 a1 a2 p2;obtain⟨a0,a1,a2,_,_,_⟩:=HB5.out.three;go_wp2_with fail;refine HMV.out.mono ?_;rintro en w6 ⟨rfl,h6,m6⟩;obtain⟨m2,hm2,hb2⟩:=vK {e with tx:=t2,mark:=mk} x.back;have hb2':=hb2 HXO.out.back (67108864*((j:Int)+1)+65536*m - 65536*((k:Int)+1)) (by omega) (by have:=hst.out.mb;dsimp only;omega);have hrz:=HRZ.out;rw[hm2]at h6 hrz;have N6:=N5.out.then_mu (m6.weak (S':=Eb E X G R2) fun _ _ q=>.inl q);have nn:EdN E X G R2 X G R2 w5 w6:=.of_mu (m6.weak fun _ _ q=>.inl q);have U6:=hid (show UnSt D E X G R g e v T q.es (67108864*((j:Int)+1)+65536*m) w w6 P (some ad) m d q.cur k t2 m2 R2 from
     ⟨h6,N6,nn.eds HG5.out,(nn.bx HP5.out.1 HP5.out.2).1,HP5.out.2,hrz,by omega⟩)
    clear h6 m6 hm2 hb2 hb2' hrz N6 nn HMV H5 HB5 HG5 HP5 a0 a1 a2;go_wp2_with fail;go_roundg k
    case measure=>omega
    case rel=>exact⟨t2,m2,R2,rfl,by omega,U6.out⟩
theorem undone_any:Calls Tryz.prog 80 #[.pointer (some ⟨E,0,none⟩)] w (RetE D (j+1) E X G R g (e.undone T).1 (.bool (e.undone T).2) w):=by
 cases hg:e.undo.getLast? with
 |none=>exact undone_none E X G R g e v T w h j ok hj hg
 |some q=>exact undone_some E X G R g e v T wT w h hT j ok hj q hg
end
end
end Go.Proofs.YtociefdcccokjaaGreat

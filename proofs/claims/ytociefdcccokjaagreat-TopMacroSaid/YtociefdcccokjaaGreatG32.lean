/-
  Lemmas for TopMacro. Conditions: each states its own.
-/
import Derived.ProofKit
import Derived.OpenShut
import Derived.ShutString
import Derived.ChangeOld
import Derived.Below
import Derived.Deep.Slices
import Derived.Deep.OwnShut
import Derived.Deep.Strs
import Derived.Lib.SmallJoins
import Derived.Test.YtociefdcccokjaaGreatG25
set_option maxHeartbeats 6400000
set_option maxRecDepth 100000
namespace Go.Proofs.YtociefdcccokjaaGreat
open Go.RowKit Go.Lib
def KyC (F:Nat→Prop)(w:World)(k:KeyV)(cs:List Value):Prop:=∃A n c,cs=[.int .i64 k.kind,.int .i32 k.rune,.bool k.meta_,.slice A n c]∧Ru w F A n c k.text
def StC (F:Nat→Prop)(w:World)(k:KeyV)(cs:List Value):Prop:=∃A n c,cs=[.int .i64 k.kind,.int .i32 k.rune,.bool k.meta_,.slice A n c,.bool false,.int .i32 0]∧Ru w F A n c k.text
def LsW (R:(Nat→Prop)→World→KeyV→List Value→Prop)(sz:Nat)(F G:Nat→Prop)(w:World)(A:Option Addr)(n c:Nat)(ks:List KeyV):Prop:=∃css,Sl w F sz A n c css.flatten∧RelL (R G w) ks css∧ks.length=n
section
variable {F F' G G':Nat→Prop}{w w':World}{A:Option Addr}{n c:Nat}{ks:List KeyV}
theorem KyC.frame (hs:w.heap.size≤w'.heap.size)(hk:∀q,G q→q<w.heap.size→w'.heap[q]? =w.heap[q]?)(k:KeyV)(cs:List Value)(h:KyC G w k cs):KyC G w' k cs:=by
 obtain⟨A,n,c,h1,h2⟩:=h;exact⟨A,n,c,h1,Sl.frame h2 hs hk⟩
theorem StC.frame (hs:w.heap.size≤w'.heap.size)(hk:∀q,G q→q<w.heap.size→w'.heap[q]? =w.heap[q]?)(k:KeyV)(cs:List Value)(h:StC G w k cs):StC G w' k cs:=by
 obtain⟨A,n,c,h1,h2⟩:=h;exact⟨A,n,c,h1,Sl.frame h2 hs hk⟩
theorem KyC.weak (hG:∀q,q<w.heap.size→G q→G' q)(k:KeyV)(cs:List Value)(h:KyC G w k cs):KyC G' w k cs:=by
 obtain⟨A,n,c,h1,h2⟩:=h;exact⟨A,n,c,h1,Sl.weak h2 hG⟩
theorem StC.weak (hG:∀q,q<w.heap.size→G q→G' q)(k:KeyV)(cs:List Value)(h:StC G w k cs):StC G' w k cs:=by
 obtain⟨A,n,c,h1,h2⟩:=h;exact⟨A,n,c,h1,Sl.weak h2 hG⟩
theorem KyC.len (k:KeyV)(cs:List Value)(h:KyC G w k cs):cs.length=4:=by obtain⟨A,n,c,rfl,_⟩:=h;rfl
theorem StC.len (k:KeyV)(cs:List Value)(h:StC G w k cs):cs.length=6:=by obtain⟨A,n,c,rfl,_⟩:=h;rfl
abbrev KsW:=LsW KyC 4
abbrev SsW:=LsW StC 6
theorem KsW.kp (h:KsW F G w A n c ks)(k:Kp w w'):KsW F G w' A n c ks:=by
 obtain⟨css,h1,h2,h3⟩:=h;exact⟨css,h1.kp k,h2.mono (KyC.frame k.size fun q _ hq=>k.block q hq),h3⟩
theorem SsW.kp (h:SsW F G w A n c ks)(k:Kp w w'):SsW F G w' A n c ks:=by
 obtain⟨css,h1,h2,h3⟩:=h;exact⟨css,h1.kp k,h2.mono (StC.frame k.size fun q _ hq=>k.block q hq),h3⟩
theorem KsW.weak (h:KsW F G w A n c ks)(hF:∀q,q<w.heap.size→F q→F' q)(hG:∀q,q<w.heap.size→G q→G' q):KsW F' G' w A n c ks:=by
 obtain⟨css,h1,h2,h3⟩:=h;exact⟨css,h1.weak hF,h2.mono (KyC.weak hG),h3⟩
theorem SsW.weak (h:SsW F G w A n c ks)(hF:∀q,q<w.heap.size→F q→F' q)(hG:∀q,q<w.heap.size→G q→G' q):SsW F' G' w A n c ks:=by
 obtain⟨css,h1,h2,h3⟩:=h;exact⟨css,h1.weak hF,h2.mono (StC.weak hG),h3⟩
theorem KsW.frame (h:KsW F G w A n c ks)(hs:w.heap.size≤w'.heap.size)(hF:∀q,F q→q<w.heap.size→w'.heap[q]? =w.heap[q]?)(hG:∀q,G q→q<w.heap.size→w'.heap[q]? =w.heap[q]?):KsW F G w' A n c ks:=by
 obtain⟨css,h1,h2,h3⟩:=h;exact⟨css,h1.frame hs hF,h2.mono (KyC.frame hs hG),h3⟩
theorem SsW.frame (h:SsW F G w A n c ks)(hs:w.heap.size≤w'.heap.size)(hF:∀q,F q→q<w.heap.size→w'.heap[q]? =w.heap[q]?)(hG:∀q,G q→q<w.heap.size→w'.heap[q]? =w.heap[q]?):SsW F G w' A n c ks:=by
 obtain⟨css,h1,h2,h3⟩:=h;exact⟨css,h1.frame hs hF,h2.mono (StC.frame hs hG),h3⟩
theorem LsW.len {R:(Nat→Prop)→World→KeyV→List Value→Prop}{sz:Nat}(h:LsW R sz F G w A n c ks):ks.length=n:=by obtain⟨_,_,_,h⟩:=h;exact h
theorem LsW.le {R:(Nat→Prop)→World→KeyV→List Value→Prop}{sz:Nat}(h:LsW R sz F G w A n c ks):n≤c:=by obtain⟨_,h,_⟩:=h;exact Sl.le h
theorem LsW.cap {R:(Nat→Prop)→World→KeyV→List Value→Prop}{sz:Nat}(h:LsW R sz F G w A n c ks):c≤maxLen:=by obtain⟨_,h,_⟩:=h;exact Sl.cap h
theorem KsW.get (h:KsW F G w A n c ks){i:Nat}{k:KeyV}(hk:ks[i]? =some k):∃ad B m d,A=some ad∧w.cell? (ad.add (i*4))=some (.int .i64 k.kind)∧w.cell? ⟨(ad.add (i*4)).block,(ad.add (i*4)).off+1,none⟩=some (.int .i32 k.rune)∧
 w.cell? ⟨(ad.add (i*4)).block,(ad.add (i*4)).off+2,none⟩=some (.bool k.meta_)∧w.cell? ⟨(ad.add (i*4)).block,(ad.add (i*4)).off+3,none⟩=some (.slice B m d)∧Ru w G B m d k.text:=by
 obtain⟨css,h1,h2,h3⟩:=h;have hl:Lst (KyC G) 4 w A n c ks:=⟨css,h1.any,h2,h3⟩;obtain⟨ad,cs,e1,⟨B,m,d,rfl,h1⟩,hc⟩:=Lst.get KyC.len hl hk;refine⟨ad,B,m,d,e1,?_,?_,?_,?_,h1⟩
 ·simpa using hc 0 (by omega)
 ·have:=hc 1 (by omega);rwa[zF _ _ 0]at this
 ·have:=hc 2 (by omega);rwa[zF _ _ 1]at this
 ·have:=hc 3 (by omega);rwa[zF _ _ 2]at this
theorem SsW.get (h:SsW F G w A n c ks){i:Nat}{k:KeyV}(hk:ks[i]? =some k):∃ad B m d,A=some ad∧w.cell? (ad.add (i*6))=some (.int .i64 k.kind)∧w.cell? ⟨(ad.add (i*6)).block,(ad.add (i*6)).off+1,none⟩=some (.int .i32 k.rune)∧
 w.cell? ⟨(ad.add (i*6)).block,(ad.add (i*6)).off+2,none⟩=some (.bool k.meta_)∧w.cell? ⟨(ad.add (i*6)).block,(ad.add (i*6)).off+3,none⟩=some (.slice B m d)∧
 w.cell? ⟨(ad.add (i*6)).block,(ad.add (i*6)).off+4,none⟩=some (.bool false)∧w.cell? ⟨(ad.add (i*6)).block,(ad.add (i*6)).off+5,none⟩=some (.int .i32 0)∧Ru w G B m d k.text:=by
 obtain⟨css,h1,h2,h3⟩:=h;have hl:Lst (StC G) 6 w A n c ks:=⟨css,h1.any,h2,h3⟩;obtain⟨ad,cs,e1,⟨B,m,d,rfl,h1⟩,hc⟩:=Lst.get StC.len hl hk;refine⟨ad,B,m,d,e1,?_,?_,?_,?_,?_,?_,h1⟩
 ·simpa using hc 0 (by omega)
 ·have:=hc 1 (by omega);rwa[zF _ _ 0]at this
 ·have:=hc 2 (by omega);rwa[zF _ _ 1]at this
 ·have:=hc 3 (by omega);rwa[zF _ _ 2]at this
 ·have:=hc 4 (by omega);rwa[zF _ _ 3]at this
 ·have:=hc 5 (by omega);rwa[zF _ _ 4]at this
end
section
variable {D:Nat→Prop}
def SeC (D:Nat→Prop)(E X G R g:Nat)(e:EdS)(T:TM)(w:World)(j:Nat)(k:KeyV)(KA:Option Addr)(kn kc:Nat):Prop:=Calls Tryz.prog 35 #[.pointer (some ⟨E,0,none⟩),.agg #[.int .i64 k.kind,.int .i32 k.rune,.bool k.meta_,.slice KA kn kc]] w (RetE D (j+1) E X G R g (e.seek T k).1 (.bool (e.seek T k).2) w)
def OtC (D:Nat→Prop)(E X G R g:Nat)(e:EdS)(T:TM)(w:World)(j:Nat)(n:Int)(k:KeyV)(KA:Option Addr)(kn kc:Nat)(c:Int):Prop:=Calls Tryz.prog 83 #[.pointer (some ⟨E,0,none⟩),.int .i64 c,.int .i64 n,.agg #[.int .i64 k.kind,.int .i32 k.rune,.bool k.meta_,.slice KA kn kc]] w (RetE D (j+1) E X G R g (e.others T c n k).1 (.bool (e.others T c n k).2) w)
def DoC (D:Nat→Prop)(E X G R g:Nat)(e:EdS)(T:TM)(w:World)(j:Nat)(n:Int)(k:KeyV)(KA:Option Addr)(kn kc:Nat)(c:Int):Prop:=Calls Tryz.prog 40 #[.pointer (some ⟨E,0,none⟩),.int .i64 c,.int .i64 n,.agg #[.int .i64 k.kind,.int .i32 k.rune,.bool k.meta_,.slice KA kn kc]] w (RetE D (j+3) E X G R g (e.does T c n k) (.tuple #[]) w)
theorem zT {w:World}{E X G R g:Nat}{e:EdS}{v:EdL}(h:EdAt D w E X G R g e v)(k:KeyV)(KA:Option Addr)(kn kc:Nat):∃P w1,w.heap.size=P∧w.alloc (.cells #[.int .i64 k.kind,.int .i32 k.rune,.bool k.meta_,.slice KA kn kc] 43)=w1∧
 Hid (Kp w w1)∧Hid (Bx w1 P #[.int .i64 k.kind,.int .i32 k.rune,.bool k.meta_,.slice KA kn kc] 43)∧Hid (¬Ew D E X G R P)∧Hid (P≠E)∧Hid (EdAt D w1 E X G R g e v)∧Hid (EdN E X G R X G R w w1):=
 ⟨_,_,rfl,rfl,(Kp.refl w).alloc _,Bx.new _ _ _,h.new_off _ le_,fun hh=>h.new_off _ le_ (.inl (.inl hh)),h.kp ((Kp.refl w).alloc _),.refl ((Kp.refl w).alloc _)⟩
end
theorem recStart_any (w:World):Calls Tryz.prog 8 #[] w fun en w'=>en=.returned (.agg #[.bool true,.slice none 0 0])∧Kp w w':=by
 go_enter Tryz.func8,Tryz.ntmps8;go_wp2;refine bodyPost_ret (v:=.agg #[.bool true,.slice none 0 0]) (by simp[results,Tryz.results8,go_sem]) rfl ?_;exact⟨rfl,(Kp.refl _).alloc _⟩
theorem infoStep:(Tryz.prog.info? 111).map (fun i=>(i.zero,i.size,i.bytes))=some (some (.agg #[.int .i64 0,.int .i32 0,.bool false,.slice none 0 0,.bool false,.int .i32 0]),6,48):=by kernel_rfl
def zeroStep (k:Nat):Array Value:=madeCells #[.int .i64 0,.int .i32 0,.bool false,.slice none 0 0,.bool false,.int .i32 0] (k*6)
theorem zeroStep_size (k:Nat):(zeroStep k).size=k*6:=by simp[zeroStep,madeCells]
theorem run_makeStep (k:Nat)(hk:k≤1048576)(w:World):(Instr.makeSlice 33 (.int .i64 0) (.int .i64 (k:Int))).run Tryz.prog w=.ok (.slice (some ⟨w.heap.size,0,none⟩) 0 k) (w.alloc (.cells (zeroStep k) 111)):=by
 obtain⟨i,hi,hz⟩:=Option.map_eq_some_iff.1 infoStep;simp only[Prod.mk.injEq]at hz;obtain⟨h1,h2,h3⟩:=hz;have h:=run_make (P:=Tryz.prog) w 33 111 i (.agg #[.int .i64 0,.int .i32 0,.bool false,.slice none 0 0,.bool false,.int .i32 0]) Tryz.underlying33 hi h1 .i64 .i64 0 k (by omega) (by omega) (by rw[h3];omega) (by omega);rw[h,h2];rfl
theorem copied_any (F G:Nat→Prop)(A:Option Addr)(n c:Nat)(ks:List KeyV)(w:World)(h:SsW F G w A n c ks)(hn:n≤1000)(ht:∀k∈ks,k.text.length≤65536):
 Calls Tryz.prog 42 #[.slice A n c] w fun en w'=>∃A' c',en=.returned (.slice A' n c')∧SsW (From w.heap.size) (From w.heap.size) w' A' n c' ks∧Kp w w':=by
 have hmk:=run_makeStep n (by omega);have HLN:=hid h.len;have hle:=h.le;have hcap:=h.cap;unfold maxLen at hcap;obtain⟨H,HTX⟩:=hid2 h ht;clear h ht;go_enter Tryz.func42,Tryz.ntmps42;go_wp2_with fail;clear hmk;go_loopw [11,3] (fun v u wr=>∃(i cc:Nat) (A1:Option Addr) (css:List (List Value)),v=.int .i64 i∧u=.slice A1 i cc∧i≤n∧Kp w wr∧Own wr w.heap.size 111 6 A1 i cc css.flatten∧
  Hid (RelL (StC (fun q=>w.heap.size≤q∧zB A1≠some q) wr) (ks.take i) css)) (fun v _ _=>n - (intOf v).toNat)
 case atStart=>exact⟨0,n,_,[],rfl,rfl,Nat.zero_le _,(Kp.refl _).alloc _,World.ownsRow_made _ _ _ le_ (by simp only[maxLen];omega) (zeroStep_size n),trivial⟩
 case round=>
  obtain⟨i,cc,A1,css,rfl,rfl,hi,kr,ho,hr⟩:=hrel;by_cases hlt:i<n
  ·obtain⟨k,hk⟩:∃k,ks[i]? =some k:=⟨_,List.getElem?_eq_getElem (by rw[HLN.out];exact hlt)⟩
   obtain⟨ad,B,m,d,rfl,e0,e1,e2,e3,e4,e5,hru⟩:=SsW.get (H.out.kp kr) hk;obtain⟨HK,HRU⟩:=hid2 hk hru;have hml:m≤65536:=by have:=Ru.len hru;have:=HTX.out k (List.mem_of_getElem? hk);omega
   obtain⟨kk,hkk⟩:∃x,x=k.kind:=⟨_,rfl⟩;obtain⟨kru,hkr⟩:∃x,x=k.rune:=⟨_,rfl⟩;obtain⟨kme,hkm⟩:∃x,x=k.meta_:=⟨_,rfl⟩;obtain⟨kt,hkt⟩:∃x,x=k.text:=⟨_,rfl⟩;rw[←hkk]at e0;rw[←hkr]at e1;rw[←hkm]at e2;rw[←hkt]at HRU;obtain⟨HKE,HML⟩:=hid2 (show k=⟨kk,kru,kme,kt⟩ by rw[hkk,hkr,hkm,hkt]) hml;clear hk hru hml hkk hkr hkm hkt;go_upto_region 5 with fail;have k1:=(Kp.refl wr).alloc (.cells #[.int .i64 kk,.int .i32 kru,.bool kme,.slice B m d,.bool false,.int .i32 0] 111);have b1:=Bx.new wr #[.int .i64 kk,.int .i32 kru,.bool kme,.slice B m d,.bool false,.int .i32 0] 111;obtain⟨P,hP⟩:∃P,P=wr.heap.size:=⟨_,rfl⟩;rw[←hP]at b1⊢;obtain⟨HP,HO1,HR1,HRU1,K1,B1,HRT,HRQ⟩:=hid8 (show w.heap.size≤P∧∀q,zB A1=some q→q<P by rw[hP];exact⟨kr.size,fun q hq=>(ho.lt q hq).2⟩) (ho.kp k1) ((hr.out).mono (StC.frame (w':=wr.alloc (.cells #[.int .i64 kk,.int .i32 kru,.bool kme,.slice B m d,.bool false,.int .i32 0] 111)) k1.size fun q _ hq=>k1.block q hq)) (Sl.kp HRU.out k1) (kr.trans k1) b1 (show∀q,q<P→q<P from fun _ h=>h) ((hr.out).mono (StC.weak (G':=fun q=>(w.heap.size≤q∧zB A1≠some q)∧q<P) fun q hl hq=>⟨hq,by rw[hP];exact hl⟩));have HRR:=hid (HRQ.out.mono (StC.frame (w':=wr.alloc (.cells #[.int .i64 kk,.int .i32 kru,.bool kme,.slice B m d,.bool false,.int .i32 0] 111)) k1.size fun q _ hq=>k1.block q hq));clear hP k1 b1 ho hr kr HRU e0 e1 e2 e3 e4 e5 HR1 HRT HRQ;generalize(wr.alloc (.cells #[.int .i64 kk,.int .i32 kru,.bool kme,.slice B m d,.bool false,.int .i32 0] 111))=w1 at *;have HCL:=hid (zH G B m d kt w1 HRU1.out (by have:=HML.out;omega));have p3:w1.cell? ⟨P,3,none⟩=some (.slice B m d):=B1.out.cell 3;go_wp2_with fail;refine HCL.out.mono ?_;rintro en w2 ⟨B2,m2,d2,rfl,hr2,k2⟩;have B2x:=hid (B1.out.kp k2);obtain⟨q3,f3⟩:w2.cell? ⟨P,3,none⟩=some (.slice B m d)∧w2.frozen? ⟨P,3,none⟩=false:=⟨B2x.out.cell 3,B2x.out.frozen 3⟩;have hPl:=B2x.out.lt;go_upto_region 6 with fail;obtain⟨B3,HO3,HRR3,HT3,K3,HPW⟩:=hid6 (B2x.out.set 3 (.slice B2 m2 d2)) ((HO1.out.kp k2).setCell (p:=⟨P,3,none⟩) (fun hq=>by have:=HP.out.2 _ hq;simp at this) (.slice B2 m2 d2)) ((HRR.out.mono (StC.frame k2.size fun q _ hq=>k2.block q hq)).mono (StC.frame (w':=w2.setCell ⟨P,3,none⟩ (.slice B2 m2 d2)) (by simp[World.setCell]) fun q hq _=>Below.heap_setCell w2 ⟨P,3,none⟩ _ q (by have:=hq.2;simp;omega))) (Sl.setCell (p:=⟨P,3,none⟩) hr2 (fun hq=>by have:=B1.out.lt;unfold From at hq;simp at hq;omega) (.slice B2 m2 d2)) ((K1.out.trans k2).setCell (p:=⟨P,3,none⟩) HP.out.1 (.slice B2 m2 d2)) (show P<w1.heap.size from B1.out.lt);clear q3 f3 hPl hr2 k2 p3 HCL B2x HRR HO1 B1 K1 HRU1;generalize(w2.setCell ⟨P,3,none⟩ (.slice B2 m2 d2))=w3 at *;have hb3:Bx w3 P #[.int .i64 kk,.int .i32 kru,.bool kme,.slice B2 m2 d2,.bool false,.int .i32 0] 111:=B3.out;have c0:w3.cell? ⟨P,0,none⟩=some (.int .i64 kk):=hb3.cell 0;have c1:w3.cell? ⟨P,1,none⟩=some (.int .i32 kru):=hb3.cell 1;have c2:w3.cell? ⟨P,2,none⟩=some (.bool kme):=hb3.cell 2;have c3:w3.cell? ⟨P,3,none⟩=some (.slice B2 m2 d2):=hb3.cell 3;have c4:w3.cell? ⟨P,4,none⟩=some (.bool false):=hb3.cell 4;have c5:w3.cell? ⟨P,5,none⟩=some (.int .i32 0):=hb3.cell 5;have hz3:=K3.out.size;have hPz:P<w3.heap.size:=hb3.lt;clear hb3;go_wp2_with (at_builtin;refine zA _ rfl _ _ _ rfl w.heap.size 111 _ 6 48 Tryz.underlying33 infoStep rfl (by omega) A1 i cc css.flatten rfl (HO3.out.alloc _) Any _ 1 1 [.int .i64 kk,.int .i32 kru,.bool kme,.slice B2 m2 d2,.bool false,.int .i32 0] rfl (Sl.new w3 #[.int .i64 kk,.int .i32 kru,.bool kme,.slice B2 m2 d2,.bool false,.int .i32 0] _ 6 1 trivial rfl (by omega)) (by simp[Value.oneCell']) (by simp only[maxLen];omega) (by omega) (by simp;omega) ?_;intro A4 c4' w4 ho4 hg4 hat4);have K4:Kp w w4:=(K3.out.alloc _).grown hg4 fun q hq=>(HO3.out.lt q hq).1
   have hRO:RelL (StC (fun q=>w.heap.size≤q∧zB A4≠some q) w4) (ks.take i) css:=by
    have h1:=HRR3.out.mono (StC.frame (w':=w3.alloc (.cells #[.int .i64 kk,.int .i32 kru,.bool kme,.slice B2 m2 d2,.bool false,.int .i32 0] 111)) ((Kp.refl w3).alloc _).size fun q _ hq=>((Kp.refl w3).alloc _).block q hq);have h2:=h1.mono (StC.frame (w':=w4) hg4.size fun q hq hl=>hg4.block q hl (fun e=>hq.1.2 e.symm));refine h2.mono (StC.weak fun q _ hq=>⟨hq.1.1,?_⟩);rcases hat4 with e|e
    ·rw[e];exact hq.1.2
    ·rw[e];intro e';injection e' with e';have:=hq.2;have:=hPz;simp at e';omega
   have hRN:StC (fun q=>w.heap.size≤q∧zB A4≠some q) w4 k [.int .i64 kk,.int .i32 kru,.bool kme,.slice B2 m2 d2,.bool false,.int .i32 0]:=by
    have h1:=Sl.weak (G:=fun q=>(w1.heap.size≤q)∧q<w3.heap.size) HT3.out fun q hl hq=>⟨hq,hl⟩
    have h2:=(Sl.alloc h1 (.cells #[.int .i64 kk,.int .i32 kru,.bool kme,.slice B2 m2 d2,.bool false,.int .i32 0] 111)).grown hg4 (fun g hg hq=>by have:=HP.out.2 g hg;have:=HPW.out;omega);rw[HKE.out];refine⟨B2,m2,d2,rfl,Sl.weak h2 fun q _ hq=>⟨by have:=HP.out.1;have:=HPW.out;omega,?_⟩⟩;rcases hat4 with e|e
    ·rw[e];intro e';have:=HP.out.2 q e';have:=HPW.out;omega
    ·rw[e];intro e';injection e' with e';have:=hq.2;simp at e';omega
   refine⟨⟨i+1,c4',A4,css++[[.int .i64 kk,.int .i32 kru,.bool kme,.slice B2 m2 d2,.bool false,.int .i32 0]],by simp,rfl,hlt,K4,by rw[List.flatten_append];simpa using ho4,?_⟩,?_⟩
   ·show RelL _ _ _
    have e:ks.take (i+1)=ks.take i++[k]:=by rw[List.take_add_one,HK.out];rfl
    rw[e];exact hRO.app (RelL.one hRN)
   ·simp[intOf];omega
  ·obtain rfl:i=n:=by omega
   have hkt:ks.take i=ks:=by rw[List.take_of_length_le (by rw[HLN.out];exact le_)]
   have HR:=hid (hr.out);rw[hkt]at HR;clear hr;go_wp2_with fail;go_ret;exact⟨A1,cc,rfl,⟨css,ho.sl,HR.out.mono (StC.weak fun q _ hq=>hq.1),HLN.out⟩,kr⟩
section
open Go.ChangeShapes Go.WideShapes Go.ChangeAt Go.RowKit Go.Deep
section
variable {H:Type}{enc:TypeId×Value→H}{P:Program}{w:World}{base:Nat}{spare:Nat→Bool}{held:Bool}
theorem in_ints {t e:TypeId}{k:IntKind}{fuel:Nat}{A:Option Addr}{n c:Nat}{x:DataW H×List MemPlace}(ht:P.underlying t=some (.slice e))(he:P.underlying e=some (.int k))(hc:P.cellsOf e=1)
 (h:DataW.trod enc P w base spare held fuel t [.slice A n c]=some x):∃xs:List Int,Sl w Any 1 A n c (xs.map (Value.int k))∧xs.length=n∧∀y∈xs,(Lit.int k y).wf=true:=by
 rcases open_ints ht he hc h with⟨h0,_⟩|⟨a,l,cap,zs,h0,_,hl,hm,hz,_,hcell,hwz⟩
 ·cases h0
  exact⟨[],Sl.nil _ _ _,rfl,by simp⟩
 ·cases h0
  have hzl:n≤zs.length:=by rw[hz];split<;>omega
  refine⟨zs.take n,⟨hl,hm,by simp;omega,fun hn=>⟨a,rfl,trivial,?_,fun j u hu=>?_⟩⟩,by simp;omega,fun y hy=>hwz y (List.mem_of_mem_take hy)⟩
  ·have:=hcell 0 (by omega)
   rw[add_zero]at this;exact World.block_lt_of_cell? w a this
  ·rw[List.getElem?_map,List.getElem?_take]at hu
   split at hu
   ·have hj:j<zs.length:=by omega
    have hg:=hcell j hj;rw[List.getElem?_eq_getElem hj]at hu;have e:zs.getD j 0=zs[j]:=by simp[hj]
    rw[e]at hg;simp at hu;rw[hg,←hu]
   ·cases hu
end
end
section
open Go.ChangeShapes Go.WideShapes Go.ChangeAt Go.RowKit Go.Deep
section
variable {H:Type}{enc:TypeId×Value→H}{P:Program}{w:World}{base:Nat}{spare:Nat→Bool}{held:Bool}
theorem flat_at {β:Type}{k:Nat}{css:List (List β)}{j:Nat}{u:β}(hk:∀c∈css,c.length=k)(h:css.flatten[j]? =some u):∃i r c,j=i*k+r∧r<k∧css[i]? =some c∧c[r]? =some u:=by
 have hj:=(List.getElem?_eq_some_iff.1 h).1;rw[vO hk]at hj;have hk0:0<k:=by
  rcases Nat.eq_zero_or_pos k with h0|h0
  ·subst h0;omega
  ·exact h0
 have hi:j / k<css.length:=Nat.div_lt_of_lt_mul (by rw[Nat.mul_comm];exact hj);refine⟨j / k,j % k,css[j / k],?_,Nat.mod_lt _ hk0,List.getElem?_eq_getElem _,?_⟩
 ·rw[Nat.mul_comm];exact(Nat.div_add_mod j k).symm
 ·rw[←yR hk (List.getElem?_eq_getElem hi) (Nat.mod_lt j hk0),show j / k*k+j % k=j from by rw[Nat.mul_comm];exact Nat.div_add_mod j k]
  exact h
theorem relL_range {α β:Type}{R:α→β→Prop}{f:Nat→α}{g:Nat→β}:∀(n:Nat),(∀i,i<n→R (f i) (g i))→RelL R ((List.range n).map f) ((List.range n).map g)
 |0,_=>trivial
 |n+1,h=>by
  rw[List.range_succ,List.map_append,List.map_append];exact(relL_range n fun i hi=>h i (by omega)).app (RelL.one (h n (by omega)))
theorem in_lst {α:Type}[Inhabited α]{R:World→α→List Value→Prop}{p:α→Prop}{k:Nat}{t e:TypeId}{fuel:Nat}{A:Option Addr}{n c:Nat}{x:DataW H×List MemPlace}(ht:P.underlying t=some (.slice e))(ce:P.cellsOf e=k)(hk0:0<k)
 (hk:∀x cs,R w x cs→cs.length=k)
 (hel:∀(f:Nat) (cs:List Value) (y:DataW H×List MemPlace),DataW.trod enc P w base spare held f e cs=some y→∃a,R w a cs∧p a)
 (h:DataW.trod enc P w base spare held fuel t [.slice A n c]=some x):∃xs:List α,Lst R k w A n c xs∧∀a∈xs,p a:=by
 rcases open_slice ht h with⟨h0,_⟩|⟨a,l,cap,m,f,D,Pl,h0,_,hl,hm,hmm,_,hi⟩
 ·cases h0
  exact⟨[],Lst.nil,by simp⟩
 ·cases h0
  rw[ce]at hi;have hnm:n≤m:=by rw[hmm];split<;>omega
  have hel':∀i,i<n→∃q:α×List Value,R w q.1 q.2∧p q.1∧∀r,r<k→w.cell? (a.add (i*k+r))=q.2[r]? :=by
   intro i hin;obtain⟨cs',h1,h2⟩:=hi i (by omega);obtain⟨_,hl',hc⟩:=World.cells?_some h1;obtain⟨b,hb,hp⟩:=hel _ _ _ h2;exact⟨(b,cs'),hb,hp,fun r hr=>by rw[←hc r hr,xN]⟩
  obtain⟨Q,hQ⟩:=choose_lt hel';have hlen:∀cs∈(List.range n).map fun i=>(Q i).2,cs.length=k:=by
   intro cs hcs;rw[List.mem_map]at hcs;obtain⟨i,hi',rfl⟩:=hcs;exact hk _ _ (hQ i (List.mem_range.1 hi')).1
  refine⟨(List.range n).map fun i=>(Q i).1,⟨(List.range n).map fun i=>(Q i).2,⟨hl,hm,by rw[vO hlen];simp,fun hn=>⟨a,rfl,trivial,?_,fun j u hu=>?_⟩⟩,relL_range n fun i hin=>(hQ i hin).1,by simp⟩,?_⟩
  ·obtain⟨hR,_,hc⟩:=hQ 0 hn
   have h1:=hc 0 hk0;have h2:=hk _ _ hR;rw[List.getElem?_eq_getElem (by omega),Nat.zero_mul,add_zero]at h1;exact World.block_lt_of_cell? w a h1
  ·obtain⟨i,r,cs,rfl,hr,hcs,hcu⟩:=flat_at hlen hu
   rw[List.getElem?_map]at hcs;rcases Nat.lt_or_ge i n with hin|hin
   ·rw[List.getElem?_range hin]at hcs
    simp at hcs;subst hcs;rw[(hQ i hin).2.2 r hr];exact hcu
   ·rw[List.getElem?_eq_none (by simpa using hin)]at hcs
    simp at hcs
  ·intro b hb
   rw[List.mem_map]at hb;obtain⟨i,hi',rfl⟩:=hb;exact(hQ i (List.mem_range.1 hi')).2.1
end
end
section
open Go.ChangeShapes Go.WideShapes Go.ChangeAt Go.RowKit Go.Deep
instance:Inhabited KeyV:=⟨⟨0,0,false,[]⟩⟩
theorem r32_wf {y:Int}(h:(Lit.int .i32 y).wf=true):r32 y:=by
 simp[Lit.wf,IntKind.min,IntKind.max,IntKind.signed,IntKind.bits]at h;unfold r32;omega
section
variable {H:Type}{enc:TypeId×Value→H}{w:World}{base:Nat}{spare:Nat→Bool}{held:Bool}
theorem in_rs {fuel:Nat}{v:Value}{x:DataW H×List MemPlace}(h:DataW.trod enc Tryz.prog w base spare held fuel 41 [v]=some x):∃A n c xs,v=.slice A n c∧Ru w Any A n c xs∧R32ok xs:=by
 rcases open_ints Tryz.underlying41 Tryz.underlying21 (by kernel_rfl) h with⟨h3,_⟩|⟨b,p,d,zs,h3,_⟩
 ·injection h3 with h3
  exact⟨none,0,0,[],h3,Ru.nil _ _,R32ok.nil⟩
 ·injection h3 with h3
  subst h3;obtain⟨xs,g1,_,g3⟩:=in_ints Tryz.underlying41 Tryz.underlying21 (by kernel_rfl) h;exact⟨_,_,_,xs,rfl,g1,fun y hy=>r32_wf (g3 y hy)⟩
theorem in_key {fuel:Nat}{cs:List Value}{x:DataW H×List MemPlace}(h:DataW.trod enc Tryz.prog w base spare held fuel 43 cs=some x):∃k:KeyV,KyC Any w k cs∧(r32 k.rune∧R32ok k.text):=by
 obtain⟨y0,y1,y2,y3,n,_,hl,h0,h1,h2,h3⟩:=Go.Joins.trod_struct4 Tryz.underlying43 h;have c4:Tryz.prog.cellsOf 43=4:=by kernel_rfl
 have ci:Tryz.prog.cellsOf 3=1:=by kernel_rfl
 have cj:Tryz.prog.cellsOf 21=1:=by kernel_rfl
 have cb:Tryz.prog.cellsOf 4=1:=by kernel_rfl
 have cr:Tryz.prog.cellsOf 41=1:=by kernel_rfl
 rw[c4]at hl;dsimp only at h0 h1 h2 h3;rw[ci]at h0;rw[cj]at h1;rw[cb]at h2;rw[cr]at h3
 match cs,hl with
 |[v0,v1,v2,v3],_=>
  simp only[List.drop_zero,List.drop_succ_cons,List.take_succ_cons,List.take_zero]at h0 h1 h2 h3;obtain⟨k,e0,_,_⟩:=DataW.trod_int Tryz.underlying3 h0;obtain⟨i,e1,_,hw⟩:=DataW.trod_int Tryz.underlying21 h1;obtain⟨b,e2,_⟩:=DataW.trod_bool Tryz.underlying4 h2
  injection e0 with e0
  injection e1 with e1
  injection e2 with e2
  subst e0 e1 e2;obtain⟨B,m,d,xs,rfl,hr1,hr2⟩:=in_rs h3;exact⟨⟨k,i,b,xs⟩,⟨B,m,d,rfl,hr1⟩,r32_wf hw,hr2⟩
theorem in_keys {fuel:Nat}{A:Option Addr}{n c:Nat}{x:DataW H×List MemPlace}(h:DataW.trod enc Tryz.prog w base spare held fuel 22 [.slice A n c]=some x):
 ∃ks:List KeyV,KsW Any Any w A n c ks∧∀k∈ks,r32 k.rune∧R32ok k.text:=by
 obtain⟨ks,⟨css,h1,h2,h3⟩,h4⟩:=in_lst (R:=KyC Any) Tryz.underlying22 (by kernel_rfl) (by omega) KyC.len (fun _ _ _ h=>in_key h) h;exact⟨ks,⟨css,h1,h2,h3⟩,h4⟩
end
end
end Go.Proofs.YtociefdcccokjaaGreat

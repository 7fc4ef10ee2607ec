/-
  Lemmas for TopMacro. Conditions: each states its own.
-/
import Derived.WalkLawsBesides
import Derived.RangeFuncWrites
import Derived.OwnWalkIn
import Derived.Test.YtociefdcccokjaaGreatG10
set_option maxHeartbeats 800000
namespace Go.Proofs.YtociefdcccokjaaGreat
open Go.RowKit Go.Lib
def Txs (w:World)(F G:Nat→Prop)(A:Option Addr)(n c:Nat)(L:List (List Int)):Prop:=
 ∃vs:List Value,Sl w F 1 A n c vs∧L.length=n∧∀(k:Nat) (x:List Int),L[k]? =some x→∃(B:Option Addr) (m d:Nat),vs[k]? =some (Value.slice B m d)∧Ru w G B m d x
section
variable {w w':World}{F G F' G':Nat→Prop}{A:Option Addr}{n c:Nat}{L:List (List Int)}
theorem Txs.len (h:Txs w F G A n c L):L.length=n:=by obtain⟨_,_,h,_⟩:=h;exact h
theorem Txs.le (h:Txs w F G A n c L):n≤c:=by obtain⟨_,h,_⟩:=h;exact h.le
theorem Txs.cap (h:Txs w F G A n c L):c≤maxLen:=by obtain⟨_,h,_⟩:=h;exact h.cap
theorem Txs.kp (h:Txs w F G A n c L)(k:Kp w w'):Txs w' F G A n c L:=by
 obtain⟨vs,h1,h2,h3⟩:=h;refine⟨vs,h1.kp k,h2,fun i x hx=>?_⟩;obtain⟨B,m,d,hv,hr⟩:=h3 i x hx;exact⟨B,m,d,hv,hr.kp k⟩
theorem Txs.frame (h:Txs w F G A n c L)(hs:w.heap.size≤w'.heap.size)(hk:∀k,F k→k<w.heap.size→w'.heap[k]? =w.heap[k]?)(hk':∀k,G k→k<w.heap.size→w'.heap[k]? =w.heap[k]?):Txs w' F G A n c L:=by
 obtain⟨vs,h1,h2,h3⟩:=h;refine⟨vs,h1.frame hs hk,h2,fun i x hx=>?_⟩;obtain⟨B,m,d,hv,hr⟩:=h3 i x hx;exact⟨B,m,d,hv,Sl.frame hr hs hk'⟩
theorem Txs.weak (h:Txs w F G A n c L)(hF:∀k,k<w.heap.size→F k→F' k)(hG:∀k,k<w.heap.size→G k→G' k):Txs w F' G' A n c L:=by
 obtain⟨vs,h1,h2,h3⟩:=h;refine⟨vs,h1.weak hF,h2,fun i x hx=>?_⟩;obtain⟨B,m,d,hv,hr⟩:=h3 i x hx;exact⟨B,m,d,hv,hr.weak hG⟩
theorem Txs.nil (w:World)(F G:Nat→Prop):Txs w F G none 0 0 []:=⟨[],Sl.nil _ _ _,rfl,fun k x h=>by simp at h⟩
theorem Txs.get (h:Txs w F G A n c L){k:Nat}(hk:k<n):∃ad B m d,A=some ad∧w.cell? (ad.add k)=some (.slice B m d)∧Ru w G B m d (L[k]?.getD []):=by
 obtain⟨vs,h1,h2,h3⟩:=h;obtain⟨ad,u,hA,hu,hc⟩:=h1.get hk;have hl:k<L.length:=by omega
 obtain⟨B,m,d,hv,hr⟩:=h3 k L[k] (List.getElem?_eq_getElem hl);rw[hu]at hv;cases hv
 refine⟨ad,B,m,d,hA,hc,?_⟩;rw[List.getElem?_eq_getElem hl];exact hr
theorem Txs.oneCell (h:Txs w F G A n c L):∃vs:List Value,Sl w F 1 A n c vs∧(∀u∈vs,u.oneCell'=true)∧L.length=n∧∀(k:Nat) (x:List Int),L[k]? =some x→∃(B:Option Addr) (m d:Nat),vs[k]? =some (Value.slice B m d)∧Ru w G B m d x:=by
 obtain⟨vs,h1,h2,h3⟩:=h;refine⟨vs,h1,fun u hu=>?_,h2,h3⟩;obtain⟨i,hi,rfl⟩:=List.getElem_of_mem hu;have hl:i<L.length:=by have:=h1.len;omega
 obtain⟨B,m,d,hv,_⟩:=h3 i L[i] (List.getElem?_eq_getElem hl);rw[List.getElem?_eq_getElem hi]at hv
 injection hv with hv
 rw[hv];rfl
end
def RetRuB (o:Option (List Int))(w:World)(e:Ending)(w':World):Prop:=
 ∃A n c,e=.returned (.tuple #[.slice A n c,.bool o.isSome])∧Ru w' (From w.heap.size) A n c (o.getD [])∧Kp w w'
theorem past_at (A B:Option Addr)(n c m d:Nat)(at_:Int)(w:World):
 Calls Tryz.prog 71 #[.agg #[.slice A n c,.int .i64 at_,.slice B m d]] w fun e w'=>e=.returned (.int .i64 at_)∧Kp w w':=by
 go_enter Tryz.func71,Tryz.ntmps71;go_wp2;go_ret;exact⟨rfl,(Kp.refl _).alloc _⟩
theorem xY (F G F1 F2:Nat→Prop)(A B C:Option Addr)(n c m d k e:Nat)(at_ i:Int)(L:List (List Int))(st now:List Int)(w:World)
 (hT:Txs w F G A n c L)(hS:Ru w F1 B m d st)(hN:Ru w F2 C k e now)(hn:n≤2000)(hm:m≤1099511627776)(hk:k≤1099511627776)(hL:∀x∈L,x.length≤1099511627776):
 Calls Tryz.prog 104 #[.agg #[.slice A n c,.int .i64 at_,.slice B m d],.int .i64 i,.slice C k e] w (RetRuB (yL L at_ st i now) w):=by
 have hcl:=hT.cap;have hle:=hT.le;unfold maxLen at hcl;by_cases h1:i<0
 ·have HE:Hid (yL L at_ st i now=none):=by show _=_;simp[yL,h1]
  go_enter Tryz.func104,Tryz.ntmps104;go_wp2;go_ret2;rw[HE.out];exact⟨none,0,0,rfl,Ru.nil _ _,(Kp.refl _).alloc _⟩
 ·obtain⟨j,rfl⟩:=Int.eq_ofNat_of_zero_le (Int.not_lt.1 h1)
  by_cases h2:n<j
  ·have HE:Hid (yL L at_ st j now=none):=by show _=_;have:=hT.len;simp[yL];omega
   go_enter Tryz.func104,Tryz.ntmps104;go_wp2;go_ret2;rw[HE.out];exact⟨none,0,0,rfl,Ru.nil _ _,(Kp.refl _).alloc _⟩
  ·by_cases h3:0<j
   ·have HE:Hid (yL L at_ st j now=some (L[n - j]?.getD [])):=by
     show _=_;have:=hT.len;rw[yL,if_neg (by omega),if_pos (by omega),this];simp
    obtain⟨ad,B',m',d',rfl,hc,hr⟩:=hT.get (k:=n - j) (by omega);have hml:m'≤1099511627776:=by
     rw[←hr.len];have hl:n - j<L.length:=by rw[hT.len];omega
     rw[List.getElem?_eq_getElem hl];exact hL _ (List.getElem_mem _)
    generalize L[n - j]?.getD []=x at *;have hc':∀o:Obj,(w.alloc o).cell? (ad.add (n - j))=some (.slice B' m' d'):=fun o=>by
     rw[World.cell?_alloc_lt _ _ _ (World.block_lt_of_cell? w _ hc)];exact hc
    go_enter Tryz.func104,Tryz.ntmps104;go_wp2_with fail;refine(zH G B' m' d' x _ ((hr.kp ((Kp.refl w).alloc _))) hml).mono ?_;rintro e w1 ⟨A1,n1,c1,rfl,hr1,hk1⟩;go_wp2_with fail;go_ret2;rw[HE.out];exact⟨A1,n1,c1,rfl,hr1.weak (fun k _ hk=>by unfold From at *;simp at hk;omega),((Kp.refl w).alloc _).trans hk1⟩
   ·obtain rfl:j=0:=by omega
    by_cases h4:at_=0
    ·have HE:Hid (yL L at_ st (0:Nat) now=some now):=by show _=_;have:=hT.len;rw[yL,if_neg (by omega),if_neg (by omega),if_pos h4]
     have hb:(at_==0)=true:=by simpa using h4
     clear h4;go_enter Tryz.func104,Tryz.ntmps104;go_wp2_with fail;refine(zH F2 C k e now _ ((hN.kp ((Kp.refl w).alloc _))) hk).mono ?_;rintro e w1 ⟨A1,n1,c1,rfl,hr1,hk1⟩;go_wp2_with fail;go_ret2;rw[HE.out];exact⟨A1,n1,c1,rfl,hr1.weak (fun k _ hk=>by unfold From at *;simp at hk;omega),((Kp.refl w).alloc _).trans hk1⟩
    ·have HE:Hid (yL L at_ st (0:Nat) now=some st):=by show _=_;have:=hT.len;rw[yL,if_neg (by omega),if_neg (by omega),if_neg h4]
     have hb:(at_==0)=false:=by simpa using h4
     clear h4;go_enter Tryz.func104,Tryz.ntmps104;go_wp2_with fail;refine(zH F1 B m d st _ ((hS.kp ((Kp.refl w).alloc _))) hm).mono ?_;rintro e w1 ⟨A1,n1,c1,rfl,hr1,hk1⟩;go_wp2_with fail;go_ret2;rw[HE.out];exact⟨A1,n1,c1,rfl,hr1.weak (fun k _ hk=>by unfold From at *;simp at hk;omega),((Kp.refl w).alloc _).trans hk1⟩
def RetPast (F:Nat→Prop)(L:List (List Int))(at_:Int)(st:List Int)(w:World)(e:Ending)(w':World):Prop:=
 ∃A n c B m d,e=.returned (.agg #[.slice A n c,.int .i64 at_,.slice B m d])∧Txs w' F F A n c L∧Ru w' F B m d st∧Kp w w'
theorem add_txs {w w1 w2 w3 wf:World}{G:Nat→Prop}{A1 A2 A3:Option Addr}{n c1 c3 n2 c2:Nat}{L:List (List Int)}{now:List Int}{vs:List Value}{o:Obj}(t:Nat)
 (HL:L.length=n)(HVX:∀(k:Nat) (x:List Int),L[k]? =some x→∃(B:Option Addr) (m d:Nat),vs[k]? =some (Value.slice B m d)∧Ru w G B m d x)(KF:Kp w wf)
 (HW1:Own w1 (w.heap.size+2) 41 1 A1 n c1 vs)(hz1:w.heap.size+1<w1.heap.size)(_hk2:Kp w1 w2)(hr2:Ru w2 (From w1.heap.size) A2 n2 c2 now)
 (hown3:Own w3 (w.heap.size+2) 41 1 A3 (n+1) c3 (vs++[Value.slice A2 n2 c2]))(hg3:(w2.alloc o).grownBy w3 (zB A1))
 (hs:w3.heap.size≤wf.heap.size)(hf:∀k,k≠w.heap.size+1→wf.heap[k]? =w3.heap[k]?)(ht:t≤n+1)(hF:∀k,w.heap.size≤k→G k):
 Txs wf G G (if c3=t then A3 else A3.map (·.add t)) (n+1 - t) (c3 - t) ((L++[now]).drop t):=by
 have h1:Sl wf (From (w.heap.size+2)) 1 A3 (n+1) c3 (vs++[Value.slice A2 n2 c2]):=hown3.sl.frame hs fun k hk _=>hf k (by unfold From at hk;omega)
 have h2:=h1.drop ht;rw[Nat.mul_one]at h2;have hvl:vs.length=n:=by have:=HW1.len;omega
 refine⟨_,h2.weak (fun k _ hk=>hF k (by unfold From at hk;omega)),by simp[HL],fun k x hx=>?_⟩;rw[List.getElem?_drop]at hx⊢;rcases Nat.lt_or_ge (t+k) n with hlt|hge
 ·rw[List.getElem?_append_left (by omega)]at hx⊢
  obtain⟨B,m,d,hv,hr⟩:=HVX _ x hx;exact⟨B,m,d,hv,hr.kp KF⟩
 ·have hlen:=(List.getElem?_eq_some_iff.1 hx).1
  rw[List.length_append,HL,List.length_singleton]at hlen;have hk:t+k=n:=by omega
  rw[hk,List.getElem?_append_right (by omega),HL,Nat.sub_self]at hx;rw[hk,List.getElem?_append_right (by omega),hvl,Nat.sub_self];have hx':now=x:=by simpa using hx
  subst hx';refine⟨A2,n2,c2,rfl,Ru.weak (F:=From w1.heap.size) ?_ (fun k _ hk=>hF k (by unfold From at hk;omega))⟩;refine Sl.frame hr2 ?_ fun k hk hlt=>?_
  ·have:=hg3.size;simp at this;omega
  ·unfold From at hk
   rw[hf k (by omega),hg3.block k (by simp;omega) (fun e=>by have:=HW1.lt k e.symm;omega),Below.heap_alloc _ _ _ hlt]
theorem past_add (F F2:Nat→Prop)(A B C:Option Addr)(n c m d k e:Nat)(at_:Int)(L:List (List Int))(now:List Int)(w:World)
 (hF:∀k,w.heap.size≤k→F k)(hT:Txs w F F A n c L)(hN:Ru w F2 C k e now)(hn:n≤2000)(hk:k≤1099511627776):
 Calls Tryz.prog 155 #[.agg #[.slice A n c,.int .i64 at_,.slice B m d],.slice C k e] w (RetPast F (addM L now) 0 [] w):=by
 have hcl:=hT.cap;have hle:=hT.le;unfold maxLen at hcl;by_cases h0:k=0
 ·have HE:Hid (addM L now=L):=by show _=_;rw[addM,if_pos];left;exact List.eq_nil_of_length_eq_zero (by rw[hN.len,h0])
  subst h0;have HF:=hid hF;clear hF;go_enter Tryz.func155,Tryz.ntmps155;go_wp2_with fail;refine bodyPost_ret (v:=.agg #[.slice A n c,.int .i64 0,.slice none 0 0]) (by simp[results,Tryz.results155,go_sem]) rfl ?_;rw[HE.out];have hk:Kp w ((w.alloc (.cells #[.slice A n c,.int .i64 at_,.slice B m d] 64)).alloc (.cells #[.slice A n c,.int .i64 0,.slice none 0 0] 64)):=((Kp.refl _).alloc _).alloc _;exact⟨A,n,c,none,0,0,rfl,hT.kp hk,Ru.nil _ _,hk⟩
 ·have hk0:((k:Int)==0)=false:=by simpa using h0
  obtain⟨vs,hvs,hv1,hvl,hvx⟩:=hT.oneCell;have HF:=hid hF;clear hF;obtain⟨HV1,HVX⟩:=hid2 hv1 hvx;clear hv1 hvx;by_cases hn0:n=0
  ·have HE:Hid (addM L now=(L++[now]).drop (n+1 - 500)):=by
    show _=_;have hL:L=[]:=List.eq_nil_of_length_eq_zero (by rw[hT.len,hn0]);subst hL;rw[addM,if_neg]
    ·simp at hvl;simp[hvl]
    ·rintro(h|h)
     ·rw[h]at hN;exact h0 (by simpa using hN.len.symm)
     ·simp at h
   have hn00:¬(0:Int)<(n:Int):=by omega
   have HL:=hid hvl;clear hvl hn0;go_enter Tryz.func155,Tryz.ntmps155;go_wp2_with fail;have KP0:Kp w ((w.alloc (.cells #[.slice A n c,.int .i64 at_,.slice B m d] 64)).alloc (.cells #[.slice none 0 0,.int .i64 0,.slice none 0 0] 64)):=((Kp.refl _).alloc _).alloc _;refine(vD F A n c vs _ (hvs.kp KP0) HV1.out (by omega)).mono ?_;rintro e w1 ⟨A1,n1,c1,rfl,hown1,hk1⟩;obtain rfl:n1=n:=by have:=hown1.len;have:=hvs.len;omega
   obtain⟨hc1,hf1⟩:=hk1.cells;have hz1:w.heap.size+1<w1.heap.size:=by have:=hk1.size;first|omega|(simp at this;omega)
   have KP1:=KP0.trans hk1;have HW1:Own w1 (w.heap.size+2) 41 1 A1 n1 c1 vs:=hown1.more (by first|omega|simp);clear hk1 hown1 hvs;go_wp2_with fail;refine(zH F2 C k e now _ (hN.kp KP1) hk).mono ?_;rintro e w2 ⟨A2,n2,c2,rfl,hr2,hk2⟩;obtain⟨hc2,hf2⟩:=hk2.cells;have hz2:w.heap.size+1<w2.heap.size:=by have:=hk2.size;omega
   have KP2:=KP1.trans hk2;go_wp2_with (at_builtin;refine zA _ rfl (.tmp 32) (.tmp 35) _ rfl (w.heap.size+2) 41 _ 1 24 Tryz.underlying37 vC rfl (by omega) A1 n1 c1 vs rfl ((HW1.kp hk2).alloc _) Any _ 1 1 [.slice A2 n2 c2] rfl (Sl.new _ _ _ _ _ trivial rfl (by omega)) (by simp[Value.oneCell']) (by simp only[maxLen];omega) (by omega) (by simp;omega) ?_;intro A3 c3 w3 hown3 hg3 hat3;obtain⟨hc3,hf3⟩:=grown_cells hg3 (B:=w.heap.size+2) (fun k hk=>(HW1.lt k hk).1) (by simp;omega);have hz3:w.heap.size+1<w3.heap.size:=(by have:=hg3.size;simp at this;omega);have hle3:n1+1≤c3:=hown3.cap.1);have e0:∀i,i<3→(w3.cell? ⟨w.heap.size+1,i,none⟩).isSome=true:=fun i hi=>by
    rw[hc3 _ _ (by omega),World.cell?_alloc_lt _ _ _ (by simpa using hz2),hc2 _ _ hz1,hc1 _ _ (by simp)]
    match i,hi with
    |0,_=>simp
    |1,_=>simp
    |2,_=>simp
   have e1:=e0 0 (by omega);have e2:=e0 1 (by omega);have e3:=e0 2 (by omega);refine bodyPost_ret (v:=.agg #[.slice A3 (n1+1) c3,.int .i64 0,.slice none 0 0]) (by simp[results,Tryz.results155,go_sem,e1,e2,e3]) rfl ?_;rw[HE.out];have hw:∀k,k≠w.heap.size+1→(((w3.setCell ⟨w.heap.size+1,0,none⟩ (.slice A3 (n1+1) c3)).setCell ⟨w.heap.size+1,1,none⟩ (.int .i64 0)).setCell ⟨w.heap.size+1,2,none⟩ (.slice none 0 0)).heap[k]? =w3.heap[k]? :=fun k hk=>by
    rw[Below.heap_setCell _ _ _ _ hk,Below.heap_setCell _ _ _ _ hk,Below.heap_setCell _ _ _ _ hk]
   have KF:Kp w (((w3.setCell ⟨w.heap.size+1,0,none⟩ (.slice A3 (n1+1) c3)).setCell ⟨w.heap.size+1,1,none⟩ (.int .i64 0)).setCell ⟨w.heap.size+1,2,none⟩ (.slice none 0 0)):=
    ((((KP2.alloc _).grown hg3 (fun k hk=>by have:=(HW1.lt k hk).1;omega)).setCell (by simp) _).setCell (by simp) _).setCell (by simp) _
   have hT':=add_txs (t:=0) HL.out HVX.out KF HW1 hz1 hk2 hr2 hown3 hg3 (by simp[World.setCell]) hw (by omega) HF.out;have ht:n1+1 - 500=0:=by omega
   rw[ht];refine⟨A3,n1+1,c3,none,0,0,rfl,?_,Ru.nil _ _,KF⟩;have hA:(if c3=0 then A3 else A3.map (·.add 0))=A3:=by simp[add_zero]
   rw[hA]at hT';exact hT'
  ·have HL:=hid hvl
   clear hvl;obtain⟨ad,B',m',d',rfl,hc,hr⟩:=hT.get (k:=n - 1) (by omega);have hc':∀o1 o2:Obj,((w.alloc o1).alloc o2).cell? (ad.add (n - 1))=some (.slice B' m' d'):=fun o1 o2=>by
    have:=World.block_lt_of_cell? w _ hc;rw[World.cell?_alloc_lt _ _ _ (by simp;omega),World.cell?_alloc_lt _ _ _ this];exact hc
   have hpos:(0:Int)<(n:Int):=by omega
   by_cases hs:L[n - 1]?.getD []=now
   ·have HE:Hid (addM L now=L):=by
     show _=_;rw[addM,if_pos]
     right
     have hl:n - 1<L.length:=by rw[HL.out];omega
     rw[List.getLast?_eq_getElem?,HL.out,←hs,List.getElem?_eq_getElem hl];rfl
    have HB:Hid (sameB (L[n - 1]?.getD []) now=true):=(xX _ _).2 hs;generalize L[n - 1]?.getD []=x at *;clear hs;go_enter Tryz.func155,Tryz.ntmps155;go_wp2_with fail;have KP:Kp w ((w.alloc (.cells #[.slice (some ad) n c,.int .i64 at_,.slice B m d] 64)).alloc (.cells #[.slice none 0 0,.int .i64 0,.slice none 0 0] 64)):=((Kp.refl _).alloc _).alloc _;refine(equal_any F F2 B' C m' d' k e x now _ (hr.kp KP) (hN.kp KP)).mono ?_;rintro e w0 ⟨rfl,hdr⟩;obtain⟨q,rfl⟩:=hdr;rw[HB.out];go_wp2_with fail;refine bodyPost_ret (v:=.agg #[.slice (some ad) n c,.int .i64 0,.slice none 0 0]) (by simp[results,Tryz.results155,go_sem]) rfl ?_;rw[HE.out];have KF:=((((KP.drewN q).setCell (p:=⟨w.heap.size+1,0,none⟩) (by simp) (.slice (some ad) n c)).setCell (p:=⟨w.heap.size+1,1,none⟩) (by simp) (.int .i64 0)).setCell (p:=⟨w.heap.size+1,2,none⟩) (by simp) (.slice none 0 0));exact⟨some ad,n,c,none,0,0,rfl,hT.kp KF,Ru.nil _ _,KF⟩
   ·have HE:Hid (addM L now=(L++[now]).drop (n+1 - 500)):=by
     show _=_;rw[addM,if_neg,HL.out];rintro(h|h)
     ·rw[h]at hN;exact h0 (by simpa using hN.len.symm)
     ·have hl:n - 1<L.length:=by rw[HL.out];omega
      rw[List.getLast?_eq_getElem?,HL.out]at h;rw[h]at hs;exact hs rfl
    have HB:Hid (sameB (L[n - 1]?.getD []) now=false):=sameB_no hs;generalize L[n - 1]?.getD []=x at *;clear hs;by_cases h500:n+1<500
    ·go_enter Tryz.func155,Tryz.ntmps155
     go_wp2_with fail;have KP:Kp w ((w.alloc (.cells #[.slice (some ad) n c,.int .i64 at_,.slice B m d] 64)).alloc (.cells #[.slice none 0 0,.int .i64 0,.slice none 0 0] 64)):=((Kp.refl _).alloc _).alloc _;refine(equal_any F F2 B' C m' d' k e x now _ (hr.kp KP) (hN.kp KP)).mono ?_;rintro e w0 ⟨rfl,hdr⟩;rw[HB.out];have KP0:=KP.trans hdr.kp;obtain⟨hc0,hf0⟩:=hdr.kp.cells;have hz0:w.heap.size+1<w0.heap.size:=by have:=hdr.size;simp at this;omega
     clear hdr KP hc hc' hr;go_wp2_with fail;refine(vD F (some ad) n c vs _ (hvs.kp KP0) HV1.out (by omega)).mono ?_;rintro e w1 ⟨A1,n1,c1,rfl,hown1,hk1⟩;obtain rfl:n1=n:=by have:=hown1.len;have:=hvs.len;omega
     obtain⟨hc1,hf1⟩:=hk1.cells;have hz1:w.heap.size+1<w1.heap.size:=by have:=hk1.size;first|omega|(simp at this;omega)
     have KP1:=KP0.trans hk1;have HW1:Own w1 (w.heap.size+2) 41 1 A1 n1 c1 vs:=hown1.more (by first|omega|simp);clear hk1 hown1 hvs;go_wp2_with fail;refine(zH F2 C k e now _ (hN.kp KP1) hk).mono ?_;rintro e w2 ⟨A2,n2,c2,rfl,hr2,hk2⟩;obtain⟨hc2,hf2⟩:=hk2.cells;have hz2:w.heap.size+1<w2.heap.size:=by have:=hk2.size;omega
     have KP2:=KP1.trans hk2;go_wp2_with (at_builtin;refine zA _ rfl (.tmp 32) (.tmp 35) _ rfl (w.heap.size+2) 41 _ 1 24 Tryz.underlying37 vC rfl (by omega) A1 n1 c1 vs rfl ((HW1.kp hk2).alloc _) Any _ 1 1 [.slice A2 n2 c2] rfl (Sl.new _ _ _ _ _ trivial rfl (by omega)) (by simp[Value.oneCell']) (by simp only[maxLen];omega) (by omega) (by simp;omega) ?_;intro A3 c3 w3 hown3 hg3 hat3;obtain⟨hc3,hf3⟩:=grown_cells hg3 (B:=w.heap.size+2) (fun k hk=>(HW1.lt k hk).1) (by simp;omega);have hz3:w.heap.size+1<w3.heap.size:=(by have:=hg3.size;simp at this;omega);have hle3:n1+1≤c3:=hown3.cap.1);have e0:∀i,i<3→(w3.cell? ⟨w.heap.size+1,i,none⟩).isSome=true:=fun i hi=>by
      rw[hc3 _ _ (by omega),World.cell?_alloc_lt _ _ _ (by simpa using hz2),hc2 _ _ hz1,hc1 _ _ hz0,hc0 _ _ (by simp)]
      match i,hi with
      |0,_=>simp
      |1,_=>simp
      |2,_=>simp
     have e1:=e0 0 (by omega);have e2:=e0 1 (by omega);have e3:=e0 2 (by omega);refine bodyPost_ret (v:=.agg #[.slice A3 (n1+1) c3,.int .i64 0,.slice none 0 0]) (by simp[results,Tryz.results155,go_sem,e1,e2,e3]) rfl ?_;rw[HE.out];have hw:∀k,k≠w.heap.size+1→(((w3.setCell ⟨w.heap.size+1,0,none⟩ (.slice A3 (n1+1) c3)).setCell ⟨w.heap.size+1,1,none⟩ (.int .i64 0)).setCell ⟨w.heap.size+1,2,none⟩ (.slice none 0 0)).heap[k]? =w3.heap[k]? :=fun k hk=>by
      rw[Below.heap_setCell _ _ _ _ hk,Below.heap_setCell _ _ _ _ hk,Below.heap_setCell _ _ _ _ hk]
     have KF:Kp w (((w3.setCell ⟨w.heap.size+1,0,none⟩ (.slice A3 (n1+1) c3)).setCell ⟨w.heap.size+1,1,none⟩ (.int .i64 0)).setCell ⟨w.heap.size+1,2,none⟩ (.slice none 0 0)):=
      ((((KP2.alloc _).grown hg3 (fun k hk=>by have:=(HW1.lt k hk).1;omega)).setCell (by simp) _).setCell (by simp) _).setCell (by simp) _
     have hT':=add_txs (t:=0) HL.out HVX.out KF HW1 hz1 hk2 hr2 hown3 hg3 (by simp[World.setCell]) hw (by omega) HF.out;have ht:n1+1 - 500=0:=by omega
     rw[ht];refine⟨A3,n1+1,c3,none,0,0,rfl,?_,Ru.nil _ _,KF⟩;have hA:(if c3=0 then A3 else A3.map (·.add 0))=A3:=by simp[add_zero]
     rw[hA]at hT';exact hT'
    ·have htn:((n:Int)+1 - 500).toNat=n+1 - 500:=by omega
     go_enter Tryz.func155,Tryz.ntmps155;go_wp2_with fail;have KP:Kp w ((w.alloc (.cells #[.slice (some ad) n c,.int .i64 at_,.slice B m d] 64)).alloc (.cells #[.slice none 0 0,.int .i64 0,.slice none 0 0] 64)):=((Kp.refl _).alloc _).alloc _;refine(equal_any F F2 B' C m' d' k e x now _ (hr.kp KP) (hN.kp KP)).mono ?_;rintro e w0 ⟨rfl,hdr⟩;rw[HB.out];have KP0:=KP.trans hdr.kp;obtain⟨hc0,hf0⟩:=hdr.kp.cells;have hz0:w.heap.size+1<w0.heap.size:=by have:=hdr.size;simp at this;omega
     clear hdr KP hc hc' hr;go_wp2_with fail;refine(vD F (some ad) n c vs _ (hvs.kp KP0) HV1.out (by omega)).mono ?_;rintro e w1 ⟨A1,n1,c1,rfl,hown1,hk1⟩;obtain rfl:n1=n:=by have:=hown1.len;have:=hvs.len;omega
     obtain⟨hc1,hf1⟩:=hk1.cells;have hz1:w.heap.size+1<w1.heap.size:=by have:=hk1.size;first|omega|(simp at this;omega)
     have KP1:=KP0.trans hk1;have HW1:Own w1 (w.heap.size+2) 41 1 A1 n1 c1 vs:=hown1.more (by first|omega|simp);clear hk1 hown1 hvs;go_wp2_with fail;refine(zH F2 C k e now _ (hN.kp KP1) hk).mono ?_;rintro e w2 ⟨A2,n2,c2,rfl,hr2,hk2⟩;obtain⟨hc2,hf2⟩:=hk2.cells;have hz2:w.heap.size+1<w2.heap.size:=by have:=hk2.size;omega
     have KP2:=KP1.trans hk2;go_wp2_with (at_builtin;refine zA _ rfl (.tmp 32) (.tmp 35) _ rfl (w.heap.size+2) 41 _ 1 24 Tryz.underlying37 vC rfl (by omega) A1 n1 c1 vs rfl ((HW1.kp hk2).alloc _) Any _ 1 1 [.slice A2 n2 c2] rfl (Sl.new _ _ _ _ _ trivial rfl (by omega)) (by simp[Value.oneCell']) (by simp only[maxLen];omega) (by omega) (by simp;omega) ?_;intro A3 c3 w3 hown3 hg3 hat3;obtain⟨hc3,hf3⟩:=grown_cells hg3 (B:=w.heap.size+2) (fun k hk=>(HW1.lt k hk).1) (by simp;omega);have hz3:w.heap.size+1<w3.heap.size:=(by have:=hg3.size;simp at this;omega);have hle3:n1+1≤c3:=hown3.cap.1);have e0:∀i,i<3→(w3.cell? ⟨w.heap.size+1,i,none⟩).isSome=true:=fun i hi=>by
      rw[hc3 _ _ (by omega),World.cell?_alloc_lt _ _ _ (by simpa using hz2),hc2 _ _ hz1,hc1 _ _ hz0,hc0 _ _ (by simp)]
      match i,hi with
      |0,_=>simp
      |1,_=>simp
      |2,_=>simp
     have e1:=e0 0 (by omega);have e2:=e0 1 (by omega);have e3:=e0 2 (by omega);refine bodyPost_ret (v:=.agg #[(.slice (Option.map (fun x=>x.add (n1 - 499)) A3) (n1+1 - (n1 - 499)) (c3 - (n1 - 499))),.int .i64 0,.slice none 0 0]) (by simp[results,Tryz.results155,go_sem,e1,e2,e3]) rfl ?_;rw[HE.out];have hw:∀k,k≠w.heap.size+1→(((w3.setCell ⟨w.heap.size+1,0,none⟩ (.slice (Option.map (fun x=>x.add (n1 - 499)) A3) (n1+1 - (n1 - 499)) (c3 - (n1 - 499)))).setCell ⟨w.heap.size+1,1,none⟩ (.int .i64 0)).setCell ⟨w.heap.size+1,2,none⟩ (.slice none 0 0)).heap[k]? =w3.heap[k]? :=fun k hk=>by
      rw[Below.heap_setCell _ _ _ _ hk,Below.heap_setCell _ _ _ _ hk,Below.heap_setCell _ _ _ _ hk]
     have KF:Kp w (((w3.setCell ⟨w.heap.size+1,0,none⟩ (.slice (Option.map (fun x=>x.add (n1 - 499)) A3) (n1+1 - (n1 - 499)) (c3 - (n1 - 499)))).setCell ⟨w.heap.size+1,1,none⟩ (.int .i64 0)).setCell ⟨w.heap.size+1,2,none⟩ (.slice none 0 0)):=
      ((((KP2.alloc _).grown hg3 (fun k hk=>by have:=(HW1.lt k hk).1;omega)).setCell (by simp) _).setCell (by simp) _).setCell (by simp) _
     have hT':=add_txs (t:=n1 - 499) HL.out HVX.out KF HW1 hz1 hk2 hr2 hown3 hg3 (by simp[World.setCell]) hw (by omega) HF.out;have ht:n1+1 - 500=n1 - 499:=by omega
     rw[ht];refine⟨_,_,_,none,0,0,rfl,?_,Ru.nil _ _,KF⟩;rw[if_neg (by omega)]at hT';exact hT'
def RetGo (F:Nat→Prop)(L:List (List Int))(at_:Int)(st:List Int)(o:Option (List Int))(w:World)(e:Ending)(w':World):Prop:=
 ∃A n c B m d C k f,e=.returned (.tuple #[.agg #[.slice A n c,.int .i64 at_,.slice B m d],.slice C k f,.bool o.isSome])∧Txs w' F F A n c L∧Ru w' F B m d st∧Ru w' F C k f (o.getD [])∧Kp w w'
theorem past_go_none (F F2:Nat→Prop)(A B C:Option Addr)(n c m d k e:Nat)(at_ i:Int)(L:List (List Int))(st now:List Int)(w:World)
 (hF:∀k,w.heap.size≤k→F k)(hT:Txs w F F A n c L)(hS:Ru w F B m d st)(hN:Ru w F2 C k e now)(hn:n≤2000)(hm:m≤1099511627776)(hk:k≤1099511627776)(hL:∀x∈L,x.length≤1099511627776)
 (ho:yL L at_ st i now=none):
 Calls Tryz.prog 107 #[.agg #[.slice A n c,.int .i64 at_,.slice B m d],.int .i64 i,.slice C k e] w (RetGo F L at_ st none w):=by
 obtain⟨HO,HL,HF⟩:=hid3 ho hL hF;clear ho hL hF;go_enter Tryz.func107,Tryz.ntmps107;go_wp2_with fail;have KP:Kp w ((w.alloc (.cells #[.slice A n c,.int .i64 at_,.slice B m d] 64)).alloc (.cells #[.slice none 0 0,.int .i64 0,.slice none 0 0] 64)):=((Kp.refl _).alloc _).alloc _;refine(xY F F F F2 A B C n c m d k e at_ i L st now _ (hT.kp KP) (hS.kp KP) (hN.kp KP) hn hm hk HL.out).mono ?_;rintro e w1 ⟨A1,n1,c1,rfl,hr1,hk1⟩;rw[HO.out]at hr1⊢;obtain⟨hc1,hf1⟩:=hk1.cells;have hz1:w.heap.size+1<w1.heap.size:=by have:=hk1.size;simp at this;omega
 have hy1:w.heap.size<w1.heap.size:=by omega
 have KP1:=KP.trans hk1;have _hr1f:Ru w1 (fun k=>w.heap.size≤k∧k≠w.heap.size∧k≠w.heap.size+1) A1 n1 c1 []:=hr1.weak (fun k _ hk=>by unfold From at hk;simp at hk;omega);have e0:∀i,i<3→(w1.cell? ⟨w.heap.size+1,i,none⟩).isSome=true:=fun i hi=>by
  rw[hc1 _ _ (by simp)]
  match i,hi with
  |0,_=>simp
  |1,_=>simp
  |2,_=>simp
 have e1:=e0 0 (by omega);have e2:=e0 1 (by omega);have e3:=e0 2 (by omega);clear e0;go_wp2_with fail;refine bodyPost_ret (v:=.tuple #[.agg #[.slice A n c,.int .i64 at_,.slice B m d],.slice none 0 0,.bool false]) (by simp[results,Tryz.results107,go_sem,e1,e2,e3]) rfl ?_;have KF:=(((KP1.setCell (p:=⟨w.heap.size+1,0,none⟩) (by simp) (.slice A n c)).setCell (p:=⟨w.heap.size+1,1,none⟩) (by simp) (.int .i64 at_)).setCell (p:=⟨w.heap.size+1,2,none⟩) (by simp) (.slice B m d));have _h:=HF.out;exact⟨A,n,c,B,m,d,none,0,0,rfl,hT.kp KF,hS.kp KF,Ru.nil _ _,KF⟩
theorem past_go_a0 (F F2:Nat→Prop)(A B C:Option Addr)(n c m d k e:Nat)(at_ i:Int)(L:List (List Int))(st now:List Int)(w:World)
 (hF:∀k,w.heap.size≤k→F k)(hT:Txs w F F A n c L)(hS:Ru w F B m d st)(hN:Ru w F2 C k e now)(hn:n≤2000)(hm:m≤1099511627776)(hk:k≤1099511627776)(hL:∀x∈L,x.length≤1099511627776)
 (ha:(at_==0)=true)(hi:(i==0)=true)(s:List Int)(ho:yL L at_ st i now=some s):
 Calls Tryz.prog 107 #[.agg #[.slice A n c,.int .i64 at_,.slice B m d],.int .i64 i,.slice C k e] w (RetGo F L i [] (some s) w):=by
 obtain⟨HO,HL,HF⟩:=hid3 ho hL hF;clear ho hL hF;go_enter Tryz.func107,Tryz.ntmps107;go_wp2_with fail;have KP:Kp w ((w.alloc (.cells #[.slice A n c,.int .i64 at_,.slice B m d] 64)).alloc (.cells #[.slice none 0 0,.int .i64 0,.slice none 0 0] 64)):=((Kp.refl _).alloc _).alloc _;refine(xY F F F F2 A B C n c m d k e at_ i L st now _ (hT.kp KP) (hS.kp KP) (hN.kp KP) hn hm hk HL.out).mono ?_;rintro e w1 ⟨A1,n1,c1,rfl,hr1,hk1⟩;rw[HO.out]at hr1⊢;obtain⟨hc1,hf1⟩:=hk1.cells;have hz1:w.heap.size+1<w1.heap.size:=by have:=hk1.size;simp at this;omega
 have hy1:w.heap.size<w1.heap.size:=by omega
 have KP1:=KP.trans hk1;have hr1f:Ru w1 (fun k=>w.heap.size≤k∧k≠w.heap.size∧k≠w.heap.size+1) A1 n1 c1 s:=hr1.weak (fun k _ hk=>by unfold From at hk;simp at hk;omega);have e0:∀i,i<3→(w1.cell? ⟨w.heap.size+1,i,none⟩).isSome=true:=fun i hi=>by
  rw[hc1 _ _ (by simp)]
  match i,hi with
  |0,_=>simp
  |1,_=>simp
  |2,_=>simp
 have e1:=e0 0 (by omega);have e2:=e0 1 (by omega);have e3:=e0 2 (by omega);clear e0;go_wp2_with fail;refine(zH F2 C k e now _ (hN.kp KP1) hk).mono ?_;rintro e w2 ⟨A2,n2,c2,rfl,hr2,hk2⟩;obtain⟨hc2,hf2⟩:=hk2.cells;have hz2:w.heap.size+1<w2.heap.size:=by have:=hk2.size;omega
 have hy2:w.heap.size<w2.heap.size:=by omega
 have KP2:=KP1.trans hk2;clear e1 e2 e3;have p0:w2.cell? ⟨w.heap.size,0,none⟩=some (.slice A n c):=by rw[hc2 _ _ hy1,hc1 _ _ (by simp;omega)];simp
 have q0:w2.cell? ⟨w.heap.size+1,0,none⟩=some (.slice none 0 0):=by rw[hc2 _ _ hz1,hc1 _ _ (by simp)];simp
 have f0:w2.frozen? ⟨w.heap.size,0,none⟩=false:=by rw[hf2 _ _ hy1,hf1 _ _ (by simp;omega)];simp
 have g0:w2.frozen? ⟨w.heap.size+1,0,none⟩=false:=by rw[hf2 _ _ hz1,hf1 _ _ (by simp)];simp
 have p1:w2.cell? ⟨w.heap.size,1,none⟩=some (.int .i64 at_):=by rw[hc2 _ _ hy1,hc1 _ _ (by simp;omega)];simp
 have q1:w2.cell? ⟨w.heap.size+1,1,none⟩=some (.int .i64 0):=by rw[hc2 _ _ hz1,hc1 _ _ (by simp)];simp
 have f1:w2.frozen? ⟨w.heap.size,1,none⟩=false:=by rw[hf2 _ _ hy1,hf1 _ _ (by simp;omega)];simp
 have g1:w2.frozen? ⟨w.heap.size+1,1,none⟩=false:=by rw[hf2 _ _ hz1,hf1 _ _ (by simp)];simp
 have p2:w2.cell? ⟨w.heap.size,2,none⟩=some (.slice B m d):=by rw[hc2 _ _ hy1,hc1 _ _ (by simp;omega)];simp
 have q2:w2.cell? ⟨w.heap.size+1,2,none⟩=some (.slice none 0 0):=by rw[hc2 _ _ hz1,hc1 _ _ (by simp)];simp
 have f2:w2.frozen? ⟨w.heap.size,2,none⟩=false:=by rw[hf2 _ _ hy1,hf1 _ _ (by simp;omega)];simp
 have g2:w2.frozen? ⟨w.heap.size+1,2,none⟩=false:=by rw[hf2 _ _ hz1,hf1 _ _ (by simp)];simp
 clear hc1 hf1 hc2 hf2;go_wp2_with fail;refine bodyPost_ret (v:=.tuple #[.agg #[.slice A n c,.int .i64 i,.slice none 0 0],.slice A1 n1 c1,.bool true]) (by simp[results,Tryz.results107,go_sem,q0,q1,q2]) rfl ?_;have KF:=((((((KP2.setCell (p:=⟨w.heap.size,2,none⟩) (by simp) (.slice A2 n2 c2)).setCell (p:=⟨w.heap.size,1,none⟩) (by simp) (.int .i64 i)).setCell (p:=⟨w.heap.size,2,none⟩) (by simp) (.slice none 0 0)).setCell (p:=⟨w.heap.size+1,0,none⟩) (by simp) (.slice A n c)).setCell (p:=⟨w.heap.size+1,1,none⟩) (by simp) (.int .i64 i)).setCell (p:=⟨w.heap.size+1,2,none⟩) (by simp) (.slice none 0 0));have hold:∀k,k≠w.heap.size→k≠w.heap.size+1→((((((w2.setCell ⟨w.heap.size,2,none⟩ (.slice A2 n2 c2)).setCell ⟨w.heap.size,1,none⟩ (.int .i64 i)).setCell ⟨w.heap.size,2,none⟩ (.slice none 0 0)).setCell ⟨w.heap.size+1,0,none⟩ (.slice A n c)).setCell ⟨w.heap.size+1,1,none⟩ (.int .i64 i)).setCell ⟨w.heap.size+1,2,none⟩ (.slice none 0 0)).heap[k]? =w2.heap[k]? :=fun k h1 h2=>by
  rw[Below.heap_setCell _ _ _ _ h2,Below.heap_setCell _ _ _ _ h2,Below.heap_setCell _ _ _ _ h2,Below.heap_setCell _ _ _ _ h1,Below.heap_setCell _ _ _ _ h1,Below.heap_setCell _ _ _ _ h1]
 have hsz:w2.heap.size≤((((((w2.setCell ⟨w.heap.size,2,none⟩ (.slice A2 n2 c2)).setCell ⟨w.heap.size,1,none⟩ (.int .i64 i)).setCell ⟨w.heap.size,2,none⟩ (.slice none 0 0)).setCell ⟨w.heap.size+1,0,none⟩ (.slice A n c)).setCell ⟨w.heap.size+1,1,none⟩ (.int .i64 i)).setCell ⟨w.heap.size+1,2,none⟩ (.slice none 0 0)).heap.size:=by simp[World.setCell]
 have hs1:Ru ((((((w2.setCell ⟨w.heap.size,2,none⟩ (.slice A2 n2 c2)).setCell ⟨w.heap.size,1,none⟩ (.int .i64 i)).setCell ⟨w.heap.size,2,none⟩ (.slice none 0 0)).setCell ⟨w.heap.size+1,0,none⟩ (.slice A n c)).setCell ⟨w.heap.size+1,1,none⟩ (.int .i64 i)).setCell ⟨w.heap.size+1,2,none⟩ (.slice none 0 0)) F A1 n1 c1 s:=Sl.weak (F:=fun k=>w.heap.size≤k∧k≠w.heap.size∧k≠w.heap.size+1) (Sl.frame (hr1f.kp hk2) hsz fun k hk _=>hold k hk.2.1 hk.2.2) (fun k _ hk=>HF.out k hk.1);refine⟨A,n,c,none,0,0,A1,n1,c1,rfl,hT.kp KF,?_,hs1,KF⟩;exact Ru.nil _ _
theorem past_go_a1 (F F2:Nat→Prop)(A B C:Option Addr)(n c m d k e:Nat)(at_ i:Int)(L:List (List Int))(st now:List Int)(w:World)
 (hF:∀k,w.heap.size≤k→F k)(hT:Txs w F F A n c L)(hS:Ru w F B m d st)(hN:Ru w F2 C k e now)(hn:n≤2000)(hm:m≤1099511627776)(hk:k≤1099511627776)(hL:∀x∈L,x.length≤1099511627776)
 (ha:(at_==0)=true)(hi:(i==0)=false)(s:List Int)(ho:yL L at_ st i now=some s):
 Calls Tryz.prog 107 #[.agg #[.slice A n c,.int .i64 at_,.slice B m d],.int .i64 i,.slice C k e] w (RetGo F L i now (some s) w):=by
 obtain⟨HO,HL,HF⟩:=hid3 ho hL hF;clear ho hL hF;go_enter Tryz.func107,Tryz.ntmps107;go_wp2_with fail;have KP:Kp w ((w.alloc (.cells #[.slice A n c,.int .i64 at_,.slice B m d] 64)).alloc (.cells #[.slice none 0 0,.int .i64 0,.slice none 0 0] 64)):=((Kp.refl _).alloc _).alloc _;refine(xY F F F F2 A B C n c m d k e at_ i L st now _ (hT.kp KP) (hS.kp KP) (hN.kp KP) hn hm hk HL.out).mono ?_;rintro e w1 ⟨A1,n1,c1,rfl,hr1,hk1⟩;rw[HO.out]at hr1⊢;obtain⟨hc1,hf1⟩:=hk1.cells;have hz1:w.heap.size+1<w1.heap.size:=by have:=hk1.size;simp at this;omega
 have hy1:w.heap.size<w1.heap.size:=by omega
 have KP1:=KP.trans hk1;have hr1f:Ru w1 (fun k=>w.heap.size≤k∧k≠w.heap.size∧k≠w.heap.size+1) A1 n1 c1 s:=hr1.weak (fun k _ hk=>by unfold From at hk;simp at hk;omega);have e0:∀i,i<3→(w1.cell? ⟨w.heap.size+1,i,none⟩).isSome=true:=fun i hi=>by
  rw[hc1 _ _ (by simp)]
  match i,hi with
  |0,_=>simp
  |1,_=>simp
  |2,_=>simp
 have e1:=e0 0 (by omega);have e2:=e0 1 (by omega);have e3:=e0 2 (by omega);clear e0;go_wp2_with fail;refine(zH F2 C k e now _ (hN.kp KP1) hk).mono ?_;rintro e w2 ⟨A2,n2,c2,rfl,hr2,hk2⟩;obtain⟨hc2,hf2⟩:=hk2.cells;have hz2:w.heap.size+1<w2.heap.size:=by have:=hk2.size;omega
 have hy2:w.heap.size<w2.heap.size:=by omega
 have KP2:=KP1.trans hk2;clear e1 e2 e3;have p0:w2.cell? ⟨w.heap.size,0,none⟩=some (.slice A n c):=by rw[hc2 _ _ hy1,hc1 _ _ (by simp;omega)];simp
 have q0:w2.cell? ⟨w.heap.size+1,0,none⟩=some (.slice none 0 0):=by rw[hc2 _ _ hz1,hc1 _ _ (by simp)];simp
 have f0:w2.frozen? ⟨w.heap.size,0,none⟩=false:=by rw[hf2 _ _ hy1,hf1 _ _ (by simp;omega)];simp
 have g0:w2.frozen? ⟨w.heap.size+1,0,none⟩=false:=by rw[hf2 _ _ hz1,hf1 _ _ (by simp)];simp
 have p1:w2.cell? ⟨w.heap.size,1,none⟩=some (.int .i64 at_):=by rw[hc2 _ _ hy1,hc1 _ _ (by simp;omega)];simp
 have q1:w2.cell? ⟨w.heap.size+1,1,none⟩=some (.int .i64 0):=by rw[hc2 _ _ hz1,hc1 _ _ (by simp)];simp
 have f1:w2.frozen? ⟨w.heap.size,1,none⟩=false:=by rw[hf2 _ _ hy1,hf1 _ _ (by simp;omega)];simp
 have g1:w2.frozen? ⟨w.heap.size+1,1,none⟩=false:=by rw[hf2 _ _ hz1,hf1 _ _ (by simp)];simp
 have p2:w2.cell? ⟨w.heap.size,2,none⟩=some (.slice B m d):=by rw[hc2 _ _ hy1,hc1 _ _ (by simp;omega)];simp
 have q2:w2.cell? ⟨w.heap.size+1,2,none⟩=some (.slice none 0 0):=by rw[hc2 _ _ hz1,hc1 _ _ (by simp)];simp
 have f2:w2.frozen? ⟨w.heap.size,2,none⟩=false:=by rw[hf2 _ _ hy1,hf1 _ _ (by simp;omega)];simp
 have g2:w2.frozen? ⟨w.heap.size+1,2,none⟩=false:=by rw[hf2 _ _ hz1,hf1 _ _ (by simp)];simp
 clear hc1 hf1 hc2 hf2;go_wp2_with fail;refine bodyPost_ret (v:=.tuple #[.agg #[.slice A n c,.int .i64 i,.slice A2 n2 c2],.slice A1 n1 c1,.bool true]) (by simp[results,Tryz.results107,go_sem,q0,q1,q2]) rfl ?_;have KF:=(((((KP2.setCell (p:=⟨w.heap.size,2,none⟩) (by simp) (.slice A2 n2 c2)).setCell (p:=⟨w.heap.size,1,none⟩) (by simp) (.int .i64 i)).setCell (p:=⟨w.heap.size+1,0,none⟩) (by simp) (.slice A n c)).setCell (p:=⟨w.heap.size+1,1,none⟩) (by simp) (.int .i64 i)).setCell (p:=⟨w.heap.size+1,2,none⟩) (by simp) (.slice A2 n2 c2));have hold:∀k,k≠w.heap.size→k≠w.heap.size+1→(((((w2.setCell ⟨w.heap.size,2,none⟩ (.slice A2 n2 c2)).setCell ⟨w.heap.size,1,none⟩ (.int .i64 i)).setCell ⟨w.heap.size+1,0,none⟩ (.slice A n c)).setCell ⟨w.heap.size+1,1,none⟩ (.int .i64 i)).setCell ⟨w.heap.size+1,2,none⟩ (.slice A2 n2 c2)).heap[k]? =w2.heap[k]? :=fun k h1 h2=>by
  rw[Below.heap_setCell _ _ _ _ h2,Below.heap_setCell _ _ _ _ h2,Below.heap_setCell _ _ _ _ h2,Below.heap_setCell _ _ _ _ h1,Below.heap_setCell _ _ _ _ h1]
 have hsz:w2.heap.size≤(((((w2.setCell ⟨w.heap.size,2,none⟩ (.slice A2 n2 c2)).setCell ⟨w.heap.size,1,none⟩ (.int .i64 i)).setCell ⟨w.heap.size+1,0,none⟩ (.slice A n c)).setCell ⟨w.heap.size+1,1,none⟩ (.int .i64 i)).setCell ⟨w.heap.size+1,2,none⟩ (.slice A2 n2 c2)).heap.size:=by simp[World.setCell]
 have hs1:Ru (((((w2.setCell ⟨w.heap.size,2,none⟩ (.slice A2 n2 c2)).setCell ⟨w.heap.size,1,none⟩ (.int .i64 i)).setCell ⟨w.heap.size+1,0,none⟩ (.slice A n c)).setCell ⟨w.heap.size+1,1,none⟩ (.int .i64 i)).setCell ⟨w.heap.size+1,2,none⟩ (.slice A2 n2 c2)) F A1 n1 c1 s:=Sl.weak (F:=fun k=>w.heap.size≤k∧k≠w.heap.size∧k≠w.heap.size+1) (Sl.frame (hr1f.kp hk2) hsz fun k hk _=>hold k hk.2.1 hk.2.2) (fun k _ hk=>HF.out k hk.1);refine⟨A,n,c,A2,n2,c2,A1,n1,c1,rfl,hT.kp KF,?_,hs1,KF⟩;exact Sl.weak (F:=From w1.heap.size) (Sl.frame hr2 hsz fun k hk _=>hold k (by unfold From at hk;omega) (by unfold From at hk;omega)) (fun k _ hk=>HF.out k (by unfold From at hk;omega))
theorem past_go_b0 (F F2:Nat→Prop)(A B C:Option Addr)(n c m d k e:Nat)(at_ i:Int)(L:List (List Int))(st now:List Int)(w:World)
 (hF:∀k,w.heap.size≤k→F k)(hT:Txs w F F A n c L)(hS:Ru w F B m d st)(hN:Ru w F2 C k e now)(hn:n≤2000)(hm:m≤1099511627776)(hk:k≤1099511627776)(hL:∀x∈L,x.length≤1099511627776)
 (ha:(at_==0)=false)(hi:(i==0)=true)(s:List Int)(ho:yL L at_ st i now=some s):
 Calls Tryz.prog 107 #[.agg #[.slice A n c,.int .i64 at_,.slice B m d],.int .i64 i,.slice C k e] w (RetGo F L i [] (some s) w):=by
 obtain⟨HO,HL,HF⟩:=hid3 ho hL hF;clear ho hL hF;go_enter Tryz.func107,Tryz.ntmps107;go_wp2_with fail;have KP:Kp w ((w.alloc (.cells #[.slice A n c,.int .i64 at_,.slice B m d] 64)).alloc (.cells #[.slice none 0 0,.int .i64 0,.slice none 0 0] 64)):=((Kp.refl _).alloc _).alloc _;refine(xY F F F F2 A B C n c m d k e at_ i L st now _ (hT.kp KP) (hS.kp KP) (hN.kp KP) hn hm hk HL.out).mono ?_;rintro e w1 ⟨A1,n1,c1,rfl,hr1,hk1⟩;rw[HO.out]at hr1⊢;obtain⟨hc1,hf1⟩:=hk1.cells;have hz1:w.heap.size+1<w1.heap.size:=by have:=hk1.size;simp at this;omega
 have hy1:w.heap.size<w1.heap.size:=by omega
 have KP1:=KP.trans hk1;have hr1f:Ru w1 (fun k=>w.heap.size≤k∧k≠w.heap.size∧k≠w.heap.size+1) A1 n1 c1 s:=hr1.weak (fun k _ hk=>by unfold From at hk;simp at hk;omega);have e0:∀i,i<3→(w1.cell? ⟨w.heap.size+1,i,none⟩).isSome=true:=fun i hi=>by
  rw[hc1 _ _ (by simp)]
  match i,hi with
  |0,_=>simp
  |1,_=>simp
  |2,_=>simp
 have e1:=e0 0 (by omega);have e2:=e0 1 (by omega);have e3:=e0 2 (by omega);clear e0;clear e1 e2 e3;have p0:w1.cell? ⟨w.heap.size,0,none⟩=some (.slice A n c):=by rw[hc1 _ _ (by simp;omega)];simp
 have q0:w1.cell? ⟨w.heap.size+1,0,none⟩=some (.slice none 0 0):=by rw[hc1 _ _ (by simp)];simp
 have f0:w1.frozen? ⟨w.heap.size,0,none⟩=false:=by rw[hf1 _ _ (by simp;omega)];simp
 have g0:w1.frozen? ⟨w.heap.size+1,0,none⟩=false:=by rw[hf1 _ _ (by simp)];simp
 have p1:w1.cell? ⟨w.heap.size,1,none⟩=some (.int .i64 at_):=by rw[hc1 _ _ (by simp;omega)];simp
 have q1:w1.cell? ⟨w.heap.size+1,1,none⟩=some (.int .i64 0):=by rw[hc1 _ _ (by simp)];simp
 have f1:w1.frozen? ⟨w.heap.size,1,none⟩=false:=by rw[hf1 _ _ (by simp;omega)];simp
 have g1:w1.frozen? ⟨w.heap.size+1,1,none⟩=false:=by rw[hf1 _ _ (by simp)];simp
 have p2:w1.cell? ⟨w.heap.size,2,none⟩=some (.slice B m d):=by rw[hc1 _ _ (by simp;omega)];simp
 have q2:w1.cell? ⟨w.heap.size+1,2,none⟩=some (.slice none 0 0):=by rw[hc1 _ _ (by simp)];simp
 have f2:w1.frozen? ⟨w.heap.size,2,none⟩=false:=by rw[hf1 _ _ (by simp;omega)];simp
 have g2:w1.frozen? ⟨w.heap.size+1,2,none⟩=false:=by rw[hf1 _ _ (by simp)];simp
 clear hc1 hf1;go_wp2_with fail;refine bodyPost_ret (v:=.tuple #[.agg #[.slice A n c,.int .i64 i,.slice none 0 0],.slice A1 n1 c1,.bool true]) (by simp[results,Tryz.results107,go_sem,q0,q1,q2]) rfl ?_;have KF:=(((((KP1.setCell (p:=⟨w.heap.size,1,none⟩) (by simp) (.int .i64 i)).setCell (p:=⟨w.heap.size,2,none⟩) (by simp) (.slice none 0 0)).setCell (p:=⟨w.heap.size+1,0,none⟩) (by simp) (.slice A n c)).setCell (p:=⟨w.heap.size+1,1,none⟩) (by simp) (.int .i64 i)).setCell (p:=⟨w.heap.size+1,2,none⟩) (by simp) (.slice none 0 0));have hold:∀k,k≠w.heap.size→k≠w.heap.size+1→(((((w1.setCell ⟨w.heap.size,1,none⟩ (.int .i64 i)).setCell ⟨w.heap.size,2,none⟩ (.slice none 0 0)).setCell ⟨w.heap.size+1,0,none⟩ (.slice A n c)).setCell ⟨w.heap.size+1,1,none⟩ (.int .i64 i)).setCell ⟨w.heap.size+1,2,none⟩ (.slice none 0 0)).heap[k]? =w1.heap[k]? :=fun k h1 h2=>by
  rw[Below.heap_setCell _ _ _ _ h2,Below.heap_setCell _ _ _ _ h2,Below.heap_setCell _ _ _ _ h2,Below.heap_setCell _ _ _ _ h1,Below.heap_setCell _ _ _ _ h1]
 have hsz:w1.heap.size≤(((((w1.setCell ⟨w.heap.size,1,none⟩ (.int .i64 i)).setCell ⟨w.heap.size,2,none⟩ (.slice none 0 0)).setCell ⟨w.heap.size+1,0,none⟩ (.slice A n c)).setCell ⟨w.heap.size+1,1,none⟩ (.int .i64 i)).setCell ⟨w.heap.size+1,2,none⟩ (.slice none 0 0)).heap.size:=by simp[World.setCell]
 have hs1:Ru (((((w1.setCell ⟨w.heap.size,1,none⟩ (.int .i64 i)).setCell ⟨w.heap.size,2,none⟩ (.slice none 0 0)).setCell ⟨w.heap.size+1,0,none⟩ (.slice A n c)).setCell ⟨w.heap.size+1,1,none⟩ (.int .i64 i)).setCell ⟨w.heap.size+1,2,none⟩ (.slice none 0 0)) F A1 n1 c1 s:=Sl.weak (F:=fun k=>w.heap.size≤k∧k≠w.heap.size∧k≠w.heap.size+1) (Sl.frame (hr1f) hsz fun k hk _=>hold k hk.2.1 hk.2.2) (fun k _ hk=>HF.out k hk.1);refine⟨A,n,c,none,0,0,A1,n1,c1,rfl,hT.kp KF,?_,hs1,KF⟩;exact Ru.nil _ _
theorem past_go_b1 (F F2:Nat→Prop)(A B C:Option Addr)(n c m d k e:Nat)(at_ i:Int)(L:List (List Int))(st now:List Int)(w:World)
 (hF:∀k,w.heap.size≤k→F k)(hT:Txs w F F A n c L)(hS:Ru w F B m d st)(hN:Ru w F2 C k e now)(hn:n≤2000)(hm:m≤1099511627776)(hk:k≤1099511627776)(hL:∀x∈L,x.length≤1099511627776)
 (ha:(at_==0)=false)(hi:(i==0)=false)(s:List Int)(ho:yL L at_ st i now=some s):
 Calls Tryz.prog 107 #[.agg #[.slice A n c,.int .i64 at_,.slice B m d],.int .i64 i,.slice C k e] w (RetGo F L i st (some s) w):=by
 obtain⟨HO,HL,HF⟩:=hid3 ho hL hF;clear ho hL hF;go_enter Tryz.func107,Tryz.ntmps107;go_wp2_with fail;have KP:Kp w ((w.alloc (.cells #[.slice A n c,.int .i64 at_,.slice B m d] 64)).alloc (.cells #[.slice none 0 0,.int .i64 0,.slice none 0 0] 64)):=((Kp.refl _).alloc _).alloc _;refine(xY F F F F2 A B C n c m d k e at_ i L st now _ (hT.kp KP) (hS.kp KP) (hN.kp KP) hn hm hk HL.out).mono ?_;rintro e w1 ⟨A1,n1,c1,rfl,hr1,hk1⟩;rw[HO.out]at hr1⊢;obtain⟨hc1,hf1⟩:=hk1.cells;have hz1:w.heap.size+1<w1.heap.size:=by have:=hk1.size;simp at this;omega
 have hy1:w.heap.size<w1.heap.size:=by omega
 have KP1:=KP.trans hk1;have hr1f:Ru w1 (fun k=>w.heap.size≤k∧k≠w.heap.size∧k≠w.heap.size+1) A1 n1 c1 s:=hr1.weak (fun k _ hk=>by unfold From at hk;simp at hk;omega);have e0:∀i,i<3→(w1.cell? ⟨w.heap.size+1,i,none⟩).isSome=true:=fun i hi=>by
  rw[hc1 _ _ (by simp)]
  match i,hi with
  |0,_=>simp
  |1,_=>simp
  |2,_=>simp
 have e1:=e0 0 (by omega);have e2:=e0 1 (by omega);have e3:=e0 2 (by omega);clear e0;clear e1 e2 e3;have p0:w1.cell? ⟨w.heap.size,0,none⟩=some (.slice A n c):=by rw[hc1 _ _ (by simp;omega)];simp
 have q0:w1.cell? ⟨w.heap.size+1,0,none⟩=some (.slice none 0 0):=by rw[hc1 _ _ (by simp)];simp
 have f0:w1.frozen? ⟨w.heap.size,0,none⟩=false:=by rw[hf1 _ _ (by simp;omega)];simp
 have g0:w1.frozen? ⟨w.heap.size+1,0,none⟩=false:=by rw[hf1 _ _ (by simp)];simp
 have p1:w1.cell? ⟨w.heap.size,1,none⟩=some (.int .i64 at_):=by rw[hc1 _ _ (by simp;omega)];simp
 have q1:w1.cell? ⟨w.heap.size+1,1,none⟩=some (.int .i64 0):=by rw[hc1 _ _ (by simp)];simp
 have f1:w1.frozen? ⟨w.heap.size,1,none⟩=false:=by rw[hf1 _ _ (by simp;omega)];simp
 have g1:w1.frozen? ⟨w.heap.size+1,1,none⟩=false:=by rw[hf1 _ _ (by simp)];simp
 have p2:w1.cell? ⟨w.heap.size,2,none⟩=some (.slice B m d):=by rw[hc1 _ _ (by simp;omega)];simp
 have q2:w1.cell? ⟨w.heap.size+1,2,none⟩=some (.slice none 0 0):=by rw[hc1 _ _ (by simp)];simp
 have f2:w1.frozen? ⟨w.heap.size,2,none⟩=false:=by rw[hf1 _ _ (by simp;omega)];simp
 have g2:w1.frozen? ⟨w.heap.size+1,2,none⟩=false:=by rw[hf1 _ _ (by simp)];simp
 clear hc1 hf1;go_wp2_with fail;refine bodyPost_ret (v:=.tuple #[.agg #[.slice A n c,.int .i64 i,.slice B m d],.slice A1 n1 c1,.bool true]) (by simp[results,Tryz.results107,go_sem,q0,q1,q2]) rfl ?_;have KF:=((((KP1.setCell (p:=⟨w.heap.size,1,none⟩) (by simp) (.int .i64 i)).setCell (p:=⟨w.heap.size+1,0,none⟩) (by simp) (.slice A n c)).setCell (p:=⟨w.heap.size+1,1,none⟩) (by simp) (.int .i64 i)).setCell (p:=⟨w.heap.size+1,2,none⟩) (by simp) (.slice B m d));have hold:∀k,k≠w.heap.size→k≠w.heap.size+1→((((w1.setCell ⟨w.heap.size,1,none⟩ (.int .i64 i)).setCell ⟨w.heap.size+1,0,none⟩ (.slice A n c)).setCell ⟨w.heap.size+1,1,none⟩ (.int .i64 i)).setCell ⟨w.heap.size+1,2,none⟩ (.slice B m d)).heap[k]? =w1.heap[k]? :=fun k h1 h2=>by
  rw[Below.heap_setCell _ _ _ _ h2,Below.heap_setCell _ _ _ _ h2,Below.heap_setCell _ _ _ _ h2,Below.heap_setCell _ _ _ _ h1]
 have hsz:w1.heap.size≤((((w1.setCell ⟨w.heap.size,1,none⟩ (.int .i64 i)).setCell ⟨w.heap.size+1,0,none⟩ (.slice A n c)).setCell ⟨w.heap.size+1,1,none⟩ (.int .i64 i)).setCell ⟨w.heap.size+1,2,none⟩ (.slice B m d)).heap.size:=by simp[World.setCell]
 have hs1:Ru ((((w1.setCell ⟨w.heap.size,1,none⟩ (.int .i64 i)).setCell ⟨w.heap.size+1,0,none⟩ (.slice A n c)).setCell ⟨w.heap.size+1,1,none⟩ (.int .i64 i)).setCell ⟨w.heap.size+1,2,none⟩ (.slice B m d)) F A1 n1 c1 s:=Sl.weak (F:=fun k=>w.heap.size≤k∧k≠w.heap.size∧k≠w.heap.size+1) (Sl.frame (hr1f) hsz fun k hk _=>hold k hk.2.1 hk.2.2) (fun k _ hk=>HF.out k hk.1);refine⟨A,n,c,B,m,d,A1,n1,c1,rfl,hT.kp KF,?_,hs1,KF⟩;exact hS.kp KF
theorem past_go (F F2:Nat→Prop)(A B C:Option Addr)(n c m d k e:Nat)(at_ i:Int)(L:List (List Int))(st now:List Int)(w:World)
 (hF:∀k,w.heap.size≤k→F k)(hT:Txs w F F A n c L)(hS:Ru w F B m d st)(hN:Ru w F2 C k e now)(hn:n≤2000)(hm:m≤1099511627776)(hk:k≤1099511627776)(hL:∀x∈L,x.length≤1099511627776)
 :
 Calls Tryz.prog 107 #[.agg #[.slice A n c,.int .i64 at_,.slice B m d],.int .i64 i,.slice C k e] w
  (RetGo F L (if(yL L at_ st i now).isSome then i else at_) (if(yL L at_ st i now).isSome then stashM at_ st i now else st) (yL L at_ st i now) w):=by
 cases ho:yL L at_ st i now with
 |none=>exact past_go_none F F2 A B C n c m d k e at_ i L st now w hF hT hS hN hn hm hk hL ho
 |some s=>
  by_cases ha:at_=0
  ·by_cases hi:i=0
   ·have:=past_go_a0 F F2 A B C n c m d k e at_ i L st now w hF hT hS hN hn hm hk hL (by simpa using ha) (by simpa using hi) s ho
    simpa[stashM,hi,ho]using this
   ·have:=past_go_a1 F F2 A B C n c m d k e at_ i L st now w hF hT hS hN hn hm hk hL (by simpa using ha) (by simpa using hi) s ho
    simpa[stashM,hi,ha]using this
  ·by_cases hi:i=0
   ·have:=past_go_b0 F F2 A B C n c m d k e at_ i L st now w hF hT hS hN hn hm hk hL (by simpa using ha) (by simpa using hi) s ho
    simpa[stashM,hi]using this
   ·have:=past_go_b1 F F2 A B C n c m d k e at_ i L st now w hF hT hS hN hn hm hk hL (by simpa using ha) (by simpa using hi) s ho
    simpa[stashM,hi,ha]using this
section
variable {P:Program}{w w':World}{F:Nat→Prop}{size n c:Nat}{A:Option Addr}{vs:List Value}
theorem Sl.cells_kept {row:Option Nat}(h:Sl w F size A n c vs)(hg:w.grownBy w' row)(hr:∀r,row=some r→∃o:Obj,w.heap[r]? =some o∧o.isCells=false):Sl w' F size A n c vs:=
 ⟨h.le,h.cap,h.len,fun hn=>by
  obtain⟨ad,e,hF,hb,hc⟩:=h.at_ hn;exact⟨ad,e,hF,Nat.lt_of_lt_of_le hb hg.size,fun j u hu=>cell_kept (hc j u hu) hg hr⟩⟩
theorem Bx.cells_kept {b:Nat}{cs:Array Value}{t:TypeId}{row:Option Nat}(h:Bx w b cs t)(hg:w.grownBy w' row)(hr:∀r,row=some r→∃o:Obj,w.heap[r]? =some o∧o.isCells=false):Bx w' b cs t:=
 h.grown hg fun e=>by
  obtain⟨o,ho,hc⟩:=hr b e;rw[show w.heap[b]? =_ from h]at ho;cases ho;cases hc
theorem Own.cells_kept {base:Nat}{e:TypeId}{row:Option Nat}(h:Own w base e size A n c vs)(hg:w.grownBy w' row)(hr:∀r,row=some r→∃o:Obj,w.heap[r]? =some o∧o.isCells=false):Own w' base e size A n c vs:=by
 refine Own.grown h hg fun g hA e'=>?_
 rcases h.2 with⟨h0,_⟩|⟨g',cap,cur,hv,_,hgb,_⟩
 ·cases h0;cases hA
 ·cases hv
  cases hA
  obtain⟨o,ho,hc⟩:=hr _ e';rw[hgb]at ho;cases ho;cases hc
end
theorem yH {P:Program}{F':Fence}{N:Nat}(w:World){ops:Array Oper}{o:Oper}{a:Act}{K:Act→World→Prop}{Q:Exit→Act→World→Prop}{E:Prop}(hgd:o.guard=none)(s x:Operand)(t:TypeId)
 (ho:o.op=.call {callee:=.builtin .append,args:=#[s,x],argTypes:=#[t,t]})
 (base:Nat)(e:TypeId)(z:Value)(size bytes:Nat)(ht:P.underlying t=some (.slice e))(hI:(P.info? e).map (fun i=>(i.zero,i.size,i.bytes))=some (some z,size,bytes))
 (hzs:z.cells.size=size)(hsz:0<size)
 (A:Option Addr)(n c:Nat)(xs:List Value)(hs:a.eval s=.slice A n c)(hown:Own w base e size A n c xs)
 (F:Nat→Prop)(B:Option Addr)(m d:Nat)(news:List Value)(hx:a.eval x=.slice B m d)(hr:Sl w F size B m d news)(h1:∀u∈news,u.oneCell'=true)
 (h63:n+m≤maxLen)(hbytes:(n+m)*bytes≤140737488355328)(hbase:base≤w.heap.size)
 (h:∀A' c' w',Own w' base e size A' (n+m) c' (xs++news)→w.grownBy w' (zB A)→(zB A'=zB A∨zB A'=some w.heap.size)→K (a.put o.dst (.slice A' (n+m) c')) w'):
 if Region.wanted o (yielded ops a.tmps)=true then Oper.wpIn F' N P o a w K Q else E:=by
 have hw:Region.wanted o (yielded ops a.tmps)=true:=by simp[Region.wanted,hgd]
 rw[if_pos hw];obtain⟨i,hi,hz,hsize,hby⟩:=info_parts hI;obtain⟨A',c',w',hrun,h2,h3,h4⟩:=run_append_sl (P:=P) w base t o.type e i z size bytes ht hi hz hsize hby hzs hsz A n c xs hown F B m d news hr h1 h63 hbytes hbase;unfold Oper.wpIn;refine⟨?_,?_⟩
 ·simp[Oper.about,ho,resolve,Target.leads,Sem.run_pure]
 ·rw[Oper.semAt_plain F' _ _ (by rw[ho];intro c hc';cases hc')]
  simp[execOp,ho,resolve,invoke,builtin,hs,hx,hrun,Result.andThen];exact h A' c' w' h2 h3 h4
theorem Kp.others {w w':World}(h:Kp w w'):KeepsOthers w w':=⟨h.size,fun k _ hk _=>(h.block k (Array.getElem?_eq_some_iff.1 hk).1).trans hk⟩
theorem Own.is_cells {w:World}{base:Nat}{e:TypeId}{size n c:Nat}{A:Option Addr}{vs:List Value}(h:Own w base e size A n c vs):∀(j:Nat) (o:Obj),zB A=some j→w.heap[j]? =some o→o.isCells=true:=by
 intro j o hj ho;rcases h.2 with⟨h0,_⟩|⟨g',cap,cur,hv,_,hgb,_⟩
 ·cases h0;cases hj
 ·cases hv
  cases hj
  rw[hgb]at ho;cases ho;rfl
def OTx (w:World)(base:Nat)(G:Nat→Prop)(A:Option Addr)(n c:Nat)(L:List (List Int))(vs:List Value):Prop:=
 Own w base 41 1 A n c vs∧L.length=n∧∀(k:Nat) (x:List Int),L[k]? =some x→∃(B:Option Addr) (m d:Nat),vs[k]? =some (Value.slice B m d)∧Ru w (fun g=>G g∧zB A≠some g) B m d x
section
variable {w w':World}{base n c:Nat}{G:Nat→Prop}{A:Option Addr}{L:List (List Int)}{vs:List Value}
theorem OTx.nil (w:World)(base:Nat)(G:Nat→Prop):OTx w base G none 0 0 [] []:=⟨Own.nil _ _ _ _,rfl,fun k x h=>by simp at h⟩
theorem OTx.txs (h:OTx w base G A n c L vs):Txs w (From base) G A n c L:=by
 obtain⟨h1,h2,h3⟩:=h;refine⟨vs,h1.sl,h2,fun k x hx=>?_⟩;obtain⟨B,m,d,hv,hr⟩:=h3 k x hx;exact⟨B,m,d,hv,hr.weak fun _ _ h=>h.1⟩
theorem OTx.kp (h:OTx w base G A n c L vs)(k:Kp w w'):OTx w' base G A n c L vs:=by
 obtain⟨h1,h2,h3⟩:=h;refine⟨h1.kp k,h2,fun i x hx=>?_⟩;obtain⟨B,m,d,hv,hr⟩:=h3 i x hx;exact⟨B,m,d,hv,hr.kp k⟩
theorem OTx.cells_kept {row:Option Nat}(h:OTx w base G A n c L vs)(hg:w.grownBy w' row)(hr:∀r,row=some r→∃o:Obj,w.heap[r]? =some o∧o.isCells=false):OTx w' base G A n c L vs:=by
 obtain⟨h1,h2,h3⟩:=h;refine⟨h1.cells_kept hg hr,h2,fun i x hx=>?_⟩;obtain⟨B,m,d,hv,hx'⟩:=h3 i x hx;exact⟨B,m,d,hv,Sl.cells_kept hx' hg hr⟩
theorem OTx.far (h:OTx w base G A n c L vs){b:Nat}(hb:¬G b)(hA:b<base)(u:Value)(i:Nat):OTx (w.setCell ⟨b,i,none⟩ u) base G A n c L vs:=by
 obtain⟨h1,h2,h3⟩:=h;refine⟨h1.setCell (fun e=>by have:=h1.lt _ e;simp at this;omega) u,h2,fun k x hx=>?_⟩;obtain⟨B,m,d,hv,hr⟩:=h3 k x hx;exact⟨B,m,d,hv,Sl.setCell hr (fun h=>hb h.1) u⟩
theorem OTx.app {B:Option Addr}{m d:Nat}{x:List Int}{A':Option Addr}{c':Nat}(h:OTx w base G A n c L vs)(hN:Ru w (fun g=>G g∧zB A≠some g) B m d x)
 (hown:Own w' base 41 1 A' (n+1) c' (vs++[.slice B m d]))(hg:w.grownBy w' (zB A))(hat:zB A'=zB A∨zB A'=some w.heap.size):
 OTx w' base G A' (n+1) c' (L++[x]) (vs++[.slice B m d]):=by
 obtain⟨h1,h2,h3⟩:=h;have mv:∀{B':Option Addr} {m' d':Nat} {y:List Int},Ru w (fun g=>G g∧zB A≠some g) B' m' d' y→Ru w' (fun g=>G g∧zB A'≠some g) B' m' d' y:=by
  intro B' m' d' y hy;have h5:Ru w (fun g=>(G g∧zB A≠some g)∧g<w.heap.size) B' m' d' y:=hy.weak fun k hk h=>⟨h,hk⟩
  have h6:Ru w' (fun g=>(G g∧zB A≠some g)∧g<w.heap.size) B' m' d' y:=Sl.grown h5 hg fun g e h=>h.1.2 e
  refine h6.weak fun k _ h=>⟨h.1.1,fun e=>?_⟩
  rcases hat with ha|ha
  ·exact h.1.2 (ha▸e)
  ·rw[ha]at e;cases e;exact absurd h.2 (Nat.lt_irrefl _)
 have hvl:vs.length=n:=by have:=h1.len;omega
 refine⟨hown,by simp[h2],fun k y hy=>?_⟩;by_cases hk:k<n
 ·rw[List.getElem?_append_left (by omega)]at hy
  obtain⟨B',m',d',hv,hr⟩:=h3 k y hy;exact⟨B',m',d',by rw[List.getElem?_append_left (by omega)];exact hv,mv hr⟩
 ·have hk':k=n:=by
   have:=(List.getElem?_eq_some_iff.1 hy).1;simp at this;omega
  subst hk';rw[List.getElem?_append_right (by omega),h2]at hy;simp at hy;subst hy;exact⟨B,m,d,by rw[List.getElem?_append_right (by omega),hvl];simp,mv hN⟩
end
end Go.Proofs.YtociefdcccokjaaGreat

/-
  Lemmas for TopMacro. Conditions: each states its own.
-/
import Derived.Maps.Own
import Derived.Maps.OwnOps
import Derived.Maps.OwnSet
import Derived.Maps.Views
import Derived.WideKeyEntry
import Derived.Laws.Rows
import Derived.Deep.MidRow
import Derived.Great.BuildSlice
import Derived.DeepKeys4
import Derived.Test.YtociefdcccokjaaGreatG31
import Derived.Test.YtociefdcccokjaaGreatG32
set_option maxHeartbeats 3200000
set_option maxRecDepth 100000
namespace Go.Proofs.YtociefdcccokjaaGreat
open Go.RowKit Go.Lib
theorem xZ {H:Type}{P:Program}{k:TypeId}{R:Value→Option (DataW H×List MemPlace)}{w w':World}{b n:Nat}{D:DataW H}(h:w.ownsMap P k R b n D)(hk:Kp w w'):w'.ownsMap P k R b n D:=by
 have hlt:=h.lt;obtain⟨es,clock,hb,F,hs,hD⟩:=h;exact⟨es,clock,(hk.block b hlt).trans hb,F,hs,hD⟩
theorem yV {H:Type}{P:Program}{k:TypeId}{R:Value→Option (DataW H×List MemPlace)}{w w':World}{b n:Nat}{D:DataW H}{S:Nat→Prop}(h:w.ownsMap P k R b n D)(hk:Mu S w w')(hS:¬S b):w'.ownsMap P k R b n D:=by
 have hlt:=h.lt;obtain⟨es,clock,hb,F,hs,hD⟩:=h;exact⟨es,clock,(hk.block b hlt hS).trans hb,F,hs,hD⟩
theorem Mu.of_grown {w w':World}{row:Option Nat}{S:Nat→Prop}(h:w.grownBy w' row)(hS:∀k,row=some k→k<w.heap.size→S k):Mu S w w':=
 ⟨h.os,h.tape,h.output,h.size,fun b hb hb'=>h.block b hb (fun e=>hb' (hS b e.symm hb))⟩
def heldR (v:Value):Option (DataW Value×List MemPlace):=some (.held v,[])
theorem lawRune:Maps.Keyed Tryz.prog 21:=Maps.int_keyed Tryz.underlying21
theorem wf32 {x:Int}(h:r32 x):(Lit.int .i32 x).wf=true:=by
 obtain⟨h1,h2⟩:=h;simp[Lit.wf,IntKind.min,IntKind.max,IntKind.signed,IntKind.bits];omega
theorem vM {x:Int}(h:r32 x):keyOf Tryz.prog 21 (.int .i32 x)=some (.int .i32 x):=Maps.keyOf_int_mk Tryz.underlying21 (wf32 h)
def One (w:World)(m:Nat)(x:Int)(v:Value):Prop:=w.ownsMap Tryz.prog 21 heldR m 1 ((DataW.map []).put (.int .i32 x) (.held v))
theorem One.look {w:World}{m:Nat}{x:Int}{v z:Value}{t e:TypeId}(h:One w m x v)(ht:Tryz.prog.underlying t=some (.map 21 e))(hz:(zeroValue e).run Tryz.prog w=.ok z w)(hx:r32 x):
 (Instr.lookup t (.map (some m)) (.int .i32 x) true).run Tryz.prog w=.ok (.tuple #[v,.bool true]) w:=by
 obtain⟨v',ps,hrun,hR⟩:=World.ownsMap.look_ok h lawRune ht hz (zd:=.held z) (zp:=[]) rfl (vM hx);rw[Maps.has_put_same Maps.isMap_empty (lawRune.key (vM hx))]at hrun;rw[Maps.atKey_put_same Maps.isMap_empty (lawRune.key (vM hx))]at hR;unfold heldR at hR;simp only[Option.some.injEq,Prod.mk.injEq,DataW.held.injEq]at hR;rw[←hR.1];exact hrun
theorem look_nobook (x:Int)(w:World):(Instr.lookup 48 (.map none) (.int .i32 x) true).run Tryz.prog w=.ok (.tuple #[.slice none 0 0,.bool false]) w:=by
 kernel_rfl
theorem cloneNil (w:World):Calls Tryz.prog 43 #[.map none] w fun en w'=>en=.returned (.map none)∧w=w':=by
 have q:∀w,(binOp .eql 48 (.map none) (.map none)).run Tryz.prog w=.ok (.bool true) w:=fun w=>run_eql_map_nil w _ _ _ none Tryz.underlying48
 go_enter Tryz.func43,Tryz.ntmps43;go_wp2_with fail;go_ret;exact⟨rfl,rfl⟩
theorem set_any (F G:Nat→Prop)(A:Option Addr)(n c:Nat)(ks:List KeyV)(x:Int)(w:World)(h:SsW F G w A n c ks)(hn:n≤1000)(ht:∀k∈ks,k.text.length≤65536)(hx:r32 x):
 Calls Tryz.prog 12 #[.agg #[.map none],.int .i32 x,.slice A n c] w fun en w'=>∃m A' c',en=.returned (.tuple #[.agg #[.map (some m)],.int .i64 0])∧w.heap.size≤m∧One w' m x (.slice A' n c')∧
  SsW (From w.heap.size) (From w.heap.size) w' A' n c' ks∧Kp w w':=by
 have k1:=((Kp.refl w).alloc (.cells #[.map none] 50)).alloc (.cells #[.map none] 50);have hn1:¬(1000:Int)<(n:Int):=by omega
 have hl:=look_nobook x;have hmm:=@run_makeMap Tryz.prog;have q:∀w,(binOp .eql 48 (.map none) (.map none)).run Tryz.prog w=.ok (.bool true) w:=fun w=>run_eql_map_nil w _ _ _ none Tryz.underlying48
 obtain⟨H,HT⟩:=hid2 h ht;clear h ht;go_enter Tryz.func12,Tryz.ntmps12;go_upto_region 9 with(go_at_call 43;refine(cloneNil _).mono ?_;rintro en w2 ⟨rfl,rfl⟩);have hm0:=World.ownsMap_made ((w.alloc (.cells #[.map none] 50)).alloc (.cells #[.map none] 50)) Tryz.prog 21 heldR;have b1:=(Bx.new (w.alloc (.cells #[.map none] 50)) #[.map none] 50).alloc (.map #[] 0);have k3:=k1.alloc (.map #[] 0);have hz:(((w.alloc (.cells #[.map none] 50)).alloc (.cells #[.map none] 50)).alloc (.map #[] 0)).heap.size=w.heap.size+1+1+1:=by simp
 simp at hm0 b1;obtain⟨m,hm⟩:∃m,m=w.heap.size+1+1:=⟨_,rfl⟩;obtain⟨r,hr⟩:∃r,r=w.heap.size+1:=⟨_,rfl⟩;have HS:=hid (show w.heap.size≤r∧r<m by omega);rw[←hm]at hm0 hz⊢;rw[←hr]at b1⊢;have hmz:=hm0.lt;clear hm hr hz k1;generalize(((w.alloc (.cells #[.map none] 50)).alloc (.cells #[.map none] 50)).alloc (.map #[] 0))=w3 at *;have hc:=hid (copied_any F G A n c ks w3 (SsW.kp H.out k3) hn HT.out);go_wp2_with fail;refine hc.out.mono ?_;rintro en w4 ⟨A',c',rfl,hs4,k4⟩;have hm4:=xZ hm0 k4;obtain⟨HB4,HKM,KK4⟩:=hid3 (b1.kp k4) (SsW.weak (F':=fun q=>m<q∧q<w4.heap.size) (G':=fun q=>m<q∧q<w4.heap.size) hs4 (fun q hl hq=>⟨Nat.lt_of_lt_of_le hmz hq,hl⟩) (fun q hl hq=>⟨Nat.lt_of_lt_of_le hmz hq,hl⟩)) (k3.trans k4);clear hc hs4 k4 hm0 b1 k3 hmz;go_wp2_with (at_mapUpdate;refine wpList_mapUpdate_own _ rfl _ _ _ 48 rfl 21 33 lawRune Tryz.underlying48 _ m 0 _ rfl hm4 (by unfold maxLen;omega) _ _ _ rfl rfl (vM hx) _ [] rfl ?_;intro w5 hown5 hg5;have M5:=hid (Mu.of_grown (S:=fun q=>q=m) hg5 (fun q hq _=>by cases hq;rfl));have B5:=hid (M5.out.bx HB4.out (fun e=>by have:=HS.out.2;omega));have hc5:=B5.out.cell 0;have hf5:=B5.out.frozen 0;have hl5:=B5.out.lt);have b6:=B5.out.set 0 (.map (some m));have M6:Mu (fun q=>q=m∨q=r) w4 (w5.setCell ⟨r,0,none⟩ (.map (some m))):=(M5.out.weak fun q _ h=>.inl h).setCell (p:=⟨r,0,none⟩) (.inr rfl) _;have h6:One (w5.setCell ⟨r,0,none⟩ (.map (some m))) m x (.slice A' n c'):=yV (S:=fun q=>q=r) hown5 ((Mu.refl w5).setCell (S:=fun q=>q=r) (p:=⟨r,0,none⟩) rfl _) (fun e=>by have:=HS.out.2;omega);have s6:=HKM.out.frame M6.size (fun q hq hl=>M6.block q hl (fun e=>by have:=HS.out.2;omega)) (fun q hq hl=>M6.block q hl (fun e=>by have:=HS.out.2;omega));have k6:Kp w (w5.setCell ⟨r,0,none⟩ (.map (some m))):=M6.kp KK4.out (fun q hq=>by have:=HS.out;omega);simp at b6;generalize(w5.setCell ⟨r,0,none⟩ (.map (some m)))=w6 at *;have g0:=b6.cell 0;simp at g0;refine bodyPost_ret (v:=.tuple #[.agg #[.map (some m)],.int .i64 0]) (by simp[results,Tryz.results12,go_sem,g0]) rfl ?_;exact⟨m,A',c',rfl,by have:=HS.out;omega,h6,s6.weak (fun q _ hq=>by have h1:=HS.out;have h2:=hq.1;show w.heap.size≤q;omega) (fun q _ hq=>by have h1:=HS.out;have h2:=hq.1;show w.heap.size≤q;omega),k6⟩
section
open Go.RowKit Go.Lib Go.WideElems Go.ChangeMaps
theorem entry_store {H:Type}{P:Program}{w:World}{t k e:TypeId}{R:Value→Option (DataW H×List MemPlace)}{b:Nat}{es:Array MapEntry}{clock:Nat}(K:Maps.Keyed P k)(ht:P.underlying t=some (.map k e)){z:Value}(hz:∀u:World,(zeroValue e).run P u=.ok z u)
 (hb:w.heap[b]? =some (.map es clock))(F:Fit P k R es clock){key:Value}{kl:Lit}(hkey:keyOf P k key=some kl):
 ∃(v0:Value) (st:Nat) (es1:Array MapEntry) (clock1:Nat),(Instr.mapEntry t (.map (some b)) key).run P w=.ok (.tuple #[v0,goInt st]) (setBlock w b (.map es1 clock1))∧
  ∀(w2:World) (val:Value),w2.heap[b]? =some (.map es1 clock1)→∃es' clock',(Instr.entryStore t (.map (some b)) (goInt st) val).run P w2=.ok () (setBlock w2 b (.map es' clock'))∧
   (Instr.mapUpdate t (.map (some b)) key val).run P w=.ok () (setBlock w b (.map es' clock')):=by
 obtain⟨s1,s2,_⟩:=F.stamped;rcases K.find w hkey es.toList F.keys with⟨h1,h2⟩|⟨j,e0,h1,h2,h3⟩
 ·refine⟨z,clock,es.push ⟨key,z,clock⟩,clock+1,?_,fun w2 val hw2=>⟨es.push ⟨key,val,clock⟩,clock+1,?_,?_⟩⟩
  ·simp[Instr.mapEntry,run_underlying ht,MapKept.run_getObj_map hb,K.check w false hkey,h1,hz,MapKept.run_setObj_map _ hb,Result.andThen,setBlock]
  ·have hnd:(((es.push ⟨key,z,clock⟩).toList).map (·.born)).Nodup:=by
    rw[Array.toList_push,List.map_append];refine List.nodup_append.2 ⟨s2,by simp,fun a ha c hc e1=>?_⟩;simp at hc;obtain⟨x,hx,rfl⟩:=List.mem_map.1 ha;have:=s1 x hx;omega
   have hidx:(es.push ⟨key,z,clock⟩).findIdx? (fun e=>((e.born:Nat):Int)==((clock:Nat):Int))=some es.size:=by
    rw[findIdx_arr];exact findIdx_born hnd (j:=es.size) (e0:=⟨key,z,clock⟩) (by simp)
   have hmod:(es.push ⟨key,z,clock⟩).modify es.size (fun e=>{e with val:=val})=es.push ⟨key,val,clock⟩:=by
    apply Array.ext'
    rw[Array.toList_modify,Array.toList_push,Array.toList_push,←Array.length_toList,modify_last]
   simp[Instr.entryStore,MapKept.run_getObj_map hw2,asInt,asIntOf,goInt,hidx,hmod,MapKept.run_setObj_map _ hw2,Result.andThen,setBlock]
  ·simp[Instr.mapUpdate,run_underlying ht,MapKept.run_getObj_map hb,K.check w false hkey,h1,MapKept.run_setObj_map _ hb,Result.andThen,setBlock]
 ·have hj:es[j]? =some e0:=by simpa using h2
  have he:({e0 with key:=key}:MapEntry)=e0:=by rw[←h3]
  have hsame:es.modify j (fun e=>{e with key:=key})=es:=by
   apply Array.ext'
   rw[Array.toList_modify,modify_eq_set _ _ _ _ h2,he];exact set_self _ _ _ h2
  refine⟨e0.val,e0.born,es,clock,?_,fun w2 val hw2=>⟨es.modify j (fun e'=>{e' with key:=key,val:=val}),clock,?_,?_⟩⟩
  ·simp[Instr.mapEntry,run_underlying ht,MapKept.run_getObj_map hb,K.check w false hkey,h1,hj,h3,K.stays w hkey,hsame,MapKept.run_setObj_map _ hb,Result.andThen,setBlock]
  ·have hidx:es.findIdx? (fun e=>((e.born:Nat):Int)==((e0.born:Nat):Int))=some j:=by
    rw[findIdx_arr];exact findIdx_born s2 h2
   have hmod:es.modify j (fun e=>{e with val:=val})=es.modify j (fun e'=>{e' with key:=key,val:=val}):=by
    apply Array.ext'
    rw[Array.toList_modify,Array.toList_modify,modify_eq_set _ _ _ _ h2,modify_eq_set _ _ _ _ h2,←h3]
   simp[Instr.entryStore,MapKept.run_getObj_map hw2,asInt,asIntOf,goInt,hidx,hmod,MapKept.run_setObj_map _ hw2,Result.andThen,setBlock]
  ·simp[Instr.mapUpdate,run_underlying ht,MapKept.run_getObj_map hb,K.check w false hkey,h1,hj,h3,K.stays w hkey,MapKept.run_setObj_map _ hb,Result.andThen,setBlock]
theorem entry_own {H:Type}{P:Program}{w:World}{t k e:TypeId}{R:Value→Option (DataW H×List MemPlace)}{b n:Nat}{D:DataW H}(h:w.ownsMap P k R b n D)(K:Maps.Keyed P k)(ht:P.underlying t=some (.map k e))(hn:n<maxLen){z:Value}(hz:∀u:World,(zeroValue e).run P u=.ok z u)
 {key:Value}{kl:Lit}(hkey:keyOf P k key=some kl){val:Value}{d:DataW H}{ps:List MemPlace}(hv:R val=some (d,ps)):
 ∃(v0 st:Value) (w1:World),(Instr.mapEntry t (.map (some b)) key).run P w=.ok (.tuple #[v0,st]) w1∧w.grownBy w1 (some b)∧
  ∀w2:World,w2.heap[b]? =w1.heap[b]?→∃w3,(Instr.entryStore t (.map (some b)) st val).run P w2=.ok () w3∧w3.ownsMap P k R b (n+1) (D.put kl d)∧w2.grownBy w3 (some b):=by
 obtain⟨w',hup,hown',_⟩:=h.update K ht hn hkey hv;obtain⟨es,clock,hb,F,hs,hD⟩:=h;obtain⟨v0,st,es1,c1,h1,h2⟩:=entry_store K ht hz hb F hkey;have grow:∀{u:World} {es0:Array MapEntry} {c0:Nat} {o':Obj},u.heap[b]? =some (.map es0 c0)→u.grownBy (setBlock u b o') (some b):=fun{u es0 c0 o'} hu=>⟨rfl,rfl,rfl,by simp[setBlock],fun i _ hi=>heap_setBlock_other hu _ (fun e=>hi (by rw[e]))⟩
 refine⟨v0,goInt st,_,h1,grow hb,fun w2 hw2=>?_⟩;rw[heap_setBlock_same hb]at hw2;obtain⟨es',c',h3,h4⟩:=h2 w2 val hw2;rw[h4]at hup;cases hup
 obtain⟨es2,c2,g1,g2⟩:=hown';rw[heap_setBlock_same hb]at g1;cases g1
 exact⟨_,h3,⟨es',c',heap_setBlock_same hw2 _,g2⟩,grow hw2⟩
end
section
open Go.RowKit Go.Lib Go.Maps
theorem wfI64 {x:Int}(h1: -9223372036854775808≤x)(h2:x≤9223372036854775807):(Lit.int .i64 x).wf=true:=by
 simp[Lit.wf,IntKind.min,IntKind.max,IntKind.signed,IntKind.bits];omega
theorem Mu.own {S:Nat→Prop}{w w':World}{base:Nat}{e:TypeId}{size n c:Nat}{A:Option Addr}{xs:List Value}(h:Mu S w w')(ho:Own w base e size A n c xs)(hX:∀k,zB A=some k→¬S k):Own w' base e size A n c xs:=
 ho.frame fun k hk=>h.block k (ho.lt k hk).2 (hX k hk)
theorem Bx.range0 {w:World}{g:Nat}{l:List Value}{t:TypeId}(h:Bx w g l.toArray t):w.rangeAt g 0 l:=fun j v hv=>by
 rw[Nat.zero_add,h.cell j];simpa using hv
section
variable {P:Program}
theorem build_one {w:World}{t e:TypeId}{z:Value}{size bytes:Nat}(hu:P.underlying t=some (.slice e))(hI:(P.info? e).map (fun i=>(i.zero,i.size,i.bytes))=some (some z,size,bytes))(hs:0<size)(hs2:size≤1000000)
 (l:List Value)(hl:l.length=size):(Instr.buildSlice t 1 #[(0,.agg l.toArray)]).run P w=.ok (.slice (some ⟨w.heap.size,0,none⟩) 1 1) (w.alloc (.cells l.toArray e)):=by
 obtain⟨i,hi,hz,hsize,hby⟩:=info_parts hI;refine run_buildSlice w t e 1 _ l.toArray i z hu hi hz (by rw[hsize];omega) (by rw[hsize];omega) ?_;rw[hsize];obtain⟨r,hr,hsz,hk⟩:=Great.fill_dense hs [Value.agg l.toArray] 0 ((Array.range (1*size)).map (z.cells[·% z.cells.size]!)) (fun v hv=>by
  rw[List.mem_singleton]at hv;rw[hv];simp[Value.cells,hl]) (by simp)
 have e1:(#[((0:Nat),Value.agg l.toArray)]:Array (Nat×Value)).toList=([Value.agg l.toArray].zipIdx 0).map fun x=>(x.2,x.1):=rfl
 rw[e1,hr]
 congr 1
 apply Array.ext_getElem?
 intro k;rw[hk k];by_cases hlt:k<size
 ·rw[if_pos (by simp;omega),Nat.div_eq_of_lt hlt,Nat.mod_eq_of_lt hlt]
  simp[Value.cells]
 ·rw[if_neg (by simp;omega),Array.getElem?_eq_none (by simp;omega),Array.getElem?_eq_none (by simp;omega)]
theorem step_build {ops:Array Oper}{o:Oper}{a:Act}{w:World}{K:Act→World→Prop}{Q:Exit→Act→World→Prop}{E:Prop}(hg:o.guard=none)(t e:TypeId)(x:Operand)(ho:o.op=.buildSlice t 1 #[(0,x)])
 (z:Value)(size bytes:Nat)(hu:P.underlying t=some (.slice e))(hI:(P.info? e).map (fun i=>(i.zero,i.size,i.bytes))=some (some z,size,bytes))(hs:0<size)(hs2:size≤1000000)
 (l:List Value)(hl:l.length=size)(hx:a.eval x=.agg l.toArray)
 (h:K (a.put o.dst (.slice (some ⟨w.heap.size,0,none⟩) 1 1)) (w.alloc (.cells l.toArray e))):if Region.wanted o (yielded ops a.tmps)=true then Oper.wp P o a w K Q else E:=by
 rw[if_pos (by simp[Region.wanted,hg])];unfold Oper.wp execOp;have hx':(#[((0:Nat),x)].map fun(i,x)=>(i,a.eval x))=#[(0,Value.agg l.toArray)]:=by simp[hx]
 simp only[ho,Sem.run_bind,hx',build_one (w:=w) hu hI hs hs2 l hl,Result.andThen_ok];exact h
def NM (P:Program)(k eI:TypeId)(w:World)(B n nb:Nat):Prop:=∃D:DataW Unit,w.ownsMap P k (plainElem P eI) B n D∧∀kl,Maps.has D kl=true→∃x:Nat,x<nb∧D.atKey kl (.lit (.int .i64 0))=.lit (.int .i64 x)
variable {k eI:TypeId}{w w':World}{B n nb n' nb':Nat}
theorem NM.made (w:World)(P:Program)(k eI:TypeId):NM P k eI (w.alloc (.map #[] 0)) w.heap.size 0 0:=⟨.map [],World.ownsMap_made w P k _,fun kl h=>by simp[Maps.has]at h⟩
theorem NM.mono (h:NM P k eI w B n nb)(hn:n≤n')(hb:nb≤nb'):NM P k eI w B n' nb':=by
 obtain⟨D,ho,hD⟩:=h;exact⟨D,ho.mono hn,fun kl hk=>by obtain⟨x,h1,h2⟩:=hD kl hk;exact⟨x,by omega,h2⟩⟩
theorem NM.mu {S:Nat→Prop}(h:NM P k eI w B n nb)(m:Mu S w w')(hS:¬S B):NM P k eI w' B n nb:=by
 obtain⟨D,ho,hD⟩:=h;exact⟨D,yV ho m hS,hD⟩
theorem NM.look {t:TypeId}(h:NM P k eI w B n nb)(KK:Keyed P k)(ht:P.underlying t=some (.map k eI))(he:P.underlying eI=some (.int .i64))(hz:(zeroValue eI).run P w=.ok (.int .i64 0) w){key:Value}{kl:Lit}(hkey:keyOf P k key=some kl):
 ∃(c:Int) (β:Bool),(Instr.lookup t (.map (some B)) key true).run P w=.ok (.tuple #[.int .i64 c,.bool β]) w∧(β=true→∃x:Nat,c=x∧x<nb):=by
 obtain⟨D,ho,hD⟩:=h;obtain⟨v,ps,hrun,hv⟩:=ho.look_ok KK ht hz (plainElem_int he (by decide)) hkey;obtain⟨c,rfl,hc,_⟩:=plainElem_int_inv he hv;refine⟨c,_,hrun,fun hb=>?_⟩;obtain⟨x,h1,h2⟩:=hD kl hb;have h3:=congrArg Prod.fst hc;dsimp only at h3;rw[h2]at h3;cases h3
 exact⟨x,rfl,h1⟩
theorem NM.put {t:TypeId}(h:NM P k eI w B n nb)(KK:Keyed P k)(ht:P.underlying t=some (.map k eI))(he:P.underlying eI=some (.int .i64))(hn:n≤100000){key:Value}{kl:Lit}(hkey:keyOf P k key=some kl){x:Nat}(hx:x<nb')(hb:nb≤nb')(hxl:x≤1099511627776):
 ∃w',(Instr.mapUpdate t (.map (some B)) key (.int .i64 x)).run P w=.ok () w'∧NM P k eI w' B (n+1) nb'∧w.grownBy w' (some B):=by
 obtain⟨D,ho,hD⟩:=h;obtain⟨w',hrun,ho',hg⟩:=ho.update KK ht (by unfold maxLen;omega) hkey (plainElem_int he (wfI64 (x:=x) (by omega) (by omega)));refine⟨w',hrun,⟨_,ho',fun kl' hk=>?_⟩,hg⟩;by_cases e:kl'=kl
 ·subst e
  exact⟨x,hx,atKey_put_same ho.isMap (KK.key hkey) _ _⟩
 ·rw[has_put_other e]at hk
  obtain⟨y,h1,h2⟩:=hD kl' hk;exact⟨y,by omega,by rw[atKey_put_other e];exact h2⟩
structure TrTy where
 trie:TypeId
 maker:TypeId
 arr:TypeId
 val:TypeId
 int:TypeId
 N:Nat
structure MkB (P:Program)(T:TrTy)(ok:Value→Prop)(w:World)(n base tB mB kB eB nb:Nat)(size:Int)(I:Value)(A:Option Addr)(c:Nat):Prop where
 tb:Bx w tB #[.int .i64 size,I,.slice A nb c] T.trie
 mb:Bx w mB #[.pointer (some ⟨tB,0,none⟩),.map (some kB),.map (some eB)] T.maker
 row:∃cs,Own w base T.arr T.N A nb c cs∧∀u∈cs,ok u
 known:NM P T.arr T.int w kB n nb
 even:NM P T.val T.int w eB n nb
 lt:tB<base∧mB<base∧kB<base∧eB<base∧base≤w.heap.size
 ne:tB≠mB∧kB≠tB∧kB≠mB∧eB≠tB∧eB≠mB∧kB≠eB
def TrOwn (tB kB eB:Nat)(A:Option Addr)(k:Nat):Prop:=k=tB∨k=kB∨k=eB∨zB A=some k
variable {T:TrTy}{ok:Value→Prop}{base tB mB kB eB c:Nat}{size:Int}{I:Value}{A:Option Addr}
theorem MkB.rl (h:MkB P T ok w n base tB mB kB eB nb size I A c):∀k,zB A=some k→base≤k∧k<w.heap.size:=by obtain⟨cs,ho,_⟩:=h.row;exact ho.lt
theorem MkB.mu {S:Nat→Prop}(h:MkB P T ok w n base tB mB kB eB nb size I A c)(f:Mu S w w')(h1:¬S tB)(h2:¬S mB)(h3:¬S kB)(h4:¬S eB)(h5:∀k,zB A=some k→¬S k):MkB P T ok w' n base tB mB kB eB nb size I A c:=by
 obtain⟨cs,ho,hc⟩:=h.row;exact⟨f.bx h.tb h1,f.bx h.mb h2,⟨cs,f.own ho h5,hc⟩,h.known.mu f h3,h.even.mu f h4,⟨h.lt.1,h.lt.2.1,h.lt.2.2.1,h.lt.2.2.2.1,Nat.le_trans h.lt.2.2.2.2 f.size⟩,h.ne⟩
theorem MkB.kp (h:MkB P T ok w n base tB mB kB eB nb size I A c)(k:Kp w w'):MkB P T ok w' n base tB mB kB eB nb size I A c:=
 h.mu (S:=fun _=>False) (.of_kp k) id id id id (fun _ _=>id)
theorem MkB.mono (h:MkB P T ok w n base tB mB kB eB nb size I A c)(hn:n≤n'):MkB P T ok w n' base tB mB kB eB nb size I A c:=
 ⟨h.tb,h.mb,h.row,h.known.mono hn le_,h.even.mono hn le_,h.lt,h.ne⟩
theorem MkB.even_put (h:MkB P T ok w n base tB mB kB eB nb size I A c)(f:Mu (fun k=>k=eB) w w')(he:NM P T.val T.int w' eB n' nb)(hn:n≤n'):MkB P T ok w' n' base tB mB kB eB nb size I A c:=by
 obtain⟨cs,ho,hc⟩:=h.row;exact⟨f.bx h.tb h.ne.2.2.2.1.symm,f.bx h.mb h.ne.2.2.2.2.1.symm,⟨cs,f.own ho (fun k hk e=>by have h1:=ho.lt k hk;have h2:=h.lt;omega),hc⟩,(h.known.mu f h.ne.2.2.2.2.2).mono hn le_,he,⟨h.lt.1,h.lt.2.1,h.lt.2.2.1,h.lt.2.2.2.1,Nat.le_trans h.lt.2.2.2.2 f.size⟩,h.ne⟩
def RetPl (P:Program)(T:TrTy)(ok:Value→Prop)(w:World)(n base tB mB kB eB nb:Nat)(size:Int)(I:Value)(A:Option Addr)(en:Ending)(w':World):Prop:=
 ∃(k nb':Nat) (A':Option Addr) (c':Nat),en=.returned (.int .i64 (k:Int))∧k<nb'∧nb≤nb'∧nb'≤nb+1∧MkB P T ok w' n base tB mB kB eB nb' size I A' c'∧Mu (TrOwn tB kB eB A) w w'∧∀k,zB A'=some k→zB A=some k∨w.heap.size≤k
theorem mapM_some_ {α β:Type}{f:α→Option β}:∀(l:List α),(∀x∈l,(f x).isSome=true)→∃r,l.mapM f=some r
 |[],_=>⟨[],rfl⟩
 |x::l,h=>by
  obtain⟨y,hy⟩:=Option.isSome_iff_exists.1 (h x (by simp));obtain⟨r,hr⟩:=mapM_some_ l fun y hy=>h y (by simp[hy])
  exact⟨y::r,by rw[List.mapM_cons,hy,hr];rfl⟩
theorem arr_key {ka e m N z:Nat}(hu:P.underlying ka=some (.array m e))(hk:P.keyType ka=true)(hc:P.cellsOf ka=N)(h1:P.cellsOf e=z)(hts:∃q,P.types.size=q+2)(cs:List Value)(hl:cs.length=N)
 (hv:∀d i,i<m→(P.keyLits (d+2) e ((cs.drop (i*z)).take z)).isSome=true):∃kl,keyOf P ka (.agg cs.toArray)=some kl:=by
 obtain⟨q,hq⟩:=hts;unfold keyOf;simp only[hu];rw[if_pos (by simp[hk,Value.formed,hu,hc,hl]),hq];unfold Program.keyLits;simp only[hu,Value.cells];rw[if_pos (by simp[hc,hl]),h1];obtain⟨r,hr⟩:=mapM_some_ (f:=fun i=>P.keyLits (q+2) e ((cs.toArray.toList.drop (i*z)).take z)) (List.range m) fun i hi=>by
  have:=hv q i (List.mem_range.1 hi);simpa using this
 rw[hr];exact⟨_,rfl⟩
end
end
section
open Go.RowKit Go.Lib Go.Maps
def okF (u:Value):Prop:=∃x:Bool,u=.bool x
theorem oneF {u:Value}(h:okF u):u.oneCell'=true:=by obtain⟨x,rfl⟩:=h;rfl
theorem laidF:laidOutB Tryz.prog=true:=by kernel_rfl
theorem arrKF:Keyed Tryz.prog 209:=Keyed.of_law (deep_law_laid laidF (m:=3) (by omega) (of_decide_eq_true (by kernel_rfl)) (by kernel_rfl) (by kernel_rfl))
theorem valKF:Keyed Tryz.prog 134:=Keyed.of_law (deep_law_laid laidF (m:=2) (by omega) (of_decide_eq_true (by kernel_rfl)) (by kernel_rfl) (by kernel_rfl))
theorem keyF (cs:List Value)(h:cs.length=4)(ho:∀u∈cs,okF u)(d:Nat):(Tryz.prog.keyLits (d+2) 134 cs).isSome=true:=by
 match cs,h with
 |[u0,u1,u2,u3],_=>
  obtain⟨a,rfl⟩:=ho u0 (by simp);obtain⟨b,rfl⟩:=ho u1 (by simp);obtain⟨c,rfl⟩:=ho u2 (by simp);obtain⟨e,rfl⟩:=ho u3 (by simp);have h1:Tryz.prog.keyLits (d+2) 134 [.bool a,.bool b,.bool c,.bool e]=some [.bool a,.bool b,.bool c,.bool e]:=by kernel_rfl
  rw[h1];rfl
theorem arrKeyF (cs:List Value)(h:cs.length=512)(ho:∀u∈cs,okF u):∃kl,keyOf Tryz.prog 209 (.agg cs.toArray)=some kl:=
 arr_key (z:=4) Tryz.underlying209 (by kernel_rfl) (by kernel_rfl) (by kernel_rfl) ⟨_,rfl⟩ cs h fun d i hi=>keyF _ (by simp[h];omega) (fun u hu=>ho u (List.mem_of_mem_drop (List.mem_of_mem_take hu))) d
theorem infoArrF:(Tryz.prog.info? 209).map (fun i=>(i.zero,i.size,i.bytes))=some (some (.agg (Array.replicate 512 (Value.bool false))),512,512):=by kernel_rfl
def TyF:TrTy:=⟨200,205,209,134,3,512⟩
abbrev MkF:=MkB Tryz.prog TyF okF
theorem placeQF (n base tB mB kB eB:Nat)(size:Int)(I:Value)(A:Option Addr)(c:Nat)(nb:Nat)(b:List Value)(w:World)(hb:b.length=512)(hw:∀x∈b,okF x)
 (h:MkF w n base tB mB kB eB nb size I A c)(hn:n≤20000)(hl:nb≤20000):
 Calls Tryz.prog 93 #[.pointer (some ⟨mB,0,none⟩),.agg b.toArray] w (RetPl Tryz.prog TyF okF w (n+1) base tB mB kB eB nb size I A):=by
 obtain⟨kl,hkl⟩:=arrKeyF b hb hw;have HW:=hid hw;clear hw;have kp1:Kp w (w.alloc (.cells b.toArray 209)):=(Kp.refl w).alloc _;have h1:=h.kp kp1;have bx1:=Bx.new w b.toArray 209;have hkn:NM Tryz.prog 209 3 (w.alloc (.cells b.toArray 209)).drew kB n nb:=h.known.mu (S:=fun _=>False) (Mu.of_kp kp1.drew) id;have hbase:=h.lt;have hne:=h.ne;have hU:=Tryz.underlying209;have hI:(Tryz.prog.info? 209).map (·.size)=some b.length:=by rw[hb];kernel_rfl
 obtain⟨cv,β,hlk,hβ⟩:=NM.look hkn arrKF Tryz.underlying202 Tryz.underlying3 rfl hkl;cases β with
 |true=>
  obtain⟨x,rfl,hx⟩:=hβ rfl;obtain⟨m0,m1,m2,_,_,_⟩:=h1.mb.three;have rg1:=bx1.range0;have H1:=hid h1;clear h h1 bx1 hkn hβ;go_enter Tryz.func93,Tryz.ntmps93;go_upto_region 1 with fail;go_region_held3 (fun w'=>w'.cell? ⟨mB,1,none⟩=some (.map (some kB))∧w'.rangeAt w.heap.size 0 b) (first|(with_reducible exact⟨m1,rg1⟩)|go_keep) (fail);clear hU hI;go_wp2_with fail;go_ret;exact⟨x,nb,A,c,rfl,hx,le_,by omega,(H1.out.kp (Kp.refl _).drew).mono (Nat.le_succ _),.of_kp kp1.drew,fun k hk=>.inl hk⟩
 |false=>
  obtain⟨w2,hput,kno2,hg2⟩:=NM.put (w:=(w.alloc (.cells b.toArray 209)).drew.drew) (nb':=nb+1) (x:=nb) (hkn.mu (S:=fun _=>False) (Mu.of_kp (Kp.refl _).drew) id) arrKF Tryz.underlying202 Tryz.underlying3 (by omega) hkl (Nat.lt_succ_self _) (Nat.le_succ _) (by omega);have fr2:Mu (fun k=>k=kB) w w2:=(Mu.of_kp (S:=fun k=>k=kB) kp1.drew.drew).trans (S':=fun k=>k=kB) (.of_grown hg2 fun k hk _=>by cases hk;rfl) fun _ _ h=>h
  have tb2:=fr2.bx h.tb hne.2.1.symm;have mb2:=fr2.bx h.mb hne.2.2.1.symm;have bx2:=(Mu.of_grown (S:=fun k=>k=kB) hg2 fun k hk _=>by cases hk;rfl).bx bx1.drew.drew (by show¬w.heap.size=kB;omega);have ev2:=(h.even.mu fr2 hne.2.2.2.2.2.symm).mono (n':=n+1) (nb':=nb+1) (Nat.le_succ _) (Nat.le_succ _);obtain⟨rcs,hro,hrc⟩:=h.row;have row2:=fr2.own hro fun k hk e=>by have:=hro.lt k hk;omega
  have hz2:=fr2.size;have hz2':w.heap.size<w2.heap.size:=bx2.lt;obtain⟨m0,m1,m2,_,_,_⟩:=h1.mb.three;obtain⟨t0,t1,t2,_,_,t5⟩:=h1.tb.three;have rg1:=bx1.range0;obtain⟨m0',m1',m2',_,_,_⟩:=mb2.three;obtain⟨t0',t1',t2',_,_,t5'⟩:=tb2.three;have rg1':=bx2.range0;have mb3:=mb2.drew.alloc (.cells b.toArray 209);have tb3:=tb2.drew.alloc (.cells b.toArray 209);have bx3:=bx2.drew.alloc (.cells b.toArray 209);have row3:=row2.drew.alloc (.cells b.toArray 209);have m0'':=mb3.three.1;have t2'':=tb3.three.2.2.1;have t5'':=tb3.three.2.2.2.2.2;have rg1'':=bx3.range0;obtain⟨HB,HT,HX,HROW,HRC,HK2,HE2,HF⟩:=hid8 mb3 tb3 bx3 row3 hrc kno2 ev2 fr2;have HLT:Hid (∀k,zB A=some k→base≤k∧k<w.heap.size):=hro.lt;clear h h1 bx1 mb2 tb2 bx2 mb3 tb3 bx3 row2 row3 hro hrc hkn hβ kno2 ev2 fr2 hg2;go_enter Tryz.func93,Tryz.ntmps93;go_upto_region 1 with fail;go_region_held3 (fun w'=>w'.cell? ⟨mB,1,none⟩=some (.map (some kB))∧w'.rangeAt w.heap.size 0 b) (first|(with_reducible exact⟨m1,rg1⟩)|go_keep) (fail);go_upto_region 4 with fail;go_region_held3 (fun w'=>w'.cell? ⟨mB,1,none⟩=some (.map (some kB))∧w'.rangeAt w.heap.size 0 b) (first|(with_reducible exact⟨m1,rg1⟩)|(with_reducible exact⟨m1',rg1'⟩)|go_keep) (fail);go_upto_region 5 with fail;clear rg1 hlk hput;have hS:w2.drew.cell? ⟨mB,0,none⟩=some (.pointer (some ⟨tB,0,none⟩))∧w2.drew.cell? ⟨tB,2,none⟩=some (.slice A nb c)∧w2.drew.rangeAt w.heap.size 0 b:=⟨m0',t2',rg1'⟩;refine wp_region_noPanic ?_;refine yI (fun w'=>w'.cell? ⟨mB,0,none⟩=some (.pointer (some ⟨tB,0,none⟩))∧w'.cell? ⟨tB,2,none⟩=some (.slice A nb c)∧w'.rangeAt w.heap.size 0 b) 16 (by kernel_rfl) (by kernel_rfl) fun inv=>?_
  refine tkT 0 inv hS fun inv=>?_
  refine tkT 1 inv hS fun inv=>?_
  refine tkT 2 inv hS fun inv=>?_
  refine tkT 3 inv hS fun inv=>?_
  refine tkT 4 inv hS fun inv=>?_
  refine tkT 5 inv hS fun inv=>?_
  refine tkT 6 inv hS fun inv=>?_
  refine tkT 7 inv hS fun inv=>?_
  refine tkT 8 inv hS fun inv=>?_
  refine tkT 9 inv hS fun inv=>?_
  refine tkT 10 inv hS fun inv=>?_
  try go_frame
  refine yJ (i:=11) (v:=?v12) inv (by simp only[List.getElem?_toArray,List.getElem?_cons_succ,List.getElem?_cons_zero];rfl) (by decide) (by kernel_rfl) (by kernel_rfl) ?hQ12 hS ?hy12 (fun inv=>?rest12)
  case hy12=>
   refine xW ?_ (yieldsIf_load_mid (by rfl) _ (.tmp 3) (by rfl) w.heap.size 0 (by rfl) _ _ (by intro wy hy;exact hy.2.2) hU rfl hI)
   with_reducible rfl
  case hQ12=>exact fun _ _ _ h=>h
  go_frame;refine onT 12 inv fun K hK=>?_
  refine step_build (by rfl) _ 209 _ (by rfl) _ 512 512 Tryz.underlying198 infoArrF (by omega) (by omega) b hb (by rfl) ?_;refine hK.out _ _ ?_ (fun inv=>?_)
  ·exact⟨m0'',t2'',rg1''⟩
  clear hK K hS;try go_frame
  refine onT 13 inv fun K hK=>?_
  refine zJ _ (by rfl) _ _ _ (by rfl) base 209 _ 512 512 Tryz.underlying198 infoArrF (by simp[Value.cells]) (by omega) A nb c rcs (by rfl) HROW.out Any _ 1 1 b (by rfl) (Sl.new _ _ _ _ _ trivial (by simp[hb]) (by omega)) (fun u hu=>oneF (HW.out u hu)) (by simp only[maxLen];omega) (by omega) (by simp;omega) ?_;intro A4 c4 w4 hown4 hg4 hat4;have hrow:∀k,zB A=some k→base≤k∧k<w.heap.size:=HLT.out;have mb4:=HB.out.grown hg4 (fun e=>by have:=hrow _ e;omega);have tb4:=HT.out.grown hg4 (fun e=>by have:=hrow _ e;omega);have bx4:=HX.out.grown hg4 (fun e=>by have:=hrow _ e;omega);obtain⟨x0,x1,x2,x3,x4,x5⟩:=tb4.three;refine hK.out _ _ ?_ (fun inv=>?_)
  ·exact⟨mb4.three.1,x2,bx4.range0⟩
  clear hK K;try go_frame
  have hS:w4.cell? ⟨mB,0,none⟩=some (.pointer (some ⟨tB,0,none⟩))∧w4.cell? ⟨tB,2,none⟩=some (.slice A nb c)∧w4.rangeAt w.heap.size 0 b:=⟨mb4.three.1,x2,bx4.range0⟩;refine tkT 14 inv hS fun inv=>?_
  refine tkT 15 inv hS fun inv=>?_
  try go_frame
  refine laT fun K hK=>?_
  go_simp;refine hK.out _ _ ?_;clear hK K;refine NoPanic.normal ?_;go_wp2_with fail;go_ret;have f5:Mu (fun k=>k=tB∨zB A=some k) w2 (w4.setCell ⟨tB,2,none⟩ (.slice A4 (nb+1) c4)):=
   ((Mu.of_kp (S:=fun k=>k=tB∨zB A=some k) ((Kp.refl w2).drew.alloc _)).trans (S':=fun k=>k=tB∨zB A=some k) (.of_grown hg4 fun k hk _=>.inr hk) fun _ _ h=>h).setCell (p:=⟨tB,2,none⟩) (.inl rfl) _
  have hk5:¬(kB=tB∨zB A=some kB):=by rintro(h|h);exact hne.2.1 h;have:=hrow _ h;omega
  have he5:¬(eB=tB∨zB A=some eB):=by rintro(h|h);exact hne.2.2.2.1 h;have:=hrow _ h;omega
  refine⟨nb,nb+1,A4,c4,rfl,Nat.lt_succ_self _,Nat.le_succ _,le_,⟨tb4.set 2 _,mb4.far (p:=⟨tB,2,none⟩) hne.1.symm _,⟨rcs++b,hown4.setCell (fun e=>by have:=(hown4.lt _ e).1;dsimp only at this;omega) _,?_⟩,HK2.out.mu f5 hk5,HE2.out.mu f5 he5,⟨hbase.1,hbase.2.1,hbase.2.2.1,hbase.2.2.2.1,?_⟩,hne⟩,?_,?_⟩
  ·intro u hu
   rcases List.mem_append.1 hu with hu|hu
   ·exact HRC.out u hu
   ·exact HW.out u hu
  ·have:=f5.size;omega
  ·exact(HF.out.weak fun k _ hk=>.inr (.inl hk)).trans (S':=fun k=>k=tB∨zB A=some k) f5 fun k _ hk=>by rcases hk with h|h;exact .inl h;exact .inr (.inr (.inr h))
  ·intro k hk
   rcases hat4 with h|h
   ·exact .inl (h▸hk)
   ·rw[h]at hk
    cases hk
    right
    simp;omega
end
end Go.Proofs.YtociefdcccokjaaGreat

/-
  Lemmas for TopMacro. Conditions: each states its own.
-/
import Derived.Laws.CopyRow
import Derived.Laws.CopyOwn
import Derived.Laws.MakeOwn
import Derived.Lib.SliceRun
import Derived.Deep.MidRow
import Derived.Maps.OwnSet
import Derived.Great.BuildSlice
import Derived.Great.FillDense
import Derived.Test.YtociefdcccokjaaGreatG10
set_option maxHeartbeats 6400000
set_option maxRecDepth 100000
namespace Go.Proofs.YtociefdcccokjaaGreat
open Go.RowKit Go.Lib
theorem gapSlice_none (G R:Nat)(a b:Int)(l:List Int)(w:World)(h:GapAt w G R l)(hab:min b (l.length:Int)≤max a 0):
 Calls Tryz.prog 123 #[.pointer (some ⟨G,0,none⟩),.int .i64 a,.int .i64 b] w fun e w'=>e=.returned (.slice none 0 0)∧Kp w w':=by
 have HLN:=hid (xI G R l w h);clear h;generalize l.length=v at *;obtain⟨p,hp⟩:∃p,p=max a 0:=⟨_,rfl⟩;obtain⟨q,hq⟩:∃q,q=min b (v:Int):=⟨_,rfl⟩;have h3:(a<0∧p=0)∨(¬a<0∧p=a):=by omega
 have h4:((v:Int)<b∧q=v)∨(¬(v:Int)<b∧q=b):=by omega
 have hqp:p≥q:=by omega
 have HQP:=hid hqp;clear hp hq hab hqp;rcases h3 with⟨h3,rfl⟩|⟨h3,rfl⟩<;>rcases h4 with⟨h4,rfl⟩|⟨h4,rfl⟩
 all_goals
  have hqp:=HQP.out;go_enter Tryz.func123,Tryz.ntmps123;go_wp2_with fail;refine HLN.out.mono ?_;rintro e w1 ⟨rfl,k1⟩;go_wp2_with fail;go_ret;exact⟨rfl,k1⟩
theorem gapAll_any (G R:Nat)(l:List Int)(w:World)(h:GapAt w G R l):
 Calls Tryz.prog 85 #[.pointer (some ⟨G,0,none⟩)] w (RetRu l w):=by
 obtain⟨HLN,HG⟩:=hid2 (xI G R l w h) h;rcases Nat.eq_zero_or_pos l.length with h0|h0
 ·obtain rfl:l=[]:=List.length_eq_zero_iff.1 h0
  clear h h0;go_enter Tryz.func85,Tryz.ntmps85;go_wp2_with fail;refine HLN.out.mono ?_;rintro e w1 ⟨rfl,k1⟩;have HS:=hid (gapSlice_none G R 0 0 [] w1 (HG.out.kp k1) (by simp));go_wp2_with fail;refine HS.out.mono ?_;rintro e w2 ⟨rfl,k2⟩;go_wp2_with fail;go_ret;exact⟨none,0,0,rfl,Sl.nil _ _ 1,k1.trans k2⟩
 ·have hc:cutM l 0 l.length=l:=by unfold cutM;rw[List.take_length,List.drop_zero]
  have HC:=hid hc;have hsl:=fun(w1:World) (k1:Kp w w1)=>gapSlice_any G R 0 l.length l w1 (HG.out.kp k1) h0 le_
  have HSL:=hid hsl;clear h h0 hc hsl;go_enter Tryz.func85,Tryz.ntmps85;go_wp2_with fail;refine HLN.out.mono ?_;rintro e w1 ⟨rfl,k1⟩;go_wp2_with fail;refine(HSL.out _ k1).mono ?_;rintro e w2 ⟨A2,n2,c2,rfl,h2,k2⟩;rw[HC.out]at h2;go_wp2_with fail;go_ret;exact⟨A2,n2,c2,rfl,h2.weak (fun j _ h=>by unfold From at h⊢;have:=k1.size;omega),k1.trans k2⟩
theorem Mu.setRow {S:Nat→Prop}{w w':World}(h:Mu S w w'){g:Nat}(hg:S g)(cs:Array Value):Mu S w (w'.setRow g cs):=
 ⟨h.os,h.tape,h.output,by simpa[World.setRow]using h.size,fun k hk hS=>(setRow_other _ _ _ _ (by rintro rfl;exact hS hg)).trans (h.block k hk hS)⟩
theorem Kp.setRow {w w':World}(h:Kp w w'){g:Nat}(hg:w.heap.size≤g)(cs:Array Value):Kp w (w'.setRow g cs):=
 ⟨h.os,h.tape,h.output,by simpa[World.setRow]using h.size,fun k hk=>(setRow_other _ _ _ _ (by rintro rfl;omega)).trans (h.block k hk)⟩
theorem Bx.setRow {w:World}{b:Nat}{cs:Array Value}{t:TypeId}(h:Bx w b cs t)(ds:Array Value):Bx (w.setRow b ds) b ds t:=setRow_heap _ _ _ _ _ _ h
theorem size_setRow (w:World)(g:Nat)(cs:Array Value):(w.setRow g cs).heap.size=w.heap.size:=by simp[World.setRow]
def putL {α:Type}(L:List α)(d:Nat)(xs:List α):List α:=L.take d++xs++L.drop (d+xs.length)
theorem putL_nil {α:Type}(L:List α)(d:Nat):putL L d []=L:=by simp[putL]
theorem putL_len {α:Type}(L:List α)(d:Nat)(xs:List α)(h:d+xs.length≤L.length):(putL L d xs).length=L.length:=by simp[putL];omega
theorem putL_R32 (L:List Int)(d:Nat)(xs:List Int):R32 (putL L d xs)=(R32 L).take d++R32 xs++(R32 L).drop (d+xs.length):=by
 unfold putL;rw[←zM,←zM,R32_take,R32_drop]
theorem info32s:(Tryz.prog.info? 21).map (·.size)=some 1:=by
 have h:=yF;rcases hq:Tryz.prog.info? 21 with _|i
 ·rw[hq]at h;simp at h
 ·rw[hq]at h;simp at h;simp[h]
theorem run_copyR {w:World}{F:Nat→Prop}{R:Nat}{L:List Int}(hb:Bx w R (R32 L).toArray 21)(D:Option Addr)(d n dc:Nat)(A:Option Addr)(m sc:Nat)(xs:List Int)(hx:Ru w F A m sc xs)(hmn:m≤n)
 (hD:0<m→D=some ⟨R,d,none⟩)(hfit:d+m≤L.length)(ty:TypeId):
 (Builtin.copy_ #[41,41] ty #[.slice D n dc,.slice A m sc]).run Tryz.prog w=.ok (.int .i64 (m:Int)) (w.setRow R (R32 (putL L d xs)).toArray):=by
 rcases Nat.eq_zero_or_pos m with rfl|h0
 ·obtain rfl:xs=[]:=List.eq_nil_of_length_eq_zero hx.len
  rw[putL_nil,setRow_self w R _ _ _ hb];exact run_copy_none w _ _ _ 21 D A n dc 0 sc Tryz.underlying41 info32s (Nat.zero_min n)
 ·obtain rfl:=hD h0
  obtain⟨a,rfl,_,_,hc⟩:=hx.at_ h0;have hl:=hx.len;have h:=run_copy_row (P:=Tryz.prog) w 41 41 ty 21 R d n dc a m sc (R32 L).toArray 21 (R32 xs) Tryz.underlying41 info32s hb (by rw[zG,hl];exact(Nat.min_eq_left hmn).symm) hc (by simp[zG];omega) (zQ _);rw[h,putL_R32,zG,hl];rfl
theorem zY {b:Nat}{t:TypeId}:∀(vs:List Value) (o:Nat) (w:World) (cs:Array Value),Bx w b cs t→o+vs.length≤cs.size→w.setCells b o vs=w.setRow b (cs.toList.take o++vs++cs.toList.drop (o+vs.length)).toArray
 |[],o,w,cs,h,_=>by
  simp only[World.setCells,List.append_nil,List.length_nil,Nat.add_zero,List.take_append_drop,Array.toArray_toList];exact(setRow_self w b cs t (0,0) h).symm
 |v::r,o,w,cs,h,hl=>by
  rw[List.length_cons]at hl;show(w.setCell ⟨b,o,none⟩ v).setCells b (o+1) r=_;have ih:=zY r (o+1) (w.setCell ⟨b,o,none⟩ v) (cs.setIfInBounds o v) (h.set o v) (by simp;omega);rw[ih,setCell_eq_setRow w b o cs t (0,0) v h,setRow_setRow]
  congr 2
  have e:=list_seg_step cs.toList o v r (by simp;omega);simpa[Array.toList_setIfInBounds,Nat.add_assoc]using e
theorem run_clearR {w:World}{R:Nat}{L:List Int}(hb:Bx w R (R32 L).toArray 21)(D:Option Addr)(d n dc:Nat)(hD:0<n→D=some ⟨R,d,none⟩)(hfit:d+n≤L.length)(ty:TypeId):
 (Builtin.clear_ #[41] ty #[.slice D n dc]).run Tryz.prog w=.ok (.tuple #[]) (w.setRow R (R32 (putL L d (List.replicate n 0))).toArray):=by
 rcases Nat.eq_zero_or_pos n with rfl|h0
 ·rw[List.replicate_zero,putL_nil,setRow_self w R _ _ _ hb]
  cases D<;>simp[Builtin.clear_,run_underlying Tryz.underlying41]
 ·obtain rfl:=hD h0
  have h:=run_clear_slice (P:=Tryz.prog) w 41 21 ty (.int .i32 0) Tryz.underlying41 (fun _=>by kernel_rfl) rfl rfl R d n dc h0
   (fun j hj=>by rw[hb.cell];simp[zG];omega) (fun j _=>hb.frozen _)
  rw[h,zY _ _ _ _ hb (by simp[zG];omega),putL_R32];simp[R32]
theorem mu_setRow {w:World}{R:Nat}(cs:Array Value):Mu (fun k=>k=R) w (w.setRow R cs):=Mu.setRow (S:=fun k=>k=R) (Mu.refl w) (g:=R) rfl cs
theorem zW {w:World}{ops:Array Oper}{rest:List Oper}{o:Oper}{a:Act}{Q:Exit→Act→World→Prop}(hgd:o.guard=none)(d s:Operand)
 (ho:o.op=.call {callee:=.builtin .copy,args:=#[d,s],argTypes:=#[41,41]}){F:Nat→Prop}{R:Nat}{L:List Int}(hb:Bx w R (R32 L).toArray 21)(D:Option Addr)(d0 n dc:Nat)(A:Option Addr)(m sc:Nat)(xs:List Int)
 (hd:a.eval d=.slice D n dc)(hs:a.eval s=.slice A m sc)(hx:Ru w F A m sc xs)(hmn:m≤n)(hD:0<m→D=some ⟨R,d0,none⟩)(hfit:d0+m≤L.length)
 (h:∀w',Bx w' R (R32 (putL L d0 xs)).toArray 21→Mu (fun k=>k=R) w w'→wpList Tryz.prog ops Q rest (a.put o.dst (.int .i64 (m:Int))) w'):wpList Tryz.prog ops Q (o::rest) a w:=by
 refine wpList_plain hgd fun K hK=>?_
 have hrun:=run_copyR hb D d0 n dc A m sc xs hx hmn hD hfit o.type;unfold Oper.wp;simp[execOp,ho,resolve,invoke,builtin,hd,hs,hrun,Result.andThen];exact hK _ _ (h _ (hb.setRow _) (mu_setRow _))
theorem wpList_clearR {w:World}{ops:Array Oper}{rest:List Oper}{o:Oper}{a:Act}{Q:Exit→Act→World→Prop}(hgd:o.guard=none)(d:Operand)
 (ho:o.op=.call {callee:=.builtin .clear,args:=#[d],argTypes:=#[41]}){R:Nat}{L:List Int}(hb:Bx w R (R32 L).toArray 21)(D:Option Addr)(d0 n dc:Nat)
 (hd:a.eval d=.slice D n dc)(hD:0<n→D=some ⟨R,d0,none⟩)(hfit:d0+n≤L.length)
 (h:∀w',Bx w' R (R32 (putL L d0 (List.replicate n 0))).toArray 21→Mu (fun k=>k=R) w w'→wpList Tryz.prog ops Q rest (a.put o.dst (.tuple #[])) w'):wpList Tryz.prog ops Q (o::rest) a w:=by
 refine wpList_plain hgd fun K hK=>?_
 have hrun:=run_clearR hb D d0 n dc hD hfit o.type;unfold Oper.wp;simp[execOp,ho,resolve,invoke,builtin,hd,hrun,Result.andThen];exact hK _ _ (h _ (hb.setRow _) (mu_setRow _))
theorem usual_get:∀k:Nat,k<32→(#[Value.int .i64 17,.int .i64 7,.int .i64 4,.int .i64 0,.int .i64 9,.int .i64 8,.int .i64 3,.int .i64 26,.int .i64 10,.int .i64 0,.int .i64 2,.int .i64 13,.int .i64 27,.int .i64 2,.int .i64 23,.int .i64 0,.int .i64 22,.int .i64 28,.int .i64 24,.int .i64 25,.int .i64 31,.int .i64 14,.int .i64 0,.int .i64 15,.int .i64 33,.int .i64 19,.int .i64 0,.int .i64 0,.int .i64 0,.int .i64 0,.int .i64 0,.int .i64 21]:Array Value)[k]? =some (.int .i64 (usualK[k]?.getD 0)):=by
 intro k hk;have h:∀k:Fin 32,(#[Value.int .i64 17,.int .i64 7,.int .i64 4,.int .i64 0,.int .i64 9,.int .i64 8,.int .i64 3,.int .i64 26,.int .i64 10,.int .i64 0,.int .i64 2,.int .i64 13,.int .i64 27,.int .i64 2,.int .i64 23,.int .i64 0,.int .i64 22,.int .i64 28,.int .i64 24,.int .i64 25,.int .i64 31,.int .i64 14,.int .i64 0,.int .i64 15,.int .i64 33,.int .i64 19,.int .i64 0,.int .i64 0,.int .i64 0,.int .i64 0,.int .i64 0,.int .i64 21]:Array Value)[k.val]? =some (.int .i64 (usualK[k.val]?.getD 0)):=by
  intro k
  match k with
  |⟨0,_⟩|⟨1,_⟩|⟨2,_⟩|⟨3,_⟩|⟨4,_⟩|⟨5,_⟩|⟨6,_⟩|⟨7,_⟩|⟨8,_⟩|⟨9,_⟩|⟨10,_⟩|⟨11,_⟩|⟨12,_⟩|⟨13,_⟩|⟨14,_⟩|⟨15,_⟩|⟨16,_⟩|⟨17,_⟩|⟨18,_⟩|⟨19,_⟩|⟨20,_⟩|⟨21,_⟩|⟨22,_⟩|⟨23,_⟩|⟨24,_⟩|⟨25,_⟩|⟨26,_⟩|⟨27,_⟩|⟨28,_⟩|⟨29,_⟩|⟨30,_⟩|⟨31,_⟩=>rfl
  |⟨n+32,h⟩=>exact absurd h (by omega)
 exact h ⟨k,hk⟩
theorem info225:(Tryz.prog.info? 225).map (·.size)=some 32:=by kernel_rfl
theorem control_any (r:Int)(w:World):
 Calls Tryz.prog 76 #[.int .i32 r] w fun e w'=>e=.returned (.int .i64 (controlK r))∧Kp w w':=by
 obtain⟨v,hv⟩:∃v,v=controlK r:=⟨_,rfl⟩;rw[←hv];unfold controlK at hv;have HV:=hid hv;clear hv;go_enter Tryz.func76,Tryz.ntmps76;go_upto_region 1 with fail;go_step;go_step;go_step;go_step;go_step;go_step;go_step;have hget:=usual_get;have hsz:(#[.int .i64 17,.int .i64 7,.int .i64 4,.int .i64 0,.int .i64 9,.int .i64 8,.int .i64 3,.int .i64 26,.int .i64 10,.int .i64 0,.int .i64 2,.int .i64 13,.int .i64 27,.int .i64 2,.int .i64 23,.int .i64 0,.int .i64 22,.int .i64 28,.int .i64 24,.int .i64 25,.int .i64 31,.int .i64 14,.int .i64 0,.int .i64 15,.int .i64 33,.int .i64 19,.int .i64 0,.int .i64 0,.int .i64 0,.int .i64 0,.int .i64 0,.int .i64 21]:Array Value).size=32:=rfl;have hall:(#[.int .i64 17,.int .i64 7,.int .i64 4,.int .i64 0,.int .i64 9,.int .i64 8,.int .i64 3,.int .i64 26,.int .i64 10,.int .i64 0,.int .i64 2,.int .i64 13,.int .i64 27,.int .i64 2,.int .i64 23,.int .i64 0,.int .i64 22,.int .i64 28,.int .i64 24,.int .i64 25,.int .i64 31,.int .i64 14,.int .i64 0,.int .i64 15,.int .i64 33,.int .i64 19,.int .i64 0,.int .i64 0,.int .i64 0,.int .i64 0,.int .i64 0,.int .i64 21]:Array Value).all (·.oneCell')=true:=by simp[Value.oneCell']
 generalize(#[.int .i64 17,.int .i64 7,.int .i64 4,.int .i64 0,.int .i64 9,.int .i64 8,.int .i64 3,.int .i64 26,.int .i64 10,.int .i64 0,.int .i64 2,.int .i64 13,.int .i64 27,.int .i64 2,.int .i64 23,.int .i64 0,.int .i64 22,.int .i64 28,.int .i64 24,.int .i64 25,.int .i64 31,.int .i64 14,.int .i64 0,.int .i64 15,.int .i64 33,.int .i64 19,.int .i64 0,.int .i64 0,.int .i64 0,.int .i64 0,.int .i64 0,.int .i64 21]:Array Value)=U at *;have hzz:(#[.int .i64 0,.int .i64 0,.int .i64 0,.int .i64 0,.int .i64 0,.int .i64 0,.int .i64 0,.int .i64 0,.int .i64 0,.int .i64 0,.int .i64 0,.int .i64 0,.int .i64 0,.int .i64 0,.int .i64 0,.int .i64 0,.int .i64 0,.int .i64 0,.int .i64 0,.int .i64 0,.int .i64 0,.int .i64 0,.int .i64 0,.int .i64 0,.int .i64 0,.int .i64 0,.int .i64 0,.int .i64 0,.int .i64 0,.int .i64 0,.int .i64 0,.int .i64 0]:Array Value).size=32:=rfl;have bz:=Bx.new w #[.int .i64 0,.int .i64 0,.int .i64 0,.int .i64 0,.int .i64 0,.int .i64 0,.int .i64 0,.int .i64 0,.int .i64 0,.int .i64 0,.int .i64 0,.int .i64 0,.int .i64 0,.int .i64 0,.int .i64 0,.int .i64 0,.int .i64 0,.int .i64 0,.int .i64 0,.int .i64 0,.int .i64 0,.int .i64 0,.int .i64 0,.int .i64 0,.int .i64 0,.int .i64 0,.int .i64 0,.int .i64 0,.int .i64 0,.int .i64 0,.int .i64 0,.int .i64 0] 225;have k1:=(Kp.refl w).alloc (.cells #[.int .i64 0,.int .i64 0,.int .i64 0,.int .i64 0,.int .i64 0,.int .i64 0,.int .i64 0,.int .i64 0,.int .i64 0,.int .i64 0,.int .i64 0,.int .i64 0,.int .i64 0,.int .i64 0,.int .i64 0,.int .i64 0,.int .i64 0,.int .i64 0,.int .i64 0,.int .i64 0,.int .i64 0,.int .i64 0,.int .i64 0,.int .i64 0,.int .i64 0,.int .i64 0,.int .i64 0,.int .i64 0,.int .i64 0,.int .i64 0,.int .i64 0,.int .i64 0] 225);generalize(#[.int .i64 0,.int .i64 0,.int .i64 0,.int .i64 0,.int .i64 0,.int .i64 0,.int .i64 0,.int .i64 0,.int .i64 0,.int .i64 0,.int .i64 0,.int .i64 0,.int .i64 0,.int .i64 0,.int .i64 0,.int .i64 0,.int .i64 0,.int .i64 0,.int .i64 0,.int .i64 0,.int .i64 0,.int .i64 0,.int .i64 0,.int .i64 0,.int .i64 0,.int .i64 0,.int .i64 0,.int .i64 0,.int .i64 0,.int .i64 0,.int .i64 0,.int .i64 0]:Array Value)=Z at *;generalize(w.alloc (.cells Z 225))=w1 at *;obtain⟨W,hW⟩:∃W,W=w.heap.size:=⟨_,rfl⟩;rw[←hW]at bz⊢;have HW:=hid hW;clear hW;have hth:w1.there W 0 U.size:=fun j hj=>by
  rw[hsz]at hj;rw[bz.cell];exact⟨by simp;omega,bz.frozen _⟩
 refine wpList_store_mid rfl 225 _ _ rfl W 0 U rfl rfl hth (by rw[hsz];exact info225) hall ?_;have hk2:Kp w (w1.setCells W 0 U.toList):=by
  rw[zY _ _ _ _ bz (by simp;omega)];exact k1.setRow (by rw[HW.out];exact le_) _
 have hrg:=World.rangeAt_setCells_same w1 W 0 U.toList (by simpa using hth);have hb2:Bx (w1.setCells W 0 U.toList) W U 225:=by
  rw[zY _ _ _ _ bz (by simp;omega)];have:=bz.setRow (Z.toList.take 0++U.toList++Z.toList.drop (0+U.toList.length)).toArray;have e:(Z.toList.take 0++U.toList++Z.toList.drop (0+U.toList.length)).toArray=U:=by
   rw[List.take_zero,List.nil_append,Nat.zero_add,List.drop_of_length_le (by simp;omega),List.append_nil]
  rw[e]at this⊢;exact this
 generalize(w1.setCells W 0 U.toList)=w2 at *;clear hth hall hsz hzz bz k1 hrg;obtain⟨HG,HB,HK⟩:=hid3 hget hb2 hk2;clear hget hb2 hk2;by_cases h1:r=127
 ·have HV2:=hid (show v=10 by rw[HV.out,if_pos h1])
  have q0:(r==127)=true:=by simpa using h1
  clear h1 HV;go_wp2_with fail;go_ret;exact⟨zC HV2.out.symm,HK.out⟩
 ·have q0:(r==127)=false:=by simpa using h1
  by_cases h2:r<0
  ·have q1:=dT h2
   have HV2:=hid (show v=0 by rw[HV.out,if_neg h1,if_pos (.inl h2)]);clear h1 HV;go_wp2_with fail;go_ret;exact⟨zC HV2.out.symm,HK.out⟩
  ·have q1:=dF h2
   by_cases h3:r>31
   ·have q2:=dT h3
    have HV2:=hid (show v=0 by rw[HV.out,if_neg h1,if_pos (.inr h3)]);clear h1 HV;go_wp2_with fail;go_ret;exact⟨zC HV2.out.symm,HK.out⟩
   ·have q2:=dF h3
    obtain⟨k,rfl⟩:∃k:Nat,r=k:=⟨r.toNat,by omega⟩;have hk:k<32:=by omega
    have hc:=HB.out.cell k;rw[HG.out k hk]at hc;have HV2:=hid (show v=usualK[k]?.getD 0 by rw[HV.out,if_neg h1,if_neg (by omega)];rfl);generalize usualK[k]?.getD 0=u at *;clear h1 HV;go_wp2_with fail;go_ret;exact⟨zC HV2.out.symm,HK.out⟩
theorem look_stroke (p m:Bool)(k r:Int)(w:World):(Instr.lookup 28 (.map none) (.agg #[.bool p,.int .i64 k,.int .i32 r,.bool m]) true).run Tryz.prog w=.ok (.tuple #[.int .i64 0,.bool false]) w:=by
 kernel_rfl
theorem eq_stroke (m:Bool)(k r k' r':Int)(w:World):(binOp .eql 105 (.agg #[.bool true,.int .i64 k,.int .i32 r,.bool m]) (.agg #[.bool true,.int .i64 k',.int .i32 r',.bool false])).run Tryz.prog w=.ok (.bool (decide (k=k')&&decide (r=r')&&!m)) w:=by
 have u3:=Tryz.underlying21;have u4:=Tryz.underlying3;have u5:=Tryz.underlying4;have hS:Tryz.prog.underlying 105=some (.struct (Tryz.prog.fieldsOf 105)):=by kernel_rfl
 have hp:Tryz.prog.stoodInHeld 105=false:=by kernel_rfl
 rw[run_eql_struct,show(10000:Nat)=9999+1 from rfl,run_equalIn_agg w 9999 105 _ _ hS hp];simp only[Program.fieldsOf,Tryz.underlying105];go_simp;cases m<;>by_cases h1:k=k'<;>by_cases h2:r=r'<;>simp[h1,h2]
theorem behind_any (k r:Int)(m:Bool)(w:World):
 Calls Tryz.prog 74 #[.agg #[.bool true,.int .i64 k,.int .i32 r,.bool m]] w fun e w'=>e=.returned (.int .i64 (behindK k r m))∧Kp w w':=by
 obtain⟨v,hv⟩:∃v,v=behindK k r m:=⟨_,rfl⟩;rw[←hv];unfold behindK at hv;obtain⟨b1,h1⟩:∃b,b=(decide (k=2)&&decide (r=24)&&!m):=⟨_,rfl⟩;obtain⟨b2,h2⟩:∃b,b=(decide (k=2)&&decide (r=21)&&!m):=⟨_,rfl⟩;obtain⟨b3,h3⟩:∃b,b=(decide (k=1)&&decide (r=117)&&!m):=⟨_,rfl⟩;obtain⟨b4,h4⟩:∃b,b=(decide (k=2)&&decide (r=7)&&!m):=⟨_,rfl⟩;have e1:=fun w=>eq_stroke m k r 2 24 w
 have e2:=fun w=>eq_stroke m k r 2 21 w
 have e3:=fun w=>eq_stroke m k r 1 117 w
 have e4:=fun w=>eq_stroke m k r 2 7 w
 rw[←h1]at e1;rw[←h2]at e2;rw[←h3]at e3;rw[←h4]at e4;have HV:Hid (v=if b1=true then 18 else if b2=true then 21 else if b3=true then 21 else if b4=true then 26 else 0):=by
  show _=_;rw[hv,h1,h2,h3,h4];cases m<;>simp <;>(repeat' split)<;>omega
 clear hv h1 h2 h3 h4;cases b1
 ·cases b2
  ·cases b3
   ·cases b4
    all_goals
     have hv:=HV.out;simp at hv;have HV2:=hid hv;clear hv HV;go_enter Tryz.func74,Tryz.ntmps74;go_wp2_with fail;go_ret;exact⟨zC HV2.out.symm,(Kp.refl w).alloc _⟩
   ·have hv:=HV.out
    simp at hv;have HV2:=hid hv;clear hv HV;go_enter Tryz.func74,Tryz.ntmps74;go_wp2_with fail;go_ret;exact⟨zC HV2.out.symm,(Kp.refl w).alloc _⟩
  ·have hv:=HV.out
   simp at hv;have HV2:=hid hv;clear hv HV;go_enter Tryz.func74,Tryz.ntmps74;go_wp2_with fail;go_ret;exact⟨zC HV2.out.symm,(Kp.refl w).alloc _⟩
 ·have hv:=HV.out
  simp at hv;have HV2:=hid hv;clear hv HV;go_enter Tryz.func74,Tryz.ntmps74;go_wp2_with fail;go_ret;exact⟨zC HV2.out.symm,(Kp.refl w).alloc _⟩
theorem strokeOf_any (px:Bool)(k r:Int)(m:Bool)(A:Option Addr)(n c:Nat)(w:World):
 Calls Tryz.prog 37 #[.bool px,.agg #[.int .i64 k,.int .i32 r,.bool m,.slice A n c]] w fun e w'=>e=.returned (if k=4 then .agg #[.bool false,.int .i64 4,.int .i32 0,.bool false]else .agg #[.bool px,.int .i64 k,.int .i32 r,.bool m])∧Kp w w':=by
 have kk:=((Kp.refl w).alloc (.cells #[.int .i64 k,.int .i32 r,.bool m,.slice A n c] 43));have HK:=hid kk;clear kk;by_cases h4:k=4
 ·subst h4
  rw[if_pos rfl];go_enter Tryz.func37,Tryz.ntmps37;go_wp2_with fail;refine bodyPost_ret (v:=.agg #[.bool false,.int .i64 4,.int .i32 0,.bool false]) (by simp[results,Tryz.results37,go_sem]) rfl ?_;exact⟨rfl,HK.out.alloc _⟩
 ·rw[if_neg h4]
  have q:(k==4)=false:=by simpa using h4
  go_enter Tryz.func37,Tryz.ntmps37;go_wp2_with fail;refine bodyPost_ret (v:=.agg #[.bool px,.int .i64 k,.int .i32 r,.bool m]) (by simp[results,Tryz.results37,go_sem]) rfl ?_;exact⟨rfl,HK.out.alloc _⟩
theorem vL (px m:Bool)(k r:Int)(w:World):
 Calls Tryz.prog 36 #[.agg #[.map none],.agg #[.bool px,.int .i64 k,.int .i32 r,.bool m]] w fun e w'=>e=.returned (.int .i64 (lookK px k r m))∧Kp w w':=by
 have hl:=fun w=>look_stroke px m k r w
 obtain⟨v,hv⟩:∃v,v=lookK px k r m:=⟨_,rfl⟩;rw[←hv];unfold lookK at hv;have HV0:=hid hv;clear hv;by_cases h4:k=4
 ·have q4:(k==4)=true:=by simpa using h4
  have HV:=hid (show v=32 by rw[HV0.out,if_pos h4]);clear HV0 h4;go_enter Tryz.func36,Tryz.ntmps36;go_wp2_with fail;go_ret;exact⟨zC HV.out.symm,((Kp.refl w).alloc _).alloc _⟩
 have q4:(k==4)=false:=by simpa using h4
 have hv:=HV0.out;rw[if_neg h4]at hv;have HV1:=hid hv;clear hv HV0 h4;cases px
 rotate_left
 ·have hv:=HV1.out
  rw[if_pos rfl]at hv;have HV:=hid hv;clear hv HV1;go_enter Tryz.func36,Tryz.ntmps36;go_wp2_with fail;refine(behind_any k r m _).mono ?_;rintro e w1 ⟨rfl,k1⟩;go_wp2_with fail;go_ret;exact⟨zC HV.out.symm,(((Kp.refl w).alloc _).alloc _).trans k1⟩
 ·have hv:=HV1.out
  rw[if_neg (by simp)]at hv;have HV2:=hid hv;clear hv HV1;by_cases h3:k=3
  ·subst h3
   cases m
   ·have HV:=hid (show v=namedK r by rw[HV2.out];simp)
    clear HV2;go_enter Tryz.func36,Tryz.ntmps36;go_wp2_with fail;refine(named_any r _).mono ?_;rintro e w1 ⟨rfl,rfl⟩;go_wp2_with fail;go_ret;exact⟨zC HV.out.symm,((Kp.refl w).alloc _).alloc _⟩
   ·have HV:=hid (show v=0 by rw[HV2.out];simp)
    clear HV2;go_enter Tryz.func36,Tryz.ntmps36;go_wp2_with fail;go_ret;exact⟨zC HV.out.symm,((Kp.refl w).alloc _).alloc _⟩
  have q3:(k==3)=false:=by simpa using h3
  by_cases h2:k=2
  ·subst h2
   cases m
   ·have HV:=hid (show v=controlK r by rw[HV2.out];simp)
    clear HV2;go_enter Tryz.func36,Tryz.ntmps36;go_wp2_with fail;refine(control_any r _).mono ?_;rintro e w1 ⟨rfl,k1⟩;go_wp2_with fail;go_ret;exact⟨zC HV.out.symm,(((Kp.refl w).alloc _).alloc _).trans k1⟩
   ·by_cases h5:r=127
    ·subst h5
     have HV:=hid (show v=12 by rw[HV2.out];simp);clear HV2;go_enter Tryz.func36,Tryz.ntmps36;go_wp2_with fail;go_ret;exact⟨zC HV.out.symm,((Kp.refl w).alloc _).alloc _⟩
    ·have q5:(r==127)=false:=by simpa using h5
     by_cases h6:r=8
     ·subst h6
      have HV:=hid (show v=12 by rw[HV2.out];simp);clear HV2;go_enter Tryz.func36,Tryz.ntmps36;go_wp2_with fail;go_ret;exact⟨zC HV.out.symm,((Kp.refl w).alloc _).alloc _⟩
     ·have q6:(r==8)=false:=by simpa using h6
      have HV:=hid (show v=0 by rw[HV2.out];simp[h5,h6]);clear HV2 h5 h6;go_enter Tryz.func36,Tryz.ntmps36;go_wp2_with fail;go_ret;exact⟨zC HV.out.symm,((Kp.refl w).alloc _).alloc _⟩
  have q2:(k==2)=false:=by simpa using h2
  by_cases h1:k=1
  ·subst h1
   cases m
   ·have HV:=hid (show v=1 by rw[HV2.out];simp)
    clear HV2;go_enter Tryz.func36,Tryz.ntmps36;go_wp2_with fail;go_ret;exact⟨zC HV.out.symm,((Kp.refl w).alloc _).alloc _⟩
   ·have HV:=hid (show v=metaK r by rw[HV2.out];simp)
    clear HV2;go_enter Tryz.func36,Tryz.ntmps36;go_wp2_with fail;refine(meta_any r _).mono ?_;rintro e w1 ⟨rfl,rfl⟩;go_wp2_with fail;go_ret;exact⟨zC HV.out.symm,((Kp.refl w).alloc _).alloc _⟩
  have q1:(k==1)=false:=by simpa using h1
  have HV:=hid (show v=0 by rw[HV2.out];simp[h1,h2,h3]);clear HV2 h1 h2 h3;go_enter Tryz.func36,Tryz.ntmps36;go_wp2_with fail;go_ret;exact⟨zC HV.out.symm,((Kp.refl w).alloc _).alloc _⟩
structure RowV where
 k:Int
 f:Int
 t:Int
 a:Int
 b:Int
def RowV.c (r:RowV):List Value:=[.int .i64 r.k,.int .i64 r.f,.int .i64 r.t,.int .i64 r.a,.int .i64 r.b]
def RowV.ops (r:RowV):Array (Nat×Operand):=#[(0,.const (.int .i64 r.k)),(1,.const (.int .i64 r.f)),(2,.const (.int .i64 r.t)),(3,.const (.int .i64 r.a)),(4,.const (.int .i64 r.b))]
def RowV.cells (rs:List RowV):List Value:=(rs.map RowV.c).flatten
theorem RowV.cells_len (rs:List RowV):(RowV.cells rs).length=rs.length*5:=by
 unfold RowV.cells;rw[vO (k:=5) (by intro c hc;obtain⟨r,_,rfl⟩:=List.mem_map.1 hc;rfl),List.length_map]
theorem RowV.cells_one (rs:List RowV):∀u∈RowV.cells rs,u.oneCell'=true:=by
 intro u hu;obtain⟨c,hc,hu⟩:=List.mem_flatten.1 hu;obtain⟨r,_,rfl⟩:=List.mem_map.1 hc;simp[RowV.c]at hu;rcases hu with rfl|rfl|rfl|rfl|rfl<;>rfl
theorem RowV.cells_app (rs ss:List RowV):RowV.cells (rs++ss)=RowV.cells rs++RowV.cells ss:=by simp[RowV.cells]
theorem vN:(Tryz.prog.info? 141).map (fun i=>(i.zero,i.size,i.bytes))=some (some (.agg #[.int .i64 0,.int .i64 0,.int .i64 0,.int .i64 0,.int .i64 0]),5,40):=by kernel_rfl
theorem run_row (k f t a b:Int)(w:World):(Instr.build 141 #[(0,.int .i64 k),(1,.int .i64 f),(2,.int .i64 t),(3,.int .i64 a),(4,.int .i64 b)]).run Tryz.prog w=.ok (.agg #[.int .i64 k,.int .i64 f,.int .i64 t,.int .i64 a,.int .i64 b]) w:=by kernel_rfl
def xE (a:Act):Nat→List RowV→Act
 |_,[]=>a
 |d,r::rs=>xE (a.put (some d) (.agg r.c.toArray)) (d+1) rs
theorem putRows_size:∀(rs:List RowV) (a:Act) (d:Nat),(xE a d rs).tmps.size=a.tmps.size∧(xE a d rs).defers=a.defers
 |[],_,_=>⟨rfl,rfl⟩
 |r::rs,a,d=>by
  obtain⟨h1,h2⟩:=putRows_size rs (a.put (some d) (.agg r.c.toArray)) (d+1);exact⟨by unfold xE;rw[h1];simp[Act.put],by unfold xE;rw[h2];rfl⟩
theorem putRows_lo:∀(rs:List RowV) (a:Act) (d j:Nat),j<d→(xE a d rs).tmps[j]? =a.tmps[j]?
 |[],_,_,_,_=>rfl
 |r::rs,a,d,j,hj=>by
  unfold xE;rw[putRows_lo rs _ (d+1) j (by omega)];simp only[Act.put];rw[Array.getElem?_setIfInBounds_ne (by omega)]
theorem putRows_at:∀(rs:List RowV) (a:Act) (d i:Nat) (r:RowV),rs[i]? =some r→d+rs.length≤a.tmps.size→(xE a d rs).tmps[d+i]? =some (.agg r.c.toArray)
 |[],_,_,_,_,h,_=>by simp at h
 |s::rs,a,d,0,r,h,hd=>by
  simp at h;subst h;unfold xE;rw[putRows_lo rs _ (d+1) (d+0) (by omega)];simp only[Act.put,List.length_cons]at hd⊢;rw[Nat.add_zero,Array.getElem?_setIfInBounds_self_of_lt (by omega)]
 |s::rs,a,d,i+1,r,h,hd=>by
  unfold xE;simp only[List.length_cons]at hd;have:=putRows_at rs (a.put (some d) (.agg s.c.toArray)) (d+1) i r (by simpa using h) (by simp[Act.put];omega);rw[←this]
  congr 1
  omega
def opOf (o:Oper):Option Tmp×Op×Option (Nat×Bool):=(o.dst,o.op,o.guard)
def opsOf:Nat→List RowV→List (Option Tmp×Op×Option (Nat×Bool))
 |_,[]=>[]
 |d,r::rs=>(some d,.build 141 r.ops,none)::opsOf (d+1) rs
theorem wpList_rows {ops:Array Oper}{Q:Exit→Act→World→Prop}{rest:List Oper}{w:World}:∀(l:List Oper) (rs:List RowV) (d:Nat) (a:Act),l.map opOf=opsOf d rs→wpList Tryz.prog ops Q rest (xE a d rs) w→wpList Tryz.prog ops Q (l++rest) a w
 |[],[],_,_,_,h=>h
 |[],r::rs,_,_,h,_=>by simp[opsOf]at h
 |o::l,[],_,_,h,_=>by simp[opsOf]at h
 |o::l,r::rs,d,a,h,hw=>by
  simp only[List.map_cons,opsOf,List.cons.injEq,opOf,Prod.mk.injEq]at h;obtain⟨⟨h1,h2,h3⟩,h4⟩:=h;refine wpList_plain h3 fun K hK=>?_
  have e:(r.ops.map fun(i,x)=>(i,a.eval x))=#[(0,.int .i64 r.k),(1,.int .i64 r.f),(2,.int .i64 r.t),(3,.int .i64 r.a),(4,.int .i64 r.b)]:=by simp[RowV.ops,Act.eval]
  have hr:(execOp a.eval o).run Tryz.prog w=.ok (.value (.agg r.c.toArray)) w:=by
   unfold execOp;simp only[h2,e];simp[run_row,Result.andThen,RowV.c]
  unfold Oper.wp;rw[hr,Oper.upon_value,h1];exact hK _ _ (wpList_rows l rs (d+1) _ h4 hw)
theorem rows_fill (rs:List RowV)(z:Value):Instr.fill (fun i=>some (i*5,5)) ((Array.range (rs.length*5)).map (z.cells[·% z.cells.size]!)) (((rs.map fun r=>Value.agg r.c.toArray).zipIdx 0).map fun x=>(x.2,x.1))=some (RowV.cells rs).toArray:=by
 obtain⟨r,hr,hsz,hk⟩:=Great.fill_dense (s:=5) (by omega) (rs.map fun r=>Value.agg r.c.toArray) 0 ((Array.range (rs.length*5)).map (z.cells[·% z.cells.size]!)) (fun v hv=>by
  obtain⟨r,_,rfl⟩:=List.mem_map.1 hv;simp[Value.cells,RowV.c]) (by simp)
 rw[hr]
 congr 1
 apply Array.ext_getElem?
 intro k;rw[hk k];by_cases hlt:k<rs.length*5
 ·rw[if_pos (by simp;omega)]
  obtain⟨x,hx⟩:∃x,rs[k / 5]? =some x:=⟨_,List.getElem?_eq_getElem (by omega)⟩;have hf:=yR (k:=5) (css:=rs.map RowV.c) (i:=k / 5) (r:=k % 5) (c:=x.c) (by intro c hc;obtain⟨r,_,rfl⟩:=List.mem_map.1 hc;rfl) (by simp[hx]) (by omega);have e:k / 5*5+k % 5=k:=by omega
  rw[e]at hf;rw[Nat.sub_zero];simp only[List.getElem?_toArray];unfold RowV.cells;rw[hf,List.getElem?_map,hx];simp[Value.cells]
 ·rw[if_neg (by simp;omega),Array.getElem?_eq_none (by simp;omega)]
  simp only[List.getElem?_toArray];rw[List.getElem?_eq_none (by rw[RowV.cells_len];omega)]
structure RowsFn (fn:Func)(rs:List RowV):Prop where
 res:fn.results=#[.tmp 0]
 tmps:fn.ntmps=rs.length+2
 body:∃(l:List Oper) (o0 ob oa:Oper) (i j:Nat),fn.body=some (.seq (.region i #[o0] false) (.seq (.region j (l++[ob,oa]).toArray false) .ret))∧opOf o0=(some 0,.assign (.const (.slice none 0 0)),none)∧l.map opOf=opsOf 1 rs∧
  opOf ob=(some (rs.length+1),.buildSlice 26 rs.length ((List.range rs.length).map fun i=>(i,Operand.tmp (i+1))).toArray,none)∧opOf oa=(some 0,.assign (.tmp (rs.length+1)),none)
theorem rows_calls (f:FuncId)(fn:Func)(hf:Tryz.prog.funcs[f]? =some fn)(rs:List RowV)(h0:0<rs.length)(h1:rs.length≤1000)(h:RowsFn fn rs)(w:World):
 Calls Tryz.prog f #[] w fun en w'=>en=.returned (.slice (some ⟨w.heap.size,0,none⟩) rs.length rs.length)∧w'=w.alloc (.cells (RowV.cells rs).toArray 141):=by
 obtain⟨l,o0,ob,oa,i,j,hb,e0,el,eb,ea⟩:=h.body;simp only[opOf,Prod.mk.injEq]at e0 eb ea;obtain⟨a1,a2,a3⟩:=e0;obtain⟨b1,b2,b3⟩:=eb;obtain⟨c1,c2,c3⟩:=ea;obtain⟨ie,hie,hz⟩:=Option.map_eq_some_iff.1 vN;simp only[Prod.mk.injEq]at hz;obtain⟨z1,z2,z3⟩:=hz;refine calls_of_wp hf hb (wp_seq (wp_region_lit (wpList_plain a3 fun K hK=>?_)));unfold Oper.wp;rw[show(execOp _ o0).run Tryz.prog w=.ok (.value (.slice none 0 0)) w by unfold execOp;simp[a2,Act.eval],Oper.upon_value,a1];refine hK _ _ (wpList_nil ?_);clear hK K;refine wp_seq (wp_region_list ?_);show wpList _ _ _ (l++[ob,oa]) _ _;refine wpList_rows l rs 1 _ el ?_;generalize hA:xE _ 1 rs=A;have hsz:A.tmps.size=rs.length+2:=by rw[←hA,(putRows_size _ _ _).1];simp[Act.put,h.tmps]
 have hdf:A.defers=[]:=by rw[←hA,(putRows_size _ _ _).2];rfl
 have hat:∀i r,rs[i]? =some r→A.tmps[1+i]? =some (.agg r.c.toArray):=fun i r hr=>by rw[←hA];exact putRows_at rs _ 1 i r hr (by simp[Act.put,h.tmps];omega)
 clear hA;refine wpList_buildSlice b3 26 141 rs.length _ b2 (RowV.cells rs).toArray ie _ Tryz.underlying26 hie z1 (by rw[z2];omega) (by rw[z2];omega) ?_ (wpList_plain c3 fun K hK=>?_)
 ·rw[z2]
  refine Eq.trans (congrArg _ ?_) (rows_fill rs _);apply List.ext_getElem?;intro k;simp only[List.map_toArray,List.map_map,List.getElem?_map,List.getElem?_zipIdx,Nat.zero_add];by_cases hk:k<rs.length
  ·obtain⟨x,hx⟩:∃x,rs[k]? =some x:=⟨_,List.getElem?_eq_getElem hk⟩
   have:=hat k x hx;rw[Nat.add_comm]at this;simp[hk,Act.eval,this];rw[List.getElem?_eq_getElem hk]at hx;rw[Option.some.inj hx]
  ·simp[hk]
 ·unfold Oper.wp
  rw[b1];have he:(Act.put A (some (rs.length+1)) (.slice (some ⟨w.heap.size,0,none⟩) rs.length rs.length)).eval (.tmp (rs.length+1))=.slice (some ⟨w.heap.size,0,none⟩) rs.length rs.length:=by
   simp[Act.eval,Act.put,hsz]
  rw[show(execOp _ oa).run Tryz.prog (w.alloc (.cells (RowV.cells rs).toArray 141))=.ok (.value (.slice (some ⟨w.heap.size,0,none⟩) rs.length rs.length)) (w.alloc (.cells (RowV.cells rs).toArray 141)) by unfold execOp;simp only[c2,he];simp,Oper.upon_value,c1];refine hK _ _ (wpList_nil (wp_ret ?_));refine bodyPost_ret (results_tmp h.res _ _ _) (by simp[Act.put,hdf]) ?_;exact⟨by simp[Act.put,hsz],rfl⟩
def opsF (fn:Func):List Oper:=match fn.body with
 |some (.seq _ (.seq (.region _ ops _) _))=>ops.toList
 |_=>[]
def rowOfO (o:Oper):RowV:=match o.op with
 |.build _ #[(_,.const (.int _ k)),(_,.const (.int _ f)),(_,.const (.int _ t)),(_,.const (.int _ a)),(_,.const (.int _ b))]=>⟨k,f,t,a,b⟩
 |_=>⟨0,0,0,0,0⟩
def zK (fn:Func):List RowV:=(opsF fn).dropLast.dropLast.map rowOfO
def rowOk (r:RowV):Bool:=decide (0≤r.k∧r.k≤9∧0≤r.f∧r.f≤r.t∧r.t≤1114111∧0≤r.a∧r.a≤1114111∧0≤r.b∧r.b≤1114111)
def headF (fn:Func):Nat×Nat×Array Oper:=match fn.body with
 |some (.seq (.region i os _) (.seq (.region j _ _) _))=>(i,j,os)
 |_=>(0,0,#[])
def atF (l:List Oper)(k:Nat):Oper:=(l[k]?).getD default
theorem xA {fn:Func}(hr:fn.results=#[.tmp 0])(ht:fn.ntmps=(zK fn).length+2)
 (hb:fn.body=some (.seq (.region (headF fn).1 #[atF (headF fn).2.2.toList 0] false) (.seq (.region (headF fn).2.1 ((opsF fn).dropLast.dropLast++[atF (opsF fn) (zK fn).length,atF (opsF fn) ((zK fn).length+1)]).toArray false) .ret)))
 (h0:opOf (atF (headF fn).2.2.toList 0)=(some 0,.assign (.const (.slice none 0 0)),none))(hl:(opsF fn).dropLast.dropLast.map opOf=opsOf 1 (zK fn))
 (h1:opOf (atF (opsF fn) (zK fn).length)=(some ((zK fn).length+1),.buildSlice 26 (zK fn).length ((List.range (zK fn).length).map fun i=>(i,Operand.tmp (i+1))).toArray,none))
 (h2:opOf (atF (opsF fn) ((zK fn).length+1))=(some 0,.assign (.tmp ((zK fn).length+1)),none)):RowsFn fn (zK fn):=
 ⟨hr,ht,_,_,_,_,_,_,hb,h0,hl,h1,h2⟩
theorem classes_fn:RowsFn Tryz.f25 (zK Tryz.f25):=xA rfl (by kernel_rfl) (by kernel_rfl) (by kernel_rfl) (by kernel_rfl) (by kernel_rfl) (by kernel_rfl)
theorem classes_ok:((zK Tryz.f25).all rowOk,decide (0<(zK Tryz.f25).length),decide ((zK Tryz.f25).length≤200))=(true,true,true):=by kernel_rfl
theorem pairs_fn:RowsFn Tryz.f26 (zK Tryz.f26):=xA rfl (by kernel_rfl) (by kernel_rfl) (by kernel_rfl) (by kernel_rfl) (by kernel_rfl) (by kernel_rfl)
theorem pairs_ok:((zK Tryz.f26).all rowOk,decide (0<(zK Tryz.f26).length),decide ((zK Tryz.f26).length≤200))=(true,true,true):=by kernel_rfl
theorem outs_fn:RowsFn Tryz.f27 (zK Tryz.f27):=xA rfl (by kernel_rfl) (by kernel_rfl) (by kernel_rfl) (by kernel_rfl) (by kernel_rfl) (by kernel_rfl)
theorem outs_ok:((zK Tryz.f27).all rowOk,decide (0<(zK Tryz.f27).length),decide ((zK Tryz.f27).length≤200))=(true,true,true):=by kernel_rfl
theorem breaks_fn:RowsFn Tryz.f28 (zK Tryz.f28):=xA rfl (by kernel_rfl) (by kernel_rfl) (by kernel_rfl) (by kernel_rfl) (by kernel_rfl) (by kernel_rfl)
theorem breaks_ok:((zK Tryz.f28).all rowOk,decide (0<(zK Tryz.f28).length),decide ((zK Tryz.f28).length≤200))=(true,true,true):=by kernel_rfl
theorem picts_fn:RowsFn Tryz.f29 (zK Tryz.f29):=xA rfl (by kernel_rfl) (by kernel_rfl) (by kernel_rfl) (by kernel_rfl) (by kernel_rfl) (by kernel_rfl)
theorem picts_ok:((zK Tryz.f29).all rowOk,decide (0<(zK Tryz.f29).length),decide ((zK Tryz.f29).length≤200))=(true,true,true):=by kernel_rfl
theorem conjs_fn:RowsFn Tryz.f30 (zK Tryz.f30):=xA rfl (by kernel_rfl) (by kernel_rfl) (by kernel_rfl) (by kernel_rfl) (by kernel_rfl) (by kernel_rfl)
theorem conjs_ok:((zK Tryz.f30).all rowOk,decide (0<(zK Tryz.f30).length),decide ((zK Tryz.f30).length≤200))=(true,true,true):=by kernel_rfl
theorem wides_fn:RowsFn Tryz.f31 (zK Tryz.f31):=xA rfl (by kernel_rfl) (by kernel_rfl) (by kernel_rfl) (by kernel_rfl) (by kernel_rfl) (by kernel_rfl)
theorem wides_ok:((zK Tryz.f31).all rowOk,decide (0<(zK Tryz.f31).length),decide ((zK Tryz.f31).length≤200))=(true,true,true):=by kernel_rfl
theorem letters_fn:RowsFn Tryz.f32 (zK Tryz.f32):=xA rfl (by kernel_rfl) (by kernel_rfl) (by kernel_rfl) (by kernel_rfl) (by kernel_rfl) (by kernel_rfl)
theorem letters_ok:((zK Tryz.f32).all rowOk,decide (0<(zK Tryz.f32).length),decide ((zK Tryz.f32).length≤200))=(true,true,true):=by kernel_rfl
theorem xB {f:FuncId}{fn:Func}(hf:Tryz.prog.funcs[f]? =some fn)(h:RowsFn fn (zK fn))(hk:((zK fn).all rowOk,decide (0<(zK fn).length),decide ((zK fn).length≤200))=(true,true,true))(w:World):
 Calls Tryz.prog f #[] w fun en w'=>∃A n,en=.returned (.slice A n n)∧Sl w' (From w.heap.size) 5 A n n (RowV.cells (zK fn))∧n≤200∧Kp w w':=by
 simp only[Prod.mk.injEq,decide_eq_true_eq]at hk;refine(rows_calls f fn hf _ hk.2.1 (by omega) h w).mono ?_;rintro en w' ⟨rfl,rfl⟩;exact⟨_,_,rfl,Sl.new w (RowV.cells (zK fn)).toArray _ 5 _ le_ (by rw[List.size_toArray,RowV.cells_len]) (by omega),hk.2.2,(Kp.refl w).alloc _⟩
noncomputable def rowsM:List RowV:=((((((zK Tryz.f25++zK Tryz.f26)++zK Tryz.f27)++zK Tryz.f28)++zK Tryz.f29)++zK Tryz.f30)++zK Tryz.f31)++zK Tryz.f32
theorem rowsM_ok:∀r∈rowsM,rowOk r=true:=by
 have h:=And.intro (Prod.mk.inj classes_ok).1 (And.intro (Prod.mk.inj pairs_ok).1 (And.intro (Prod.mk.inj outs_ok).1 (And.intro (Prod.mk.inj breaks_ok).1 (And.intro (Prod.mk.inj picts_ok).1 (And.intro (Prod.mk.inj conjs_ok).1 (And.intro (Prod.mk.inj wides_ok).1 (Prod.mk.inj letters_ok).1))))));simp only[List.all_eq_true]at h;intro r hr;simp only[rowsM,List.mem_append]at hr;rcases hr with((((((hr|hr)|hr)|hr)|hr)|hr)|hr)|hr
 ·exact h.1 r hr
 ·exact h.2.1 r hr
 ·exact h.2.2.1 r hr
 ·exact h.2.2.2.1 r hr
 ·exact h.2.2.2.2.1 r hr
 ·exact h.2.2.2.2.2.1 r hr
 ·exact h.2.2.2.2.2.2.1 r hr
 ·exact h.2.2.2.2.2.2.2 r hr
theorem rows_any (w:World):Calls Tryz.prog 6 #[] w fun en w'=>∃A n c,en=.returned (.slice A n c)∧Sl w' (From w.heap.size) 5 A n c (RowV.cells rowsM)∧n≤1600∧Kp w w':=by
 have h0:=fun w=>xB Tryz.func25 classes_fn classes_ok w
 have h1:=fun w=>xB Tryz.func26 pairs_fn pairs_ok w
 have h2:=fun w=>xB Tryz.func27 outs_fn outs_ok w
 have h3:=fun w=>xB Tryz.func28 breaks_fn breaks_ok w
 have h4:=fun w=>xB Tryz.func29 picts_fn picts_ok w
 have h5:=fun w=>xB Tryz.func30 conjs_fn conjs_ok w
 have h6:=fun w=>xB Tryz.func31 wides_fn wides_ok w
 have h7:=fun w=>xB Tryz.func32 letters_fn letters_ok w
 unfold rowsM;generalize zK Tryz.f25=r0 at *;generalize zK Tryz.f26=r1 at *;generalize zK Tryz.f27=r2 at *;generalize zK Tryz.f28=r3 at *;generalize zK Tryz.f29=r4 at *;generalize zK Tryz.f30=r5 at *;generalize zK Tryz.f31=r6 at *;generalize zK Tryz.f32=r7 at *;obtain⟨H0,H1,H2,H3,H4,H5,H6,H7⟩:=hid8 h0 h1 h2 h3 h4 h5 h6 h7;clear h0 h1 h2 h3 h4 h5 h6 h7;go_enter Tryz.func6,Tryz.ntmps6;go_upto_region 2 with fail;go_upto_region 3 with(first|(go_at_call 25;refine(H0.out _).mono ?_;rintro e w0a ⟨B0,m0,rfl,hs0,hm0,k0⟩;have hz0:w.heap.size≤w0a.heap.size:=Nat.le_trans (Kp.refl w).size k0.size)|(at_builtin;refine zA _ rfl _ _ _ rfl w.heap.size 141 _ 5 40 Tryz.underlying26 vN rfl (by omega) none 0 0 [] rfl (Own.kp (Own.nil w w.heap.size 141 5) k0) _ _ m0 m0 (RowV.cells r0) rfl hs0 (RowV.cells_one _) (by simp only[maxLen];omega) (by omega) (by omega) ?_;intro A0 c0 w0 ho0 hg0 hat0));obtain⟨n0,hn0⟩:∃x,x=m0:=⟨_,rfl⟩;have HK0:=hid (Kp.grown ((Kp.refl w).trans k0) hg0 (fun q hq=>by cases hq));rw[Nat.zero_add,←hn0,List.nil_append]at ho0;have HO0:=hid ho0;have hb0:n0≤200:=by omega
 rw[←hn0];clear hn0 ho0 hg0 hat0 hs0 k0 hm0 hz0;go_upto_region 4 with(first|(go_at_call 26;refine(H1.out _).mono ?_;rintro e w1a ⟨B1,m1,rfl,hs1,hm1,k1⟩;have hz1:w.heap.size≤w1a.heap.size:=Nat.le_trans (HK0.out).size k1.size)|(at_builtin;refine zA _ rfl _ _ _ rfl w.heap.size 141 _ 5 40 Tryz.underlying26 vN rfl (by omega) A0 n0 c0 (RowV.cells r0) rfl (Own.kp (HO0.out) k1) _ _ m1 m1 (RowV.cells r1) rfl hs1 (RowV.cells_one _) (by simp only[maxLen];omega) (by omega) (by omega) ?_;intro A1 c1 w1 ho1 hg1 hat1));obtain⟨n1,hn1⟩:∃x,x=n0+m1:=⟨_,rfl⟩;obtain⟨HK1,HO1⟩:=hid2 (Kp.grown ((HK0.out).trans k1) hg1 (fun q hq=>(HO0.out.lt q hq).1)) ho1;rw[←hn1,←RowV.cells_app]at HO1;have hb1:n1≤400:=by omega
 rw[←hn1];clear hn1 ho1 hg1 hat1 hs1 k1 hm1 hz1;go_upto_region 5 with(first|(go_at_call 27;refine(H2.out _).mono ?_;rintro e w2a ⟨B2,m2,rfl,hs2,hm2,k2⟩;have hz2:w.heap.size≤w2a.heap.size:=Nat.le_trans (HK1.out).size k2.size)|(at_builtin;refine zA _ rfl _ _ _ rfl w.heap.size 141 _ 5 40 Tryz.underlying26 vN rfl (by omega) A1 n1 c1 (RowV.cells (r0++r1)) rfl (Own.kp (HO1.out) k2) _ _ m2 m2 (RowV.cells r2) rfl hs2 (RowV.cells_one _) (by simp only[maxLen];omega) (by omega) (by omega) ?_;intro A2 c2 w2 ho2 hg2 hat2));obtain⟨n2,hn2⟩:∃x,x=n1+m2:=⟨_,rfl⟩;obtain⟨HK2,HO2⟩:=hid2 (Kp.grown ((HK1.out).trans k2) hg2 (fun q hq=>(HO1.out.lt q hq).1)) ho2;rw[←hn2,←RowV.cells_app]at HO2;have hb2:n2≤600:=by omega
 rw[←hn2];clear hn2 ho2 hg2 hat2 hs2 k2 hm2 hz2;go_upto_region 6 with(first|(go_at_call 28;refine(H3.out _).mono ?_;rintro e w3a ⟨B3,m3,rfl,hs3,hm3,k3⟩;have hz3:w.heap.size≤w3a.heap.size:=Nat.le_trans (HK2.out).size k3.size)|(at_builtin;refine zA _ rfl _ _ _ rfl w.heap.size 141 _ 5 40 Tryz.underlying26 vN rfl (by omega) A2 n2 c2 (RowV.cells ((r0++r1)++r2)) rfl (Own.kp (HO2.out) k3) _ _ m3 m3 (RowV.cells r3) rfl hs3 (RowV.cells_one _) (by simp only[maxLen];omega) (by omega) (by omega) ?_;intro A3 c3 w3 ho3 hg3 hat3));obtain⟨n3,hn3⟩:∃x,x=n2+m3:=⟨_,rfl⟩;obtain⟨HK3,HO3⟩:=hid2 (Kp.grown ((HK2.out).trans k3) hg3 (fun q hq=>(HO2.out.lt q hq).1)) ho3;rw[←hn3,←RowV.cells_app]at HO3;have hb3:n3≤800:=by omega
 rw[←hn3];clear hn3 ho3 hg3 hat3 hs3 k3 hm3 hz3;go_upto_region 7 with(first|(go_at_call 29;refine(H4.out _).mono ?_;rintro e w4a ⟨B4,m4,rfl,hs4,hm4,k4⟩;have hz4:w.heap.size≤w4a.heap.size:=Nat.le_trans (HK3.out).size k4.size)|(at_builtin;refine zA _ rfl _ _ _ rfl w.heap.size 141 _ 5 40 Tryz.underlying26 vN rfl (by omega) A3 n3 c3 (RowV.cells (((r0++r1)++r2)++r3)) rfl (Own.kp (HO3.out) k4) _ _ m4 m4 (RowV.cells r4) rfl hs4 (RowV.cells_one _) (by simp only[maxLen];omega) (by omega) (by omega) ?_;intro A4 c4 w4 ho4 hg4 hat4));obtain⟨n4,hn4⟩:∃x,x=n3+m4:=⟨_,rfl⟩;obtain⟨HK4,HO4⟩:=hid2 (Kp.grown ((HK3.out).trans k4) hg4 (fun q hq=>(HO3.out.lt q hq).1)) ho4;rw[←hn4,←RowV.cells_app]at HO4;have hb4:n4≤1000:=by omega
 rw[←hn4];clear hn4 ho4 hg4 hat4 hs4 k4 hm4 hz4;go_upto_region 8 with(first|(go_at_call 30;refine(H5.out _).mono ?_;rintro e w5a ⟨B5,m5,rfl,hs5,hm5,k5⟩;have hz5:w.heap.size≤w5a.heap.size:=Nat.le_trans (HK4.out).size k5.size)|(at_builtin;refine zA _ rfl _ _ _ rfl w.heap.size 141 _ 5 40 Tryz.underlying26 vN rfl (by omega) A4 n4 c4 (RowV.cells ((((r0++r1)++r2)++r3)++r4)) rfl (Own.kp (HO4.out) k5) _ _ m5 m5 (RowV.cells r5) rfl hs5 (RowV.cells_one _) (by simp only[maxLen];omega) (by omega) (by omega) ?_;intro A5 c5 w5 ho5 hg5 hat5));obtain⟨n5,hn5⟩:∃x,x=n4+m5:=⟨_,rfl⟩;obtain⟨HK5,HO5⟩:=hid2 (Kp.grown ((HK4.out).trans k5) hg5 (fun q hq=>(HO4.out.lt q hq).1)) ho5;rw[←hn5,←RowV.cells_app]at HO5;have hb5:n5≤1200:=by omega
 rw[←hn5];clear hn5 ho5 hg5 hat5 hs5 k5 hm5 hz5;go_upto_region 9 with(first|(go_at_call 31;refine(H6.out _).mono ?_;rintro e w6a ⟨B6,m6,rfl,hs6,hm6,k6⟩;have hz6:w.heap.size≤w6a.heap.size:=Nat.le_trans (HK5.out).size k6.size)|(at_builtin;refine zA _ rfl _ _ _ rfl w.heap.size 141 _ 5 40 Tryz.underlying26 vN rfl (by omega) A5 n5 c5 (RowV.cells (((((r0++r1)++r2)++r3)++r4)++r5)) rfl (Own.kp (HO5.out) k6) _ _ m6 m6 (RowV.cells r6) rfl hs6 (RowV.cells_one _) (by simp only[maxLen];omega) (by omega) (by omega) ?_;intro A6 c6 w6 ho6 hg6 hat6));obtain⟨n6,hn6⟩:∃x,x=n5+m6:=⟨_,rfl⟩;obtain⟨HK6,HO6⟩:=hid2 (Kp.grown ((HK5.out).trans k6) hg6 (fun q hq=>(HO5.out.lt q hq).1)) ho6;rw[←hn6,←RowV.cells_app]at HO6;have hb6:n6≤1400:=by omega
 rw[←hn6];clear hn6 ho6 hg6 hat6 hs6 k6 hm6 hz6;go_wp2_with (first|(go_at_call 32;refine(H7.out _).mono ?_;rintro e w7a ⟨B7,m7,rfl,hs7,hm7,k7⟩;have hz7:w.heap.size≤w7a.heap.size:=Nat.le_trans (HK6.out).size k7.size)|(at_builtin;refine zA _ rfl _ _ _ rfl w.heap.size 141 _ 5 40 Tryz.underlying26 vN rfl (by omega) A6 n6 c6 (RowV.cells ((((((r0++r1)++r2)++r3)++r4)++r5)++r6)) rfl (Own.kp (HO6.out) k7) _ _ m7 m7 (RowV.cells r7) rfl hs7 (RowV.cells_one _) (by simp only[maxLen];omega) (by omega) (by omega) ?_;intro A7 c7 w7 ho7 hg7 hat7));obtain⟨n7,hn7⟩:∃x,x=n6+m7:=⟨_,rfl⟩;obtain⟨HK7,HO7⟩:=hid2 (Kp.grown ((HK6.out).trans k7) hg7 (fun q hq=>(HO6.out.lt q hq).1)) ho7;rw[←hn7,←RowV.cells_app]at HO7;have hb7:n7≤1600:=by omega
 rw[←hn7];clear hn7 ho7 hg7 hat7 hs7 k7 hm7 hz7;go_ret;exact⟨A7,n7,c7,rfl,HO7.out.sl,hb7,HK7.out⟩
end Go.Proofs.YtociefdcccokjaaGreat

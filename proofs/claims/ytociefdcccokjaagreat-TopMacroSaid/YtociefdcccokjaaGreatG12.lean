/-
  Lemmas for TopMacro. Conditions: each states its own.
-/
import Derived.Laws.OwnMore
import Derived.Test.YtociefdcccokjaaGreatG11
set_option maxHeartbeats 6400000
set_option maxRecDepth 100000
namespace Go.Proofs.YtociefdcccokjaaGreat
open Go.RowKit Go.Lib
theorem move_left {x z y:List Int}{a:Nat}(h:a≤x.length):putL (x++z++y) (a+z.length) (x.drop a)=x.take a++((x++z).take (a+z.length)).drop a++(x.drop a++y):=by
 unfold putL;have e1:(x++z++y).take (a+z.length)=x.take a++((x++z).take (a+z.length)).drop a:=by
  rw[List.take_append_of_le_length (by rw[List.length_append];omega)];have e2:x.take a=((x++z).take (a+z.length)).take a:=by rw[List.take_take,Nat.min_eq_left (by omega),List.take_append_of_le_length h]
  rw[e2,List.take_append_drop]
 have e3:(x++z++y).drop (a+z.length+(x.drop a).length)=y:=by
  rw[List.length_drop,show a+z.length+(x.length - a)=(x++z).length by rw[List.length_append];omega,List.drop_left]
 rw[e1,e3];simp only[List.append_assoc]
theorem move_right {x z y:List Int}{n:Nat}(h:n≤y.length):putL (x++z++y) x.length (y.take n)=(x++y.take n)++(z++y.take n).drop n++y.drop n:=by
 unfold putL;have e0:(x++z++y).take x.length=x:=by rw[List.append_assoc,List.take_left]
 have e1:(x++z++y).drop (x.length+(y.take n).length)=(z++y).drop n:=by rw[List.append_assoc,←List.drop_drop,List.drop_left,List.length_take,Nat.min_eq_left h]
 rw[e0,e1];have e:z++y=(z++y.take n)++y.drop n:=by rw[List.append_assoc,List.take_append_drop]
 rw[e,List.drop_append_of_le_length (by rw[List.length_append,List.length_take];omega)];simp only[List.append_assoc]
theorem Mu.of_drew {S:Nat→Prop}{w w':World}(h:Mu S w.drew w'):Mu S w w':=⟨h.os,h.tape,h.output,h.size,h.block⟩
def GR (G R k:Nat):Prop:=k=G∨k=R
theorem mu_gap2 {G R i j:Nat}{w w2:World}{u v:Value}(h:Mu (fun k=>k=R) w w2):Mu (GR G R) w ((w2.setCell ⟨G,i,none⟩ u).setCell ⟨G,j,none⟩ v):=
 ((Mu.weak (S':=GR G R) h (fun _ _ h=>Or.inr h)).setCell (p:=⟨G,i,none⟩) (Or.inl rfl) _).setCell (p:=⟨G,j,none⟩) (Or.inl rfl) _
def Moved (G R a n:Nat)(l:List Int)(w:World)(e:Ending)(w':World):Prop:=e=.returned (.tuple #[])∧∃z',z'.length=n∧GapP w' G R (l.take a) z' (l.drop a)∧Mu (GR G R) w w'
theorem gapMove_any (G R a:Nat)(x z y:List Int)(w:World)(h:GapP w G R x z y)(ha:a≤x.length+y.length):
 Calls Tryz.prog 203 #[.pointer (some ⟨G,0,none⟩),.int .i64 (a:Int)] w (Moved G R a z.length (x++y) w):=by
 have HG:=hid h;obtain⟨f,hf⟩:∃f,f=x.length:=⟨_,rfl⟩;obtain⟨t,ht⟩:∃t,t=x.length+z.length:=⟨_,rfl⟩;obtain⟨N,hN⟩:∃N,N=x.length+z.length+y.length:=⟨_,rfl⟩;have b1:Bx w G #[.slice (some ⟨R,0,none⟩) N N,.int .i64 (f:Int),.int .i64 (t:Int)] 216:=by rw[hf,ht,hN];exact h.1
 have r1:Ru w (fun k=>k=R) (some ⟨R,0,none⟩) N N (x++z++y):=by rw[hN];exact h.row
 have br:=h.2.1;have hne:=h.2.2.1;have hNb:N≤1048576:=by rw[hN];exact h.2.2.2
 clear h;by_cases c1:a<f
 ·obtain⟨n,hn⟩:∃n,n=f - a:=⟨_,rfl⟩
  have e1:(f:Int) - (a:Int)=(n:Int):=by omega
  obtain⟨s,hs⟩:∃s,s=t - n:=⟨_,rfl⟩;have e2:(t:Int) - (n:Int)=(s:Int):=by omega
  have q1:(a:Int)<(f:Int):=by omega
  have hsN:¬(N=s):=by omega
  have haN:¬(N=a):=by omega
  have hst:s≤t:=by omega
  have htN:t≤N:=by omega
  have haf:a≤f:=by omega
  have hfN:f≤N:=by omega
  have hsa:s=a+z.length:=by omega
  have hts:t - s=n:=by omega
  have hfa:f - a=n:=by omega
  have hs1:=((r1.take (k:=f) (by omega)).drop (k:=a) (by omega)).any;rw[if_neg haN,show(some (⟨R,0,none⟩:Addr)).map (·.add a)=some ⟨R,a,none⟩from by simp[Addr.add];omega]at hs1;have hx:((x++z++y).take f).drop a=x.drop a:=by rw[hf,List.append_assoc,List.take_left]
  rw[hx]at hs1;obtain⟨HX,HFIT,HTS,HSA,HF,HT,HN,HFA,HSN⟩:=hid9 (move_left (x:=x) (z:=z) (y:=y) (a:=a) (by omega)) (show s+(f - a)≤(x++z++y).length by simp only[List.length_append];omega) hts hsa hf ht hN hfa hs;have HND:=hid hn;clear hx hts hsa hf ht hN hfa r1 hs hn;obtain⟨HS1,HB1,HBR⟩:=hid3 hs1 b1 br;obtain⟨p0,p1,p2,_,_,_⟩:=b1.three;have q1':=dT q1;go_enter Tryz.func203,Tryz.ntmps203;go_upto_region 2 with fail;have hws:IntKind.i64.wrap (s:Int)=(s:Int):=zV (by omega) (by omega);go_still_tail 25,(by kernel_rfl);change wpList _ _ _ _ _ w.drew;go_upto_region 3 with(refine zW rfl _ _ rfl (Bx.drew HBR.out) (some ⟨R,s,none⟩) s (t - s) (N - s) (some ⟨R,a,none⟩) (f - a) (N - a) (x.drop a) rfl rfl (Sl.drew HS1.out) (by have:=HTS.out;have:=HFA.out;omega) (fun _=>rfl) HFIT.out ?_;intro w2 br2 m2);have b2:=Mu.bx m2 (Bx.drew HB1.out) hne;obtain⟨MM,HBR2,HB2⟩:=hid3 m2.of_drew br2 b2;clear p0 p1 p2 b1 br hs1 hws br2 m2;obtain⟨p0,p1,p2,_,_,_⟩:=b2.three;go_wp2_with fail;go_end0;have hax:a+z.length≤x.length+z.length:=by have:=HF.out;omega
  refine⟨rfl,((x++z).take (a+z.length)).drop a,?_,⟨?_,?_,hne,?_⟩,?_⟩
  ·rw[List.length_drop,List.length_take,List.length_append];omega
  ·have h3:=(HB2.out.set 1 (.int .i64 (a:Int))).set 2 (.int .i64 (s:Int))
   have l1:((x++y).take a).length=a:=by rw[List.length_take,List.length_append];omega
   have l2:(((x++z).take (a+z.length)).drop a).length=z.length:=by rw[List.length_drop,List.length_take,List.length_append];omega
   have l3:((x++y).drop a).length=x.length+y.length - a:=by rw[List.length_drop,List.length_append]
   rw[l1,l2,l3,←HSA.out,show s+(x.length+y.length - a)=N by have:=HSA.out;have:=HF.out;have:=HN.out;omega];exact h3
  ·have h3:Bx ((w2.setCell ⟨G,1,none⟩ (.int .i64 (a:Int))).setCell ⟨G,2,none⟩ (.int .i64 (s:Int))) R (R32 (putL (x++z++y) s (x.drop a))).toArray 21:=(HBR2.out.far (Ne.symm hne) _).far (Ne.symm hne) _
   have hp:putL (x++z++y) s (x.drop a)=x.take a++((x++z).take (a+z.length)).drop a++(x.drop a++y):=by rw[HSA.out];exact HX.out
   rw[hp]at h3;have e1:(x++y).take a=x.take a:=List.take_append_of_le_length (by have:=HF.out;omega);have e2:(x++y).drop a=x.drop a++y:=List.drop_append_of_le_length (by have:=HF.out;omega);rw[e1,e2];exact h3
  ·simp only[List.length_append,List.length_take,List.length_drop];have:=HN.out;omega
  ·exact mu_gap2 MM.out
 ·by_cases c2:f<a
  ·obtain⟨n,hn⟩:∃n,n=a - f:=⟨_,rfl⟩
   have e1:(a:Int) - (f:Int)=(n:Int):=by omega
   obtain⟨s,hs⟩:∃s,s=t+n:=⟨_,rfl⟩;have e2:(t:Int)+(n:Int)=(s:Int):=by omega
   have q1:¬((a:Int)<(f:Int)):=by omega
   have q2:(a:Int)>(f:Int):=by omega
   have hfN:¬(N=f):=by omega
   have htN:¬(N=t):=by omega
   have hts:t≤s:=by omega
   have hsN:s≤N:=by omega
   have hfa:f≤a:=by omega
   have haN:a≤N:=by omega
   have hst:s - t=n:=by omega
   have haf:a - f=n:=by omega
   have hs1:=((r1.take (k:=s) (by omega)).drop (k:=t) (by omega)).any;rw[if_neg htN,show(some (⟨R,0,none⟩:Addr)).map (·.add t)=some ⟨R,t,none⟩from by simp[Addr.add];omega]at hs1;have hx:((x++z++y).take s).drop t=y.take n:=by
    rw[List.drop_take,show s - t=n by omega,ht,show x.length+z.length=(x++z).length by rw[List.length_append],List.drop_left]
   rw[hx]at hs1;obtain⟨HX,HFIT,HST,HF,HT,HN,HAF,HSN,HND⟩:=hid9 (move_right (x:=x) (z:=z) (y:=y) (n:=n) (by omega)) (show f+(s - t)≤(x++z++y).length by simp only[List.length_append];omega) hst hf ht hN haf hs hn;clear hx hst hf ht hN haf r1 hs hn;obtain⟨HS1,HB1,HBR⟩:=hid3 hs1 b1 br;obtain⟨p0,p1,p2,_,_,_⟩:=b1.three;have q1':=dF q1;have q2':=dT q2;go_enter Tryz.func203,Tryz.ntmps203;go_upto_region 6 with fail;have hws:IntKind.i64.wrap (s:Int)=(s:Int):=zV (by omega) (by omega);go_still_tail 25,(by kernel_rfl);change wpList _ _ _ _ _ w.drew;go_upto_region 7 with(refine zW rfl _ _ rfl (Bx.drew HBR.out) (some ⟨R,f,none⟩) f (a - f) (N - f) (some ⟨R,t,none⟩) (s - t) (N - t) (y.take n) rfl rfl (Sl.drew HS1.out) (by have:=HST.out;have:=HAF.out;omega) (fun _=>rfl) HFIT.out ?_;intro w2 br2 m2);have b2:=Mu.bx m2 (Bx.drew HB1.out) hne;obtain⟨MM,HBR2,HB2⟩:=hid3 m2.of_drew br2 b2;clear p0 p1 p2 b1 br hs1 hws br2 m2;obtain⟨p0,p1,p2,_,_,_⟩:=b2.three;go_wp2_with fail;go_end0;have hle:x.length≤a:=by have:=HF.out;omega
   have hny:n≤y.length:=by have:=HF.out;have:=HND.out;omega
   have e3:(x++y).take a=x++y.take n:=by rw[show a=x.length+n by have:=HF.out;have:=HND.out;omega,List.take_length_add_append]
   have e4:(x++y).drop a=y.drop n:=by rw[show a=x.length+n by have:=HF.out;have:=HND.out;omega,←List.drop_drop,List.drop_left]
   refine⟨rfl,(z++y.take n).drop n,?_,⟨?_,?_,hne,?_⟩,?_⟩
   ·rw[List.length_drop,List.length_append,List.length_take];omega
   ·have h3:=(HB2.out.set 1 (.int .i64 (a:Int))).set 2 (.int .i64 (s:Int))
    have l1:(x++y.take n).length=a:=by rw[List.length_append,List.length_take];have:=HF.out;have:=HND.out;omega
    have l2:((z++y.take n).drop n).length=z.length:=by rw[List.length_drop,List.length_append,List.length_take];omega
    have l3:(y.drop n).length=y.length - n:=List.length_drop;rw[e3,e4,l1,l2,l3,show a+z.length=s by have:=HF.out;have:=HND.out;have:=HT.out;have:=HSN.out;omega,show s+(y.length - n)=N by have:=HF.out;have:=HND.out;have:=HT.out;have:=HSN.out;have:=HN.out;omega];exact h3
   ·have h3:Bx ((w2.setCell ⟨G,1,none⟩ (.int .i64 (a:Int))).setCell ⟨G,2,none⟩ (.int .i64 (s:Int))) R (R32 (putL (x++z++y) f (y.take n))).toArray 21:=(HBR2.out.far (Ne.symm hne) _).far (Ne.symm hne) _
    have hp:putL (x++z++y) f (y.take n)=(x++y.take n)++(z++y.take n).drop n++y.drop n:=by rw[HF.out];exact HX.out
    rw[hp]at h3;rw[e3,e4];exact h3
   ·rw[e3,e4];simp only[List.length_append,List.length_take,List.length_drop];have:=HN.out;omega
   ·exact mu_gap2 MM.out
  ·obtain rfl:a=f:=by omega
   have q1:¬((a:Int)<(a:Int)):=by omega
   have q2:¬((a:Int)>(a:Int)):=by omega
   obtain⟨HF,HT,HN,HB1,HBR⟩:=hid5 hf ht hN b1 br;clear hf ht hN r1;obtain⟨p0,p1,p2,_,_,_⟩:=b1.three;have q1':=dF q1;have q2':=dF q2;go_enter Tryz.func203,Tryz.ntmps203;go_wp2_with fail;go_end0;have e3:(x++y).take a=x:=by rw[HF.out,List.take_left]
   have e4:(x++y).drop a=y:=by rw[HF.out,List.drop_left]
   refine⟨rfl,z,rfl,?_,Mu.refl _⟩;rw[e3,e4];exact HG.out
theorem run_makeR (k:Nat)(hk:k≤1048576)(w:World):(Instr.makeSlice 41 (.int .i64 (k:Int)) (.int .i64 (k:Int))).run Tryz.prog w=.ok (.slice (some ⟨w.heap.size,0,none⟩) k k) (w.alloc (.cells (R32 (List.replicate k 0)).toArray 21)):=by
 obtain⟨i,hi,hz⟩:=Option.map_eq_some_iff.1 yF;simp only[Prod.mk.injEq]at hz;obtain⟨h1,h2,h3⟩:=hz;have h:=run_make (P:=Tryz.prog) w 41 21 i (.int .i32 0) Tryz.underlying41 hi h1 .i64 .i64 k k (by omega) (by omega) (by rw[h3];omega) (by omega);rw[h,h2];simp only[Int.toNat_natCast,Nat.mul_one];have e:madeCells (Value.int IntKind.i32 0).cells k=(R32 (List.replicate k 0)).toArray:=by
  apply Array.ext'
  show(madeCells #[Value.int IntKind.i32 0] k).toList=_;rw[toList_madeCells_one];simp[R32]
 rw[e]
def RetGap (l:List Int)(w:World)(e:Ending)(w':World):Prop:=∃G R,e=.returned (.pointer (some ⟨G,0,none⟩))∧GapAt w' G R l∧w.heap.size≤G∧w.heap.size≤R∧Kp w w'
theorem gapNew_any (F:Nat→Prop)(A:Option Addr)(n c:Nat)(l:List Int)(w:World)(hl:Ru w F A n c l)(hn:n≤524288):
 Calls Tryz.prog 63 #[.slice A n c] w (RetGap l w):=by
 have hln:=hl.len;obtain⟨HL,HN⟩:=hid2 hl hln;obtain⟨k,hk⟩:∃k,k=n+8:=⟨_,rfl⟩;have e1:(n:Int)+8=(k:Int):=by omega
 have hmk:=run_makeR k (by omega);have hkb:k≤1048576:=by omega
 have hnk:n≤k:=by omega
 have HK:=hid hk;clear hl hln hk;obtain⟨Z,hZ⟩:∃Z,Z=(R32 (List.replicate k 0)).toArray:=⟨_,rfl⟩;rw[←hZ]at hmk;have HZ:=hid hZ;clear hZ;go_enter Tryz.func63,Tryz.ntmps63;go_upto_region 2 with fail;have br:=(Bx.new w Z 21).alloc (.cells #[.slice (some ⟨w.heap.size,0,none⟩) k k,.int .i64 0,.int .i64 0] 216);have bg:=Bx.new (w.alloc (.cells Z 21)) #[.slice (some ⟨w.heap.size,0,none⟩) k k,.int .i64 0,.int .i64 0] 216;have k1:=((Kp.refl w).alloc (.cells Z 21)).alloc (.cells #[.slice (some ⟨w.heap.size,0,none⟩) k k,.int .i64 0,.int .i64 0] 216);rw[show(w.alloc (.cells Z 21)).heap.size=w.heap.size+1 by simp]at bg;generalize((w.alloc (.cells Z 21)).alloc (.cells #[.slice (some ⟨w.heap.size,0,none⟩) k k,.int .i64 0,.int .i64 0] 216))=w1 at *;rw[HZ.out]at br;obtain⟨p0,p1,p2,_,_,_⟩:=bg.three;obtain⟨HBG,HBR⟩:=hid2 bg br;have hs1:=HL.out.kp k1;have HS1:=hid hs1;clear bg br hs1;go_upto_region 3 with(refine zW rfl _ _ rfl HBR.out (some ⟨w.heap.size,0,none⟩) 0 k k A n c l rfl rfl HS1.out hnk (fun _=>rfl) (by simp;omega) ?_;intro w2 br2 m2);have b2:=Mu.bx m2 HBG.out (by simp);have k2:Kp w w2:=Mu.kp m2 k1 (fun b h=>by omega);obtain⟨HBR2,HB2⟩:=hid2 br2 b2;clear p0 p1 p2 m2 br2 HBR HBG;obtain⟨p0,p1,p2,_,_,_⟩:=b2.three;go_wp2_with fail;go_ret;refine⟨w.heap.size+1,w.heap.size,rfl,⟨l,List.replicate 8 0,[],by simp,?_,?_,by omega,?_⟩,by omega,le_,(k2.setCell (p:=⟨w.heap.size+1,1,none⟩) (Nat.le_succ _) _).setCell (p:=⟨w.heap.size+1,2,none⟩) (Nat.le_succ _) _⟩
 ·have h3:=(HB2.out.set 1 (.int .i64 (n:Int))).set 2 (.int .i64 (k:Int))
  rw[List.length_replicate,List.length_nil,Nat.add_zero,HN.out,←HK.out];exact h3
 ·have h3:Bx ((w2.setCell ⟨w.heap.size+1,1,none⟩ (.int .i64 (n:Int))).setCell ⟨w.heap.size+1,2,none⟩ (.int .i64 (k:Int))) w.heap.size (R32 (putL (List.replicate k 0) 0 l)).toArray 21:=(HBR2.out.far (by simp) _).far (by simp) _
  have hp:putL (List.replicate k 0) 0 l=l++List.replicate 8 0++[]:=by
   unfold putL;rw[List.take_zero,List.nil_append,Nat.zero_add,List.drop_replicate,HN.out,HK.out,Nat.add_sub_cancel_left,List.append_nil]
  rw[hp]at h3;exact h3
 ·rw[List.length_replicate,List.length_nil,HN.out];omega
theorem room_row {x y:List Int}{k:Nat}(h:x.length+y.length≤k):putL (putL (List.replicate k 0) 0 x) (k - y.length) y=x++List.replicate (k - x.length - y.length) 0++y:=by
 have e:putL (List.replicate k (0:Int)) 0 x=x++List.replicate (k - x.length) 0:=by
  unfold putL;rw[List.take_zero,List.nil_append,Nat.zero_add,List.drop_replicate]
 have hk:k - y.length=x.length+(k - x.length - y.length):=by omega
 rw[e];unfold putL;rw[hk,List.take_length_add_append,List.take_replicate,Nat.min_eq_left (by omega),show x.length+(k - x.length - y.length)+y.length=x.length+(k - x.length) by omega,List.drop_of_length_le (by simp),List.append_nil]
theorem ru_zero {w:World}{F:Nat→Prop}{A:Option Addr}{m c:Nat}(hm:m=0)(hc:m≤c)(hcap:c≤maxLen):Ru w F A m c []:=⟨hc,hcap,by rw[hm];rfl,fun h=>by omega⟩
def Roomed (G R n:Nat)(x y:List Int)(w:World)(e:Ending)(w':World):Prop:=e=.returned (.tuple #[])∧∃R' z',n≤z'.length∧(R'=R∨w.heap.size≤R')∧GapP w' G R' x z' y∧Mu (GR G R) w w'
theorem gapRoom_any (G R n:Nat)(x z y:List Int)(w:World)(h:GapP w G R x z y)(hb:2*(x.length+y.length)+3*n≤1048576):
 Calls Tryz.prog 204 #[.pointer (some ⟨G,0,none⟩),.int .i64 (n:Int)] w (Roomed G R n x y w):=by
 have HG:=hid h;obtain⟨f,hf⟩:∃f,f=x.length:=⟨_,rfl⟩;obtain⟨t,ht⟩:∃t,t=x.length+z.length:=⟨_,rfl⟩;obtain⟨N,hN⟩:∃N,N=x.length+z.length+y.length:=⟨_,rfl⟩;obtain⟨v,hv⟩:∃v,v=z.length:=⟨_,rfl⟩;have b1:Bx w G #[.slice (some ⟨R,0,none⟩) N N,.int .i64 (f:Int),.int .i64 (t:Int)] 216:=by rw[hf,ht,hN];exact h.1
 have r1:Ru w (fun k=>k=R) (some ⟨R,0,none⟩) N N (x++z++y):=by rw[hN];exact h.row
 have hne:=h.2.2.1;have hne':R≠w.heap.size:=by have:=h.2.1.lt;omega
 have hNb:N≤1048576:=by rw[hN];exact h.2.2.2
 have hGlt:=b1.lt;have e0:(t:Int) - (f:Int)=(v:Int):=by omega
 have hvb:v≤1048576:=by omega
 clear h;by_cases c1:n≤v
 ·have c1':wrap64 (v:Int)≥(n:Int):=by rw[IntWalk.wrap64_in _ (by omega)];omega
  have q1:=dT c1';have HV:=hid hv;obtain⟨p0,p1,p2,_,_,_⟩:=b1.three;clear hf ht hN hv r1 b1;go_enter Tryz.func204,Tryz.ntmps204;go_upto_region 0 with fail;go_quiet (fail);go_wp2_with fail;go_end0;exact⟨rfl,R,z,by rw[←HV.out];exact c1,.inl rfl,HG.out.kp ((Kp.refl w).drewN _),.of_kp ((Kp.refl w).drewN _)⟩
 ·have c1':¬(wrap64 (v:Int)≥(n:Int)):=by rw[IntWalk.wrap64_in _ (by omega)];omega
  have q1:=dF c1';obtain⟨K,hK⟩:∃K,K=2*N+n:=⟨_,rfl⟩;obtain⟨q,hq⟩:∃q,q=y.length:=⟨_,rfl⟩;obtain⟨s,hs⟩:∃s,s=K - q:=⟨_,rfl⟩;obtain⟨M,hM⟩:∃M,M=2*N:=⟨_,rfl⟩;have e1:(2:Int)*(N:Int)=(M:Int):=by omega
  have e1b:(M:Int)+(n:Int)=(K:Int):=by omega
  have hMK:M≤K:=by omega
  clear hM;have e2:(N:Int) - (t:Int)=(q:Int):=by omega
  have e3:(K:Int) - (q:Int)=(s:Int):=by omega
  have hKb:K≤1048576:=by omega
  have hmk:=run_makeR K hKb;have hsK:s≤K:=by omega
  have htN:t≤N:=by omega
  have hfN:f≤N:=by omega
  have hfK:f≤K:=by omega
  have hNt:N - t=q:=by omega
  have hKs:K - s=q:=by omega
  have hx0:(x++z++y).take f=x:=by rw[hf,List.append_assoc,List.take_left]
  have hy0:(x++z++y).drop t=y:=by rw[ht,show x.length+z.length=(x++z).length by rw[List.length_append],List.drop_left]
  obtain⟨HX0,HY0,HRR,HV,HF,HQ,HS,HKK,HNT⟩:=hid9 hx0 hy0 (room_row (x:=x) (y:=y) (k:=K) (by omega)) hv hf hq hs hK hNt;obtain⟨HKS,HR1,HB1,HNL⟩:=hid4 hKs r1 b1 (show N=x.length+v+y.length by omega);clear hf ht hN hv hK hq hs hx0 hy0 hNt hKs r1;obtain⟨Z,hZ⟩:∃Z,Z=(R32 (List.replicate K 0)).toArray:=⟨_,rfl⟩;rw[←hZ]at hmk;have HZ:=hid hZ;clear hZ;obtain⟨p0,p1,p2,_,_,_⟩:=b1.three;clear b1;go_enter Tryz.func204,Tryz.ntmps204;go_upto_region 0 with fail;go_quiet (fail);have kq:Kp w (w.drewN nq):=(Kp.refl w).drewN nq;obtain⟨HB2,HR2⟩:=hid2 (HB1.out.kp kq) (HR1.out.kp kq);have hsz:(w.drewN nq).heap.size=w.heap.size:=rfl;have HSZ:=hid hsz;clear p0 p1 p2 hsz HB1 HR1;generalize(w.drewN nq)=w1 at *;obtain⟨p0,p1,p2,_,_,_⟩:=HB2.out.three;go_upto_region 2 with fail;have k2:Kp w1 (w1.alloc (.cells Z 21)):=(Kp.refl w1).alloc _;have br:=Bx.new w1 Z 21;obtain⟨R2,hR2⟩:∃R2,R2=w1.heap.size:=⟨_,rfl⟩;have hlt1:=HB2.out.lt;have hGR2:G≠R2:=by omega
  have hwR2:w.heap.size≤R2:=by rw[hR2];exact kq.size
  have hne2:R≠R2:=by rw[hR2,HSZ.out];exact hne'
  rw[←hR2]at br⊢;obtain⟨HK2,HB3,HR3⟩:=hid3 (kq.trans k2) (HB2.out.kp k2) (HR2.out.kp k2);clear p0 p1 p2 HB2 HR2 HSZ hR2 hlt1 k2 kq hGlt;generalize(w1.alloc (.cells Z 21))=w2 at *;rw[HZ.out]at br;have HBR3:=hid br;clear br;obtain⟨p0,p1,p2,_,_,_⟩:=HB3.out.three;have hs1:=(HR3.out.take (k:=f) hfN).any;rw[HX0.out]at hs1;have HS1:=hid hs1;clear hs1;go_still_tail 10,(by kernel_rfl);change wpList _ _ _ _ _ w2.drew;go_upto_region 3 with(refine zW rfl _ _ rfl (Bx.drew HBR3.out) (some ⟨R2,0,none⟩) 0 K K (some ⟨R,0,none⟩) f N x rfl rfl (Sl.drew HS1.out) hfK (fun _=>rfl) (by simp;omega) ?_;intro w3 br3 m3);obtain⟨HM3,HB4,HR4,HBR4⟩:=hid4 (Mu.of_drew m3) (Mu.bx m3 (Bx.drew HB3.out) hGR2) (Mu.sl m3 (Sl.drew HR3.out) (fun k e1 e2=>hne2 (e1.symm.trans e2))) br3;clear p0 p1 p2 HB3 HR3 HBR3 HS1 m3 br3;obtain⟨p0,p1,p2,_,_,_⟩:=HB4.out.three;have hwq:IntKind.i64.wrap (q:Int)=(q:Int):=zV (by omega) (by omega);go_quiet (fail);have kq:Kp w3 (w3.drewN nq):=(Kp.refl w3).drewN nq;obtain⟨HB5,HR5,HBR5,HM5⟩:=hid4 (HB4.out.kp kq) (Sl.kp HR4.out kq) (HBR4.out.kp kq) (HM3.out.then_kp kq);clear p0 p1 p2 HB4 HR4 HBR4 HM3 kq;generalize(w3.drewN nq)=w5 at *;obtain⟨p0,p1,p2,_,_,_⟩:=HB5.out.three;have hcs:(q=0∧s=K∧t=N)∨(0<q∧¬(K=s)∧¬(N=t)):=by have:=HS.out;have:=HNT.out;omega
  rcases hcs with⟨hq0,hsK0,htN0⟩|⟨hq0,hsK0,htN0⟩
  ·have hy0:y=[]:=List.eq_nil_of_length_eq_zero (by rw[←HQ.out];exact hq0)
   obtain⟨HY,HQ0⟩:=hid2 hy0 hq0;obtain rfl:=hsK0;obtain rfl:=htN0;clear hy0 hq0 e2;go_upto_region 4 with fail;have hws:IntKind.i64.wrap (s:Int)=(s:Int):=zV (by omega) (by omega);go_still_tail 15,(by kernel_rfl);change wpList _ _ _ _ _ w5.drew;clear hwq;go_upto_region 5 with(refine zW (F:=Any) (w:=w5.drew) rfl _ _ rfl (Bx.drew HBR5.out) _ s _ _ _ _ _ [] rfl rfl (ru_zero (by simp) (by simp) (by simp)) (by simp) (fun h0=>by simp at h0) (by rw[putL_len _ _ _ (by have:=HF.out;simp;omega)];simp) ?_;intro w6 br6 m6);rw[←HY.out]at br6;obtain⟨HM6,HB6,HBR6⟩:=hid3 (HM5.out.trans (Mu.of_drew m6) (fun _ _ h=>h)) (Mu.bx m6 (Bx.drew HB5.out) hGR2) br6;clear p0 p1 p2 HB5 HR5 HBR5 m6 br6 hws;obtain⟨p0,p1,p2,_,_,_⟩:=HB6.out.three;go_wp2_with fail;go_end0;have hy:=HQ.out;have hx:=HF.out;have hz:x.length+(s - x.length - y.length)+y.length=s:=by have:=HKK.out;have:=HNL.out;omega
   refine⟨rfl,R2,List.replicate (s - x.length - y.length) 0,?_,.inr hwR2,⟨?_,?_,hGR2,?_⟩,?_⟩
   ·rw[List.length_replicate];have:=HKK.out;have:=HNL.out;omega
   ·have h3:=(HB6.out.set 0 (.slice (some ⟨R2,0,none⟩) s s)).set 2 (.int .i64 (s:Int))
    rw[List.length_replicate,hz,show x.length+(s - x.length - y.length)=s by have:=HS.out;have:=HKK.out;have:=HNL.out;omega,←hx];exact h3
   ·have h3:Bx ((w6.setCell ⟨G,0,none⟩ (.slice (some ⟨R2,0,none⟩) s s)).setCell ⟨G,2,none⟩ (.int .i64 (s:Int))) R2 (R32 (putL (putL (List.replicate s 0) 0 x) s y)).toArray 21:=(HBR6.out.far (Ne.symm hGR2) _).far (Ne.symm hGR2) _
    have hp:putL (putL (List.replicate s 0) 0 x) s y=x++List.replicate (s - x.length - y.length) 0++y:=by have h9:=HRR.out;rw[show s - y.length=s by have:=HS.out;omega]at h9;exact h9
    rw[hp]at h3;exact h3
   ·rw[List.length_replicate,hz];exact hKb
   ·have h5:Mu (GR G R) w w6:=⟨HM6.out.os.trans HK2.out.os,HM6.out.tape.trans HK2.out.tape,HM6.out.output.trans HK2.out.output,Nat.le_trans HK2.out.size HM6.out.size,fun k hk _=>(HM6.out.block k (Nat.lt_of_lt_of_le hk HK2.out.size) (by omega)).trans (HK2.out.block k hk)⟩
    exact(h5.setCell (p:=⟨G,0,none⟩) (Or.inl rfl) _).setCell (p:=⟨G,2,none⟩) (Or.inl rfl) _
  ·have hs1:Ru w5 Any (if N=t then some ⟨R,0,none⟩else(some (⟨R,0,none⟩:Addr)).map (·.add t)) (N - t) (N - t) ((x++z++y).drop t):=Sl.any (Ru.drop HR5.out htN)
   rw[if_neg htN0,show(some (⟨R,0,none⟩:Addr)).map (·.add t)=some ⟨R,t,none⟩from by simp[Addr.add];omega,HY0.out]at hs1;have HS1:=hid hs1;clear hs1;go_upto_region 4 with fail;have hws:IntKind.i64.wrap (s:Int)=(s:Int):=zV (by omega) (by omega);go_still_tail 15,(by kernel_rfl);change wpList _ _ _ _ _ w5.drew;clear hwq;go_upto_region 5 with(refine zW rfl _ _ rfl (Bx.drew HBR5.out) (some ⟨R2,s,none⟩) s (K - s) (K - s) (some ⟨R,t,none⟩) (N - t) (N - t) y rfl rfl (Sl.drew HS1.out) (by have:=HNT.out;have:=HKS.out;omega) (fun _=>rfl) (by rw[putL_len _ _ _ (by have:=HF.out;simp;omega)];have:=HNT.out;simp;omega) ?_;intro w6 br6 m6);obtain⟨HM6,HB6,HBR6⟩:=hid3 (HM5.out.trans (Mu.of_drew m6) (fun _ _ h=>h)) (Mu.bx m6 (Bx.drew HB5.out) hGR2) br6;clear p0 p1 p2 HB5 HR5 HBR5 HS1 m6 br6 hws;obtain⟨p0,p1,p2,_,_,_⟩:=HB6.out.three;go_wp2_with fail;go_end0;have hy:=HQ.out;have hx:=HF.out;have hz:x.length+(K - x.length - y.length)+y.length=K:=by have:=HKK.out;have:=HNL.out;omega
   refine⟨rfl,R2,List.replicate (K - x.length - y.length) 0,?_,.inr hwR2,⟨?_,?_,hGR2,?_⟩,?_⟩
   ·rw[List.length_replicate];have:=HKK.out;have:=HNL.out;omega
   ·have h3:=(HB6.out.set 0 (.slice (some ⟨R2,0,none⟩) K K)).set 2 (.int .i64 (s:Int))
    rw[List.length_replicate,hz,show x.length+(K - x.length - y.length)=s by have:=HS.out;have:=HKK.out;have:=HNL.out;omega,←hx];exact h3
   ·have h3:Bx ((w6.setCell ⟨G,0,none⟩ (.slice (some ⟨R2,0,none⟩) K K)).setCell ⟨G,2,none⟩ (.int .i64 (s:Int))) R2 (R32 (putL (putL (List.replicate K 0) 0 x) s y)).toArray 21:=(HBR6.out.far (Ne.symm hGR2) _).far (Ne.symm hGR2) _
    have hp:putL (putL (List.replicate K 0) 0 x) s y=x++List.replicate (K - x.length - y.length) 0++y:=by rw[←HRR.out,HS.out,hy]
    rw[hp]at h3;exact h3
   ·rw[List.length_replicate,hz];exact hKb
   ·have h5:Mu (GR G R) w w6:=⟨HM6.out.os.trans HK2.out.os,HM6.out.tape.trans HK2.out.tape,HM6.out.output.trans HK2.out.output,Nat.le_trans HK2.out.size HM6.out.size,fun k hk _=>(HM6.out.block k (Nat.lt_of_lt_of_le hk HK2.out.size) (by omega)).trans (HK2.out.block k hk)⟩
    exact(h5.setCell (p:=⟨G,0,none⟩) (Or.inl rfl) _).setCell (p:=⟨G,2,none⟩) (Or.inl rfl) _
theorem splice_row {x z y:List Int}{k:Nat}:putL (x++z++y) (x.length+z.length) (List.replicate k 0)=x++(z++List.replicate k 0)++y.drop k:=by
 unfold putL;have e1:(x++z++y).take (x.length+z.length)=x++z:=by rw[show x.length+z.length=(x++z).length by rw[List.length_append],List.take_left]
 have e2:(x++z++y).drop (x.length+z.length+(List.replicate k (0:Int)).length)=y.drop k:=by rw[show x.length+z.length=(x++z).length by rw[List.length_append],←List.drop_drop,List.drop_left,List.length_replicate]
 rw[e1,e2];simp only[List.append_assoc]
theorem ins_row {x z y s:List Int}(h:s.length≤z.length):putL (x++z++y) x.length s=(x++s)++z.drop s.length++y:=by
 unfold putL;have e1:(x++z++y).take x.length=x:=by rw[List.append_assoc,List.take_left]
 have e2:(x++z++y).drop (x.length+s.length)=z.drop s.length++y:=by rw[List.append_assoc,←List.drop_drop,List.drop_left,List.drop_append_of_le_length h]
 rw[e1,e2];simp only[List.append_assoc]
def Spliced (G R:Nat)(l:List Int)(w:World)(e:Ending)(w':World):Prop:=e=.returned (.bool true)∧∃R',(R'=R∨w.heap.size≤R')∧GapAt w' G R' l∧Mu (GR G R) w w'
theorem gapSplice_any (F:Nat→Prop)(G R a b:Nat)(A:Option Addr)(m c:Nat)(l xs:List Int)(w:World)(h:GapAt w G R l)(hx:Ru w F A m c xs)(hF:∀k,F k→¬GR G R k)(hab:a≤b)(hbl:b≤l.length)(hl:l.length≤131072)(hm:m≤131072):
 Calls Tryz.prog 186 #[.pointer (some ⟨G,0,none⟩),.int .i64 (a:Int),.int .i64 (b:Int),.slice A m c] w (Spliced G R (l.take a++xs++l.drop b) w):=by
 have HLN:=hid (xI G R l w h);obtain⟨x,z,y,hl2,hg⟩:=h;obtain⟨v,hv⟩:∃v,v=l.length:=⟨_,rfl⟩;rw[←hv]at HLN hbl hl;obtain⟨HV,HM,HX,HL⟩:=hid4 hv (fun(wx:World) (k:Kp w wx)=>gapMove_any G R a x z y wx (hg.kp k) (by rw[hl2,List.length_append]at hv;omega)) hx hl2;have hmc:=hx.le;have hcap:=hx.cap;unfold maxLen at hcap;have HXL:=hid hx.len;have qa:¬((a:Int)<0):=by omega
 have qa':=dF qa;obtain⟨L2,hL2⟩:∃L2,L2=l.take a++xs++l.drop b:=⟨_,rfl⟩;rw[←hL2];have HL2:=hid hL2;have q0:¬((a:Int)>(b:Int)):=by omega
 have q0n:¬(b<a):=by omega
 have q1:¬((b:Int)>(v:Int)):=by omega
 have q1n:¬(v<b):=by omega
 clear hv hl2 hg hx hL2;go_enter Tryz.func186,Tryz.ntmps186;go_wp2_with fail;refine HLN.out.mono ?_;rintro e w1 ⟨rfl,k1⟩;obtain⟨HM1,HX1⟩:=hid2 (HM.out w1 k1) (HX.out.kp k1);clear HLN HM HX;go_wp2_with fail;refine HM1.out.mono ?_;rintro e w2 ⟨rfl,z2,hz2,hg2,m2⟩;rw[←HL.out]at hg2;obtain⟨HX2,HM2⟩:=hid2 (Mu.sl m2 HX1.out hF) ((Mu.of_kp (S:=GR G R) k1).trans m2 fun _ _ h=>h);clear HM1 HX1 m2;obtain⟨t,ht⟩:∃t,t=a+z2.length:=⟨_,rfl⟩;obtain⟨N,hN⟩:∃N,N=a+z2.length+(v - a):=⟨_,rfl⟩;have hl1:(l.take a).length=a:=by rw[List.length_take];have:=HV.out;omega
 have hl3:(l.drop a).length=v - a:=by rw[List.length_drop];have:=HV.out;omega
 have hb2:Bx w2 G #[.slice (some ⟨R,0,none⟩) N N,.int .i64 (a:Int),.int .i64 (t:Int)] 216:=by
  have:=hg2.1;rw[hl1,hl3]at this;rw[ht,hN];exact this
 have hr2:=hg2.2.1;have hne:=hg2.2.2.1;have hNb:N≤1048576:=by have:=hg2.2.2.2;rw[hl1,hl3]at this;omega
 obtain⟨HB2,HR2⟩:=hid2 hb2 hr2;obtain⟨k,hk⟩:∃k,k=b - a:=⟨_,rfl⟩;obtain⟨tb,htb⟩:∃tb,tb=t+b:=⟨_,rfl⟩;obtain⟨s,hs⟩:∃s,s=t+k:=⟨_,rfl⟩;have e1:(t:Int)+(b:Int)=(tb:Int):=by omega
 have e2:(tb:Int) - (a:Int)=(s:Int):=by omega
 have e3:(b:Int) - (a:Int)=(k:Int):=by omega
 have e4:(t:Int)+(k:Int)=(s:Int):=by omega
 have hts:t≤s:=by omega
 have hsN:s≤N:=by omega
 have htN:t≤N:=by omega
 obtain⟨HK,HT,HN,HS,HTB,HLA,HLB⟩:=hid7 hk ht hN hs htb hl1 hl3;obtain⟨p0,p1,p2,_,_,_⟩:=hb2.three;clear hk ht hN hs htb hl1 hl3 hb2 hr2 hg2;go_upto_region 4 with fail;have hw1:IntKind.i64.wrap (tb:Int)=(tb:Int):=zV (by have:=HTB.out;omega) (by have:=HTB.out;omega);have hw2:IntKind.i64.wrap (s:Int)=(s:Int):=zV (by omega) (by omega);go_still_tail 17,(by kernel_rfl);change wpList _ _ _ _ _ w2.drew;clear hw1 hw2;obtain⟨D,hD⟩:∃D,D=(if N=t then some (⟨R,0,none⟩:Addr)else some ⟨R,t,none⟩):=⟨_,rfl⟩;rw[←hD];have HD:=hid (show 0<s - t→D=some ⟨R,t,none⟩ by intro h0;rw[hD];exact if_neg (by omega));clear hD;go_upto_region 5 with(refine wpList_clearR rfl _ rfl (Bx.drew HR2.out) _ t (s - t) (N - t) rfl HD.out (by simp only[List.length_append];have:=HLA.out;have:=HLB.out;have:=HT.out;have:=HN.out;omega) ?_;intro w3 r3 m3);have HB3:=hid (Mu.bx m3 (Bx.drew HB2.out) hne);have hp3:putL (l.take a++z2++l.drop a) t (List.replicate (s - t) 0)=l.take a++(z2++List.replicate k 0)++l.drop b:=by
  have h1:=splice_row (x:=l.take a) (z:=z2) (y:=l.drop a) (k:=k);rw[HLA.out,←HT.out,List.drop_drop,show a+k=b by have:=HK.out;omega]at h1;rw[show s - t=k by have:=HS.out;omega];exact h1
 rw[hp3]at r3;obtain⟨HR3,HX3,HM3⟩:=hid3 r3 (Mu.sl m3 (Sl.drew HX2.out) (fun j hj e=>hF j hj (Or.inr e))) (HM2.out.trans (Mu.of_drew m3) (fun _ _ h=>Or.inr h));clear p0 p1 p2 HB2 HR2 HX2 HM2 r3 m3 hp3;obtain⟨p0,p1,p2,_,_,_⟩:=HB3.out.three;go_upto_region 6 with fail;have hlb:(l.drop b).length=v - b:=by rw[List.length_drop];have:=HV.out;omega
 have hg4:GapP (w3.setCell ⟨G,2,none⟩ (.int .i64 (s:Int))) G R (l.take a) (z2++List.replicate k 0) (l.drop b):=by
  refine⟨?_,HR3.out.far (Ne.symm hne) _,hne,?_⟩
  ·have h3:=HB3.out.set 2 (.int .i64 (s:Int))
   rw[HLA.out,List.length_append,List.length_replicate,hlb,show a+(z2.length+k)=s by have:=HT.out;have:=HS.out;omega,show s+(v - b)=N by have:=HT.out;have:=HS.out;have:=HN.out;have:=HK.out;omega];exact h3
  ·rw[HLA.out,List.length_append,List.length_replicate,hlb];have:=HT.out;have:=HS.out;have:=HN.out;have:=HK.out;omega
 obtain⟨HX4,HM4,HG4⟩:=hid3 (Sl.setCell HX3.out (p:=⟨G,2,none⟩) (fun hj=>hF G hj (Or.inl rfl)) (.int .i64 (s:Int))) (HM3.out.setCell (p:=⟨G,2,none⟩) (Or.inl rfl) (.int .i64 (s:Int))) hg4;clear p0 p1 p2 HB3 HR3 HX3 HM3 hg4;generalize(w3.setCell ⟨G,2,none⟩ (.int .i64 (s:Int)))=w4 at *;have HRM:=hid (gapRoom_any G R m _ _ _ w4 HG4.out (by rw[HLA.out,hlb];omega));have hGlt:=HG4.out.1.lt;clear HG4;go_wp2_with fail;refine HRM.out.mono ?_;rintro e w5 ⟨rfl,R',z5,hz5,hR',hg5,m5⟩;have HR':=hid hR';obtain⟨HX5,HM5⟩:=hid2 (Mu.sl m5 HX4.out hF) (HM4.out.trans m5 (fun _ _ h=>h));have HX4B:=hid (show∀j,F j→j<w4.heap.size→¬GR G R' j by
  rintro j hj hlt (e|e)
  ·exact hF j hj (Or.inl e)
  ·rcases HR'.out with e2|e2
   ·exact hF j hj (Or.inr (e.trans e2))
   ·omega)
 clear HRM m5 hR';obtain⟨t5,ht5⟩:∃t5,t5=a+z5.length:=⟨_,rfl⟩;obtain⟨N5,hN5⟩:∃N5,N5=a+z5.length+(v - b):=⟨_,rfl⟩;have hb5:Bx w5 G #[.slice (some ⟨R',0,none⟩) N5 N5,.int .i64 (a:Int),.int .i64 (t5:Int)] 216:=by
  have:=hg5.1;rw[HLA.out,hlb]at this;rw[ht5,hN5];exact this
 have hne5:=hg5.2.2.1;obtain⟨HR5,HB5⟩:=hid2 hg5.2.1 hb5;have hNb5:N5≤1048576:=by have:=hg5.2.2.2;rw[HLA.out,hlb]at this;omega
 have haN5:a≤N5:=by omega
 obtain⟨am,ham⟩:∃am,am=a+m:=⟨_,rfl⟩;have e5:(a:Int)+(m:Int)=(am:Int):=by omega
 obtain⟨HT5,HN5,HAM,HLB2⟩:=hid4 ht5 hN5 ham hlb;have hmN5:m≤N5 - a:=by omega
 obtain⟨p0,p1,p2,_,_,_⟩:=hb5.three;clear hb5 hg5 ht5 hN5 ham e1 e2 e3 e4 hlb;go_upto_region 7 with fail;go_still_tail 10,(by kernel_rfl);change wpList _ _ _ _ _ w5.drew;obtain⟨D5,hD5⟩:∃D,D=(if N5=a then some (⟨R',0,none⟩:Addr)else some ⟨R',a,none⟩):=⟨_,rfl⟩;rw[←hD5];have HD5:=hid (show 0<m→D5=some ⟨R',a,none⟩ by intro h0;rw[hD5];exact if_neg (by omega));clear hD5;go_upto_region 8 with(refine zW rfl _ _ rfl (Bx.drew HR5.out) _ a (N5 - a) (N5 - a) A m c xs rfl rfl (Sl.drew HX5.out) hmN5 HD5.out (by simp only[List.length_append];have:=HLA.out;omega) ?_;intro w6 r6 m6);have HB6:=hid (Mu.bx m6 (Bx.drew HB5.out) hne5);have hp6:putL (l.take a++z5++l.drop b) a xs=(l.take a++xs)++z5.drop m++l.drop b:=by
  have h1:=ins_row (x:=l.take a) (z:=z5) (y:=l.drop b) (s:=xs) (by rw[HXL.out];exact hz5);rw[HLA.out,HXL.out]at h1;exact h1
 rw[hp6]at r6;obtain⟨HR6,HM6⟩:=hid2 r6 (Mu.of_drew m6);clear p0 p1 p2 HB5 HR5 r6 m6 hp6 HX5 HX4;obtain⟨p0,p1,p2,_,_,_⟩:=HB6.out.three;go_wp2_with fail;go_ret;have hw4:w.heap.size≤w4.heap.size:=HM4.out.size;refine⟨rfl,R',?_,⟨l.take a++xs,z5.drop m,l.drop b,HL2.out,⟨?_,HR6.out.far (Ne.symm hne5) _,hne5,?_⟩⟩,?_⟩
 ·rcases HR'.out with e|e
  ·exact .inl e
  ·exact .inr (by omega)
 ·have h3:=HB6.out.set 1 (.int .i64 (am:Int))
  rw[List.length_append,List.length_drop,HLA.out,HXL.out,HLB2.out,show a+m+(z5.length - m)=t5 by have:=HT5.out;omega,show t5+(v - b)=N5 by have:=HT5.out;have:=HN5.out;omega,←HAM.out];exact h3
 ·rw[List.length_append,List.length_drop,HLA.out,HXL.out,HLB2.out];have:=HN5.out;omega
 ·have h7:Mu (GR G R) w w6:=HM5.out.trans (S':=fun k=>k=R') HM6.out (fun j hj e=>by
   rcases HR'.out with e2|e2
   ·exact Or.inr (e.trans e2)
   ·omega)
  exact h7.setCell (p:=⟨G,1,none⟩) (Or.inl rfl) _
end Go.Proofs.YtociefdcccokjaaGreat

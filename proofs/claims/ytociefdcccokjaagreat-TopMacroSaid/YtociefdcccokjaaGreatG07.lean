/-
  Lemmas for TopMacro. Conditions: each states its own.
-/
import Derived.BigQuiet
import Derived.Deep.DeepCutAuto
import Derived.Deep.CutBlock
import Derived.Deep.LoopGhost
import Derived.IntWalk
import Derived.WalkSpells
import Derived.WalkLawsBesides
import Derived.Lib.QuietBelow
import Derived.Laws.StructEq
import Derived.StillTailTactics
import Derived.Maps.OwnSet
import Derived.Test.YtociefdcccokjaaGreatG02
import Derived.Test.YtociefdcccokjaaGreatG03
import Derived.Test.YtociefdcccokjaaGreatG06
set_option maxHeartbeats 1600000
set_option maxRecDepth 100000
namespace Go.Proofs.YtociefdcccokjaaGreat
open Go.RowKit Go.Lib
theorem zV {x:Int}(h1: -9223372036854775808≤x)(h2:x≤9223372036854775807):IntKind.i64.wrap x=x:=by rw[IntKind.wrap_i64];omega
theorem zE {w w':World}(k:Kp w w'){a:Addr}{v:Value}(h:w.cell? a=some v):w'.cell? a=some v:=(k.cell (World.block_lt_of_cell? w a h)).trans h
theorem zC {k:IntKind}{a b:Int}(h:a=b):Ending.returned (.int k a)=.returned (.int k b):=by rw[h]
def r32 (x:Int):Prop:= -2147483648≤x∧x≤2147483647
def R32ok (xs:List Int):Prop:=∀x∈xs,r32 x
theorem R32ok.get {xs:List Int}(h:R32ok xs){k:Nat}:r32 (gN xs k):=by
 unfold gN;rcases hx:xs[k]? with _|x
 ·simp[r32]
 ·exact h x (List.mem_of_getElem? hx)
theorem R32ok.nil:R32ok []:=fun _ h=>by simp at h
theorem R32ok.app {xs ys:List Int}(h:R32ok xs)(k:R32ok ys):R32ok (xs++ys):=fun x hx=>by rcases List.mem_append.1 hx with a|a;exact h x a;exact k x a
theorem R32ok.sub {xs ys:List Int}(h:R32ok xs)(k:∀x∈ys,x∈xs):R32ok ys:=fun x hx=>h x (k x hx)
def R64 (xs:List Int):List Value:=xs.map (Value.int .i64)
theorem yK (xs:List Int):(R64 xs).length=xs.length:=by simp[R64]
theorem R64_get (xs:List Int)(k:Nat):(R64 xs)[k]? =xs[k]?.map (Value.int .i64):=by simp[R64]
theorem R64_take (xs:List Int)(k:Nat):(R64 xs).take k=R64 (xs.take k):=by simp[R64]
theorem xJ (xs ys:List Int):R64 xs++R64 ys=R64 (xs++ys):=by simp[R64]
theorem R64_one (xs:List Int):∀u∈R64 xs,u.oneCell'=true:=by
 intro u hu;simp[R64]at hu;obtain⟨x,_,rfl⟩:=hu;rfl
def Nu (w:World)(F:Nat→Prop)(A:Option Addr)(n c:Nat)(xs:List Int):Prop:=Sl w F 1 A n c (R64 xs)
section
variable {w w':World}{F G:Nat→Prop}{n c:Nat}{A:Option Addr}{xs:List Int}
theorem Nu.len (h:Nu w F A n c xs):xs.length=n:=by have:=Sl.len h;rw[yK]at this;omega
theorem Nu.le (h:Nu w F A n c xs):n≤c:=Sl.le h
theorem Nu.cap (h:Nu w F A n c xs):c≤maxLen:=Sl.cap h
theorem Nu.kp (h:Nu w F A n c xs)(k:Kp w w'):Nu w' F A n c xs:=Sl.kp h k
theorem Nu.get {k:Nat}(h:Nu w F A n c xs)(hk:k<n):∃ad,A=some ad∧w.cell? (ad.add k)=some (.int .i64 (gN xs k)):=by
 obtain⟨ad,u,hA,hu,hc⟩:=Sl.get h hk;refine⟨ad,hA,?_⟩;rw[hc];rw[R64_get]at hu;unfold gN;have hl:k<xs.length:=by have:=h.len;omega
 rw[List.getElem?_eq_getElem hl]at hu⊢;simpa using hu.symm
theorem Nu.take {k:Nat}(h:Nu w F A n c xs)(hk:k≤n):Nu w F A k c (xs.take k):=by
 have:=Sl.take h hk;rw[Nat.mul_one,R64_take]at this;exact this
theorem Ru.getN {k:Nat}(h:Ru w F A n c xs)(hk:k<n):∃ad,A=some ad∧w.cell? (ad.add k)=some (.int .i32 (gN xs k)):=h.get hk
end
def TrAt (w:World)(tT:TypeId)(k:Nat)(tB:Nat)(g:Nat→List Value):Prop:=
 ∃(ia ba:Addr) (ni ci nb cb:Nat) (ix:Nat→Nat),Bx w tB #[.int .i64 1114112,.slice (some ia) ni ci,.slice (some ba) nb cb] tT∧8704≤ni∧ni≤ci∧ci≤maxLen∧nb≤cb∧cb≤maxLen∧
  (∀q,q<8704→w.cell? (ia.add q)=some (.int .i64 (ix q:Int))∧ix q<nb)∧
  ∀i j u,i<1114112→(g i)[j]? =some u→w.cell? ((ba.add (ix (i / 128)*(128*k)+i % 128*k)).add j)=some u
theorem TrAt.kp {w w':World}{tT:TypeId}{k tB:Nat}{g:Nat→List Value}(h:TrAt w tT k tB g)(kp:Kp w w'):TrAt w' tT k tB g:=by
 obtain⟨ia,ba,ni,ci,nb,cb,ix,h1,h2,h3,h4,h5,h6,h7,h8⟩:=h;exact⟨ia,ba,ni,ci,nb,cb,ix,h1.kp kp,h2,h3,h4,h5,h6,fun q hq=>⟨zE kp (h7 q hq).1,(h7 q hq).2⟩,fun i j u hi hj=>zE kp (h8 i j u hi hj)⟩
def MpAt (w:World)(m:Nat)(R:World→Prop):Prop:=∃es clock,w.heap[m]? =some (.map es clock)∧m<w.heap.size∧∀w',w'.heap[m]? =some (.map es clock)→R w'
theorem MpAt.kp {w w':World}{m:Nat}{R:World→Prop}(h:MpAt w m R)(kp:Kp w w'):MpAt w' m R:=by
 obtain⟨es,clock,h1,h2,h3⟩:=h;exact⟨es,clock,(kp.block m h2).trans h1,Nat.lt_of_lt_of_le h2 kp.size,h3⟩
theorem MpAt.now {w:World}{m:Nat}{R:World→Prop}(h:MpAt w m R):R w:=by
 obtain⟨es,clock,h1,h2,h3⟩:=h;exact h3 w h1
def MadeR (T:TM)(m:Nat)(w:World):Prop:=∀a b:Int,r32 a→r32 b→
 (Instr.lookup 79 (.map (some m)) (.agg #[.int .i32 a,.int .i32 b]) true).run Tryz.prog w=.ok (.tuple #[.int .i32 ((T.made a b).getD 0),.bool (T.made a b).isSome]) w
def SecR (T:TM)(m:Nat)(w:World):Prop:=∀a:Int,r32 a→
 (Instr.lookup 80 (.map (some m)) (.int .i32 a) false).run Tryz.prog w=.ok (.bool (T.sec a)) w
structure TM.Ok (T:TM):Prop where
 cls0:∀r,r<0∨1114112≤r→T.cls r=0
 gcb0:∀r,r<0∨1114112≤r→T.gcb r=0
 cnj0:∀r,r<0∨1114112≤r→T.cnj r=0
 pict0:∀r,r<0∨1114112≤r→T.pict r=false
 letter0:∀r,r<0∨1114112≤r→T.letter r=false
 out0:∀r,r<0∨1114112≤r→T.outF r=false
 pr0:∀r,r<0∨1114112≤r→T.pr r=(0,0)
 pr32:∀r,r32 (T.pr r).1∧r32 (T.pr r).2
 made32:∀a b c,T.made a b=some c→r32 c
def pairV (p:Int×Int):List Value:=[.int .i32 p.1,.int .i32 p.2]
def TabAt (w:World)(g:Nat)(T:TM):Prop:=
 ∃(c1 c2 c3 c4 c5 m1 m2:Nat) (wide:Nat→Bool),T.Ok∧
  Bx w g #[.pointer (some ⟨c1,0,none⟩),.pointer (some ⟨c2,0,none⟩),.pointer (some ⟨c3,0,none⟩),.pointer (some ⟨c4,0,none⟩),.pointer (some ⟨c5,0,none⟩),.map (some m1),.map (some m2)] 83∧
  TrAt w 185 1 c1 (fun i=>[.int .i64 (T.cls i)])∧TrAt w 185 1 c2 (fun i=>[.int .i64 (T.gcb i)])∧TrAt w 185 1 c3 (fun i=>[.int .i64 (T.cnj i)])∧
  TrAt w 200 4 c4 (fun i=>[.bool (T.pict i),.bool (wide i),.bool (T.letter i),.bool (T.outF i)])∧TrAt w 147 2 c5 (fun i=>pairV (T.pr i))∧
  MpAt w m1 (MadeR T m1)∧MpAt w m2 (SecR T m2)
theorem TabAt.kp {w w':World}{g:Nat}{T:TM}(h:TabAt w g T)(kp:Kp w w'):TabAt w' g T:=by
 obtain⟨c1,c2,c3,c4,c5,m1,m2,wide,h0,hb,h1,h2,h3,h4,h5,h6,h7⟩:=h;exact⟨c1,c2,c3,c4,c5,m1,m2,wide,h0,hb.kp kp,h1.kp kp,h2.kp kp,h3.kp kp,h4.kp kp,h5.kp kp,h6.kp kp,h7.kp kp⟩
theorem TabAt.ok {w:World}{g:Nat}{T:TM}(h:TabAt w g T):T.Ok:=by obtain⟨_,_,_,_,_,_,_,_,h,_⟩:=h;exact h
structure Mu (S:Nat→Prop)(w w':World):Prop where
 os:w'.os=w.os
 tape:w'.tape=w.tape
 output:w'.output=w.output
 size:w.heap.size≤w'.heap.size
 block:∀k,k<w.heap.size→¬S k→w'.heap[k]? =w.heap[k]?
section
variable {S:Nat→Prop}{w w' w'' w0:World}
theorem Mu.of_kp (h:Kp w w'):Mu S w w':=⟨h.os,h.tape,h.output,h.size,fun k hk _=>h.block k hk⟩
theorem Mu.refl (w:World):Mu S w w:=.of_kp (Kp.refl w)
theorem Mu.trans {S':Nat→Prop}(h:Mu S w w')(k:Mu S' w' w'')(hS:∀b,b<w.heap.size→S' b→S b):Mu S w w'':=
 ⟨k.os.trans h.os,k.tape.trans h.tape,k.output.trans h.output,Nat.le_trans h.size k.size,fun b hb hX=>(k.block b (Nat.lt_of_lt_of_le hb h.size) (fun hy=>hX (hS b hb hy))).trans (h.block b hb hX)⟩
theorem Mu.weak {S':Nat→Prop}(h:Mu S w w')(hS:∀b,b<w.heap.size→S b→S' b):Mu S' w w':=⟨h.os,h.tape,h.output,h.size,fun b hb hX=>h.block b hb fun hy=>hX (hS b hb hy)⟩
theorem Mu.kp (h:Mu S w w')(k:Kp w0 w)(hS:∀b,S b→w0.heap.size≤b):Kp w0 w':=
 ⟨h.os.trans k.os,h.tape.trans k.tape,h.output.trans k.output,Nat.le_trans k.size h.size,fun b hb=>(h.block b (Nat.lt_of_lt_of_le hb k.size) (fun hx=>by have:=hS b hx;omega)).trans (k.block b hb)⟩
theorem Mu.setCell (h:Mu S w w'){p:Addr}(hp:S p.block)(u:Value):Mu S w (w'.setCell p u):=
 ⟨h.os,h.tape,h.output,by simpa[World.setCell]using h.size,fun k hk hS=>(Below.heap_setCell w' p u k (by rintro rfl;exact hS hp)).trans (h.block k hk hS)⟩
theorem Mu.drewN (h:Mu S w w')(n:Nat):Mu S w (w'.drewN n):=⟨h.os,h.tape,h.output,h.size,h.block⟩
theorem Mu.then_kp (h:Mu S w w')(k:Kp w' w''):Mu S w w'':=h.trans (S':=S) (.of_kp k) fun _ _ h=>h
theorem Mu.bx {b:Nat}{cs:Array Value}{t:TypeId}(h:Mu S w w')(hb:Bx w b cs t)(hS:¬S b):Bx w' b cs t:=(h.block b hb.lt hS).trans hb
theorem Mu.sl {F:Nat→Prop}{size n c:Nat}{A:Option Addr}{vs:List Value}(h:Mu S w w')(hs:Sl w F size A n c vs)(hF:∀k,F k→¬S k):Sl w' F size A n c vs:=hs.frame h.size fun k hk hl=>h.block k hl (hF k hk)
end
theorem Bx.two {w:World}{b:Nat}{t:TypeId}{x y:Value}(h:Bx w b #[x,y] t):w.cell? ⟨b,0,none⟩=some x∧w.cell? ⟨b,1,none⟩=some y∧w.frozen? ⟨b,0,none⟩=false∧w.frozen? ⟨b,1,none⟩=false:=
 ⟨h.cell 0,h.cell 1,h.frozen 0,h.frozen 1⟩
theorem Bx.four {w:World}{b:Nat}{t:TypeId}{x y z u:Value}(h:Bx w b #[x,y,z,u] t):w.cell? ⟨b,0,none⟩=some x∧w.cell? ⟨b,1,none⟩=some y∧w.cell? ⟨b,2,none⟩=some z∧w.cell? ⟨b,3,none⟩=some u∧
 w.frozen? ⟨b,0,none⟩=false∧w.frozen? ⟨b,1,none⟩=false∧w.frozen? ⟨b,2,none⟩=false∧w.frozen? ⟨b,3,none⟩=false:=
 ⟨h.cell 0,h.cell 1,h.cell 2,h.cell 3,h.frozen 0,h.frozen 1,h.frozen 2,h.frozen 3⟩
theorem add_next (a:Addr)(i:Nat):a.add (i+1)=⟨a.block,a.off+(i+1),none⟩:=by unfold Addr.add;simp
theorem get_int (tB:Nat)(g:Nat→Int)(i v:Int)(w:World)(h:TrAt w 185 1 tB (fun i=>[.int .i64 (g i)]))(h0:i<0∨1114112≤i→v=0)(h1:0≤i→i<1114112→v=g i.toNat):
 Calls Tryz.prog 97 #[.pointer (some ⟨tB,0,none⟩),.int .i64 i] w fun e w'=>e=.returned (.int .i64 v)∧Kp w w':=by
 obtain⟨ia,ba,ni,ci,nb,cb,ix,hb,a1,a2,a3,a4,a5,a6,a7⟩:=h;obtain⟨b0,b1,b2,_,_,_⟩:=hb.three;unfold maxLen at a3 a5;by_cases hi0:i<0
 ·rw[h0 (.inl hi0)]
  clear a6 a7 h0 h1;go_enter Tryz.func97,Tryz.ntmps97;go_wp2_with fail;go_ret;exact⟨rfl,.refl _⟩
 ·by_cases hi1:1114112≤i
  ·rw[h0 (.inr hi1)]
   clear a6 a7 h0 h1;go_enter Tryz.func97,Tryz.ntmps97;go_wp2_with fail;go_ret;exact⟨rfl,.refl _⟩
  ·obtain⟨j,rfl⟩:=Int.eq_ofNat_of_zero_le (Int.not_lt.1 hi0)
   rw[h1 (by omega) (by omega),Int.toNat_natCast];obtain⟨c1,c2⟩:=a6 (j / 128) (by omega);have c3:=a7 j 0 _ (by omega) rfl;rw[add_zero,←xN,Nat.mul_one,Nat.mul_one]at c3;have hq:IntKind.i64.wrap ((j:Int) / 128)=((j / 128:Nat):Int):=by rw[zV (by omega) (by omega)];rfl
   have hr:(j:Int).tmod 128=((j % 128:Nat):Int):=by rw[Int.tmod_eq_emod_of_nonneg (by omega)];rfl
   have hm0:(0:Int)≤((j % 128:Nat):Int):=by omega
   have hm1:((j % 128:Nat):Int)<128:=by omega
   have hjq:j / 128<8704:=by omega
   have hjn:j / 128<ni:=by omega
   have hjm:j % 128<128:=by omega
   generalize ix (j / 128)=k at *;generalize g j=y at *;generalize j / 128=jq at *;generalize j % 128=jr at *;clear a6 a7 h0 h1 hb;go_enter Tryz.func97,Tryz.ntmps97;go_upto_region 4 with fail;go_quiet (fail);go_wp2_with fail;go_ret;exact⟨rfl,(Kp.refl _).drewN _⟩
theorem get_pair (tB:Nat)(g:Nat→Int×Int)(i:Int)(v:Int×Int)(w:World)(h:TrAt w 147 2 tB (fun i=>pairV (g i)))(h0:i<0∨1114112≤i→v=(0,0))(h1:0≤i→i<1114112→v=g i.toNat):
 Calls Tryz.prog 23 #[.pointer (some ⟨tB,0,none⟩),.int .i64 i] w fun e w'=>e=.returned (.agg #[.int .i32 v.1,.int .i32 v.2])∧Kp w w':=by
 obtain⟨ia,ba,ni,ci,nb,cb,ix,hb,a1,a2,a3,a4,a5,a6,a7⟩:=h;obtain⟨b0,b1,b2,_,_,_⟩:=hb.three;unfold maxLen at a3 a5;have hlt:=hb.lt;by_cases hi0:i<0
 ·rw[h0 (.inl hi0)]
  clear a6 a7 h0 h1;go_enter Tryz.func23,Tryz.ntmps23;go_wp2_with fail;refine bodyPost_ret (v:=.agg #[.int .i32 0,.int .i32 0]) (by simp[results,Tryz.results23,go_sem]) rfl ?_;exact⟨rfl,by repeat(first|assumption|exact Kp.refl _|refine Kp.alloc ?_ _|refine Kp.drewN ?_ _|refine Kp.drew ?_|refine Kp.setCell ?_ (by simp) _)⟩
 ·by_cases hi1:1114112≤i
  ·rw[h0 (.inr hi1)]
   clear a6 a7 h0 h1;go_enter Tryz.func23,Tryz.ntmps23;go_wp2_with fail;refine bodyPost_ret (v:=.agg #[.int .i32 0,.int .i32 0]) (by simp[results,Tryz.results23,go_sem]) rfl ?_;exact⟨rfl,by repeat(first|assumption|exact Kp.refl _|refine Kp.alloc ?_ _|refine Kp.drewN ?_ _|refine Kp.drew ?_|refine Kp.setCell ?_ (by simp) _)⟩
  ·obtain⟨j,rfl⟩:=Int.eq_ofNat_of_zero_le (Int.not_lt.1 hi0)
   rw[h1 (by omega) (by omega),Int.toNat_natCast];obtain⟨c1,c2⟩:=a6 (j / 128) (by omega);have c3:=a7 j 0 _ (by omega) rfl;have c4:=a7 j 1 _ (by omega) rfl;rw[add_zero,←xN,show 128*2=256 from rfl]at c3;rw[add_next,←xN,show 128*2=256 from rfl]at c4;have hq:IntKind.i64.wrap ((j:Int) / 128)=((j / 128:Nat):Int):=by rw[zV (by omega) (by omega)];rfl
   have hr:(j:Int).tmod 128=((j % 128:Nat):Int):=by rw[Int.tmod_eq_emod_of_nonneg (by omega)];rfl
   have hm0:(0:Int)≤((j % 128:Nat):Int):=by omega
   have hm1:((j % 128:Nat):Int)<128:=by omega
   have hjq:j / 128<8704:=by omega
   have hjn:j / 128<ni:=by omega
   have hjm:j % 128<128:=by omega
   generalize ix (j / 128)=k at *;generalize(g j).1=y at *;generalize(g j).2=z at *;generalize j / 128=jq at *;generalize j % 128=jr at *;clear a6 a7 h0 h1 hb;go_enter Tryz.func23,Tryz.ntmps23;go_upto_region 4 with fail;have ka:=(Kp.refl w).alloc (.cells #[.int .i32 0,.int .i32 0] 90);have d0:=zE ka b0;have d1:=zE ka b1;have d2:=zE ka b2;have d3:=zE ka c1;have d4:=zE ka c3;have d5:=zE ka c4;clear b0 b1 b2 c1 c3 c4;have bn:=Bx.new w #[.int .i32 0,.int .i32 0] 90;generalize(w.alloc (.cells #[.int .i32 0,.int .i32 0] 90))=w1 at *;go_still_tail 17,(by kernel_rfl);change wpList _ _ _ _ _ w1.drew;obtain⟨e0,e1,e2,e3⟩:=bn.two;go_wp2;refine bodyPost_ret (v:=.agg #[.int .i32 y,.int .i32 z]) (by simp[results,Tryz.results23,go_sem,e0,e1]) rfl ?_;exact⟨rfl,by repeat(first|assumption|exact Kp.refl _|refine Kp.alloc ?_ _|refine Kp.drewN ?_ _|refine Kp.drew ?_|refine Kp.setCell ?_ (by simp) _)⟩
theorem get_flags (tB:Nat)(g:Nat→Bool×Bool×Bool×Bool)(i:Int)(v:Bool×Bool×Bool×Bool)(w:World)(h:TrAt w 200 4 tB (fun i=>[.bool (g i).1,.bool (g i).2.1,.bool (g i).2.2.1,.bool (g i).2.2.2]))(h0:i<0∨1114112≤i→v=(false,false,false,false))(h1:0≤i→i<1114112→v=g i.toNat):
 Calls Tryz.prog 60 #[.pointer (some ⟨tB,0,none⟩),.int .i64 i] w fun e w'=>e=.returned (.agg #[.bool v.1,.bool v.2.1,.bool v.2.2.1,.bool v.2.2.2])∧Kp w w':=by
 obtain⟨ia,ba,ni,ci,nb,cb,ix,hb,a1,a2,a3,a4,a5,a6,a7⟩:=h;obtain⟨b0,b1,b2,_,_,_⟩:=hb.three;unfold maxLen at a3 a5;have hlt:=hb.lt;by_cases hi0:i<0
 ·rw[h0 (.inl hi0)]
  clear a6 a7 h0 h1;go_enter Tryz.func60,Tryz.ntmps60;go_wp2_with fail;refine bodyPost_ret (v:=.agg #[.bool false,.bool false,.bool false,.bool false]) (by simp[results,Tryz.results60,go_sem]) rfl ?_;exact⟨rfl,by repeat(first|assumption|exact Kp.refl _|refine Kp.alloc ?_ _|refine Kp.drewN ?_ _|refine Kp.drew ?_|refine Kp.setCell ?_ (by simp) _)⟩
 ·by_cases hi1:1114112≤i
  ·rw[h0 (.inr hi1)]
   clear a6 a7 h0 h1;go_enter Tryz.func60,Tryz.ntmps60;go_wp2_with fail;refine bodyPost_ret (v:=.agg #[.bool false,.bool false,.bool false,.bool false]) (by simp[results,Tryz.results60,go_sem]) rfl ?_;exact⟨rfl,by repeat(first|assumption|exact Kp.refl _|refine Kp.alloc ?_ _|refine Kp.drewN ?_ _|refine Kp.drew ?_|refine Kp.setCell ?_ (by simp) _)⟩
  ·obtain⟨j,rfl⟩:=Int.eq_ofNat_of_zero_le (Int.not_lt.1 hi0)
   rw[h1 (by omega) (by omega),Int.toNat_natCast];obtain⟨c1,c2⟩:=a6 (j / 128) (by omega);have c3:=a7 j 0 _ (by omega) rfl;have c4:=a7 j 1 _ (by omega) rfl;have c5:=a7 j 2 _ (by omega) rfl;have c6:=a7 j 3 _ (by omega) rfl;rw[add_zero,←xN,show 128*4=512 from rfl]at c3;rw[add_next,←xN,show 128*4=512 from rfl]at c4 c5 c6;have hq:IntKind.i64.wrap ((j:Int) / 128)=((j / 128:Nat):Int):=by rw[zV (by omega) (by omega)];rfl
   have hr:(j:Int).tmod 128=((j % 128:Nat):Int):=by rw[Int.tmod_eq_emod_of_nonneg (by omega)];rfl
   have hm0:(0:Int)≤((j % 128:Nat):Int):=by omega
   have hm1:((j % 128:Nat):Int)<128:=by omega
   have hjq:j / 128<8704:=by omega
   have hjn:j / 128<ni:=by omega
   have hjm:j % 128<128:=by omega
   generalize ix (j / 128)=k at *;generalize(g j)=gj at *;obtain⟨y,z,u,v⟩:=gj;dsimp only at c3 c4 c5 c6⊢;generalize j / 128=jq at *;generalize j % 128=jr at *;clear a6 a7 h0 h1 hb;go_enter Tryz.func60,Tryz.ntmps60;go_upto_region 4 with fail;have ka:=(Kp.refl w).alloc (.cells #[.bool false,.bool false,.bool false,.bool false] 134);have d0:=zE ka b0;have d1:=zE ka b1;have d2:=zE ka b2;have d3:=zE ka c1;have d4:=zE ka c3;have d5:=zE ka c4;have d6:=zE ka c5;have d7:=zE ka c6;clear b0 b1 b2 c1 c3 c4 c5 c6;have bn:=Bx.new w #[.bool false,.bool false,.bool false,.bool false] 134;generalize(w.alloc (.cells #[.bool false,.bool false,.bool false,.bool false] 134))=w1 at *;go_still_tail 17,(by kernel_rfl);change wpList _ _ _ _ _ w1.drew;obtain⟨e0,e1,e2,e3,e4,e5,e6,e7⟩:=bn.four;go_wp2;refine bodyPost_ret (v:=.agg #[.bool y,.bool z,.bool u,.bool v]) (by simp[results,Tryz.results60,go_sem,e0,e1,e2,e3]) rfl ?_;exact⟨rfl,by repeat(first|assumption|exact Kp.refl _|refine Kp.alloc ?_ _|refine Kp.drewN ?_ _|refine Kp.drew ?_|refine Kp.setCell ?_ (by simp) _)⟩
theorem box7 {w:World}{g:Nat}{t:TypeId}{a b c d e f h:Value}(hb:Bx w g #[a,b,c,d,e,f,h] t):w.cell? ⟨g,0,none⟩=some a∧w.cell? ⟨g,1,none⟩=some b∧w.cell? ⟨g,2,none⟩=some c∧w.cell? ⟨g,3,none⟩=some d∧w.cell? ⟨g,4,none⟩=some e∧w.cell? ⟨g,5,none⟩=some f∧w.cell? ⟨g,6,none⟩=some h:=
 ⟨hb.cell 0,hb.cell 1,hb.cell 2,hb.cell 3,hb.cell 4,hb.cell 5,hb.cell 6⟩
theorem cls_of {w:World}{c1:Nat}{f:Int→Int}(h:TrAt w 185 1 c1 (fun i=>[.int .i64 (f i)]))(h0:∀r,r<0∨1114112≤r→f r=0)(r:Int):
 Calls Tryz.prog 97 #[.pointer (some ⟨c1,0,none⟩),.int .i64 r] w fun e w'=>e=.returned (.int .i64 (f r))∧Kp w w':=
 get_int c1 (fun i=>f i) r (f r) w h (h0 r) (fun h1 _=>by rw[Int.toNat_of_nonneg h1])
theorem xD (g:Nat)(T:TM)(r:Int)(w:World)(h:TabAt w g T)(hr:r32 r):
 Calls Tryz.prog 61 #[.pointer (some ⟨g,0,none⟩),.int .i32 r] w fun e w'=>e=.returned (.int .i64 (T.cls r))∧Kp w w':=by
 obtain⟨c1,c2,c3,c4,c5,m1,m2,wide,h0,hb,h1,h2,h3,h4,h5,h6,h7⟩:=h;obtain⟨b0,b1,b2,b3,b4,b5,b6⟩:=box7 hb;have HC:=fun r=>cls_of h1 h0.cls0 r
 have HC:=hid HC;obtain⟨r1,r2⟩:=hr;clear h0 hb h1 h2 h3 h4 h5 h6 h7;go_enter Tryz.func61,Tryz.ntmps61;go_wp2_with fail;refine(HC.out r).mono ?_;rintro e w1 ⟨rfl,k1⟩;go_wp2_with fail;go_ret;exact⟨rfl,k1⟩
theorem zL (g:Nat)(T:TM)(r:Int)(w:World)(h:TabAt w g T)(hr:r32 r):
 Calls Tryz.prog 167 #[.pointer (some ⟨g,0,none⟩),.int .i32 r] w fun e w'=>e=.returned (.int .i64 (T.brk r))∧Kp w w':=by
 obtain⟨c1,c2,c3,c4,c5,m1,m2,wide,h0,hb,h1,h2,h3,h4,h5,h6,h7⟩:=h;obtain⟨b0,b1,b2,b3,b4,b5,b6⟩:=box7 hb;have HC:=fun r=>cls_of h2 h0.gcb0 r
 have HC:=hid HC;obtain⟨r1,r2⟩:=hr;clear h0 hb h1 h2 h3 h4 h5 h6 h7;by_cases hs:44032≤r∧r≤55203
 ·obtain⟨s1,s2⟩:=hs
  have e1:IntKind.i32.wrap (r - 44032)=r - 44032:=by rw[IntKind.wrap_i32];omega
  have e2:(r - 44032).tmod 28=(r - 44032) % 28:=Int.tmod_eq_emod_of_nonneg (by omega);by_cases hm:(r - 44032) % 28=0
  ·have HE:Hid (T.brk r=12):=by show _=_;unfold TM.brk;rw[if_pos ⟨s1,s2,hm⟩]
   have hb:((r - 44032) % 28==0)=true:=by simpa using hm
   clear hm;go_enter Tryz.func167,Tryz.ntmps167;go_wp2_with fail;go_ret;exact⟨zC HE.out.symm,Kp.refl _⟩
  ·have HE:Hid (T.brk r=13):=by show _=_;unfold TM.brk;rw[if_neg (by omega),if_pos ⟨s1,s2⟩]
   have hb:((r - 44032) % 28==0)=false:=by simpa using hm
   clear hm;go_enter Tryz.func167,Tryz.ntmps167;go_wp2_with fail;go_ret;exact⟨zC HE.out.symm,Kp.refl _⟩
 ·have HE:Hid (T.brk r=T.gcb r):=by show _=_;unfold TM.brk;rw[if_neg (by omega),if_neg (by omega)]
  rcases(by omega:r<44032∨(44032≤r∧55203<r))with h1|⟨h1,h2⟩
  ·clear hs
   go_enter Tryz.func167,Tryz.ntmps167;go_wp2_with fail;refine(HC.out r).mono ?_;rintro e w1 ⟨rfl,k1⟩;go_wp2_with fail;go_ret;exact⟨zC HE.out.symm,k1⟩
  ·clear hs
   go_enter Tryz.func167,Tryz.ntmps167;go_wp2_with fail;refine(HC.out r).mono ?_;rintro e w1 ⟨rfl,k1⟩;go_wp2_with fail;go_ret;exact⟨zC HE.out.symm,k1⟩
theorem yC (g:Nat)(T:TM)(r:Int)(w:World)(h:TabAt w g T)(hr:r32 r):
 Calls Tryz.prog 169 #[.pointer (some ⟨g,0,none⟩),.int .i32 r] w fun e w'=>e=.returned (.int .i64 (T.conj r))∧Kp w w':=by
 have HT:=hid h;obtain⟨c1,c2,c3,c4,c5,m1,m2,wide,h0,hb,h1,h2,h3,h4,h5,h6,h7⟩:=h;obtain⟨b0,b1,b2,b3,b4,b5,b6⟩:=box7 hb;have HC:=fun r=>cls_of h3 h0.cnj0 r
 obtain⟨HC,HR⟩:=hid2 HC hr;obtain⟨r1,r2⟩:=hr;clear h0 hb h1 h2 h3 h4 h5 h6 h7;by_cases hc:T.cnj r=0
 ·have hc1:(T.cnj r != 0)=false:=by simpa using hc
  clear hc;have HV:∀v,((T.brk r=4∨T.brk r=5)∧r≠8204→v=3)→(¬((T.brk r=4∨T.brk r=5)∧r≠8204)→v=0)→v=T.conj r:=by
   intro v h1 h2;have h0:T.cnj r=0:=by simpa using hc1
   unfold TM.conj;rw[if_neg (by omega)]
   split
   ·exact h1 (by assumption)
   ·exact h2 (by assumption)
  have HV:=hid HV;by_cases hb:T.brk r=4∨T.brk r=5
  ·have HBB:=hid hb
   have hb':((T.brk r==4)=true)∨((T.brk r==4)=false∧(T.brk r==5)=true):=by
    rcases hb with h|h
    ·exact .inl (by simpa using h)
    ·exact .inr ⟨by simp[h],by simpa using h⟩
   clear hb;by_cases h8:r=8204
   ·have h8':(r != 8204)=false:=by simpa using h8
    have H8:=hid h8;clear h8;rcases hb' with hb4|⟨hb4,hb5⟩
    all_goals
     go_enter Tryz.func169,Tryz.ntmps169;go_wp2_with fail;refine(HC.out r).mono ?_;rintro e w1 ⟨rfl,k1⟩;go_wp2_with fail;refine(zL g T r _ (HT.out.kp k1) HR.out).mono ?_;rintro e w2 ⟨rfl,k2⟩;go_wp2_with fail;go_ret;exact⟨zC (HV.out 0 (fun h=>absurd H8.out h.2) (fun _=>rfl)),k1.trans k2⟩
   ·have h8':(r != 8204)=true:=by simpa using h8
    have H8:=hid h8;clear h8;rcases hb' with hb4|⟨hb4,hb5⟩
    all_goals
     go_enter Tryz.func169,Tryz.ntmps169;go_wp2_with fail;refine(HC.out r).mono ?_;rintro e w1 ⟨rfl,k1⟩;go_wp2_with fail;refine(zL g T r _ (HT.out.kp k1) HR.out).mono ?_;rintro e w2 ⟨rfl,k2⟩;go_wp2_with fail;go_ret;exact⟨zC (HV.out 3 (fun _=>rfl) (fun h=>absurd ⟨HBB.out,H8.out⟩ h)),k1.trans k2⟩
  ·have HBB:=hid hb
   have hb4:(T.brk r==4)=false:=by simp;omega
   have hb5:(T.brk r==5)=false:=by simp;omega
   clear hb;go_enter Tryz.func169,Tryz.ntmps169;go_wp2_with fail;refine(HC.out r).mono ?_;rintro e w1 ⟨rfl,k1⟩;go_wp2_with fail;refine(zL g T r _ (HT.out.kp k1) HR.out).mono ?_;rintro e w2 ⟨rfl,k2⟩;go_wp2_with fail;go_ret;exact⟨zC (HV.out 0 (fun h=>absurd h.1 HBB.out) (fun _=>rfl)),k1.trans k2⟩
 ·have hc1:(T.cnj r != 0)=true:=by simpa using hc
  have HV:Hid (T.cnj r=T.conj r):=by show _=_;unfold TM.conj;rw[if_pos hc]
  clear hc;go_enter Tryz.func169,Tryz.ntmps169;go_wp2_with fail;refine(HC.out r).mono ?_;rintro e w1 ⟨rfl,k1⟩;go_wp2_with fail;go_ret;exact⟨zC HV.out,k1⟩
theorem yW (a b c d:Bool)(w:World):(Instr.field 134 (.agg #[.bool a,.bool b,.bool c,.bool d]) 0).run Tryz.prog w=.ok (.bool a) w∧(Instr.field 134 (.agg #[.bool a,.bool b,.bool c,.bool d]) 2).run Tryz.prog w=.ok (.bool c) w∧
 (Instr.field 134 (.agg #[.bool a,.bool b,.bool c,.bool d]) 3).run Tryz.prog w=.ok (.bool d) w:=⟨by kernel_rfl,by kernel_rfl,by kernel_rfl⟩
theorem flags_any (c4:Nat)(T:TM)(wide:Nat→Bool)(r:Int)(w:World)(h:TrAt w 200 4 c4 (fun i=>[.bool (T.pict i),.bool (wide i),.bool (T.letter i),.bool (T.outF i)]))(ho:T.Ok):
 ∃v2,Calls Tryz.prog 60 #[.pointer (some ⟨c4,0,none⟩),.int .i64 r] w fun e w'=>e=.returned (.agg #[.bool (T.pict r),.bool v2,.bool (T.letter r),.bool (T.outF r)])∧Kp w w':=by
 by_cases hr:0≤r∧r<1114112
 ·refine⟨wide r.toNat,get_flags c4 (fun i=>(T.pict i,wide i,T.letter i,T.outF i)) r (T.pict r,wide r.toNat,T.letter r,T.outF r) w h (fun h=>by omega) (fun h1 _=>by rw[Int.toNat_of_nonneg h1])⟩
 ·have h1:r<0∨1114112≤r:=by omega
  refine⟨false,get_flags c4 (fun i=>(T.pict i,wide i,T.letter i,T.outF i)) r (T.pict r,false,T.letter r,T.outF r) w h (fun h=>by rw[ho.pict0 r h1,ho.letter0 r h1,ho.out0 r h1]) (fun h1 h2=>absurd ⟨h1,h2⟩ hr)⟩
theorem pict_any (g:Nat)(T:TM)(r:Int)(w:World)(h:TabAt w g T)(hr:r32 r):
 Calls Tryz.prog 168 #[.pointer (some ⟨g,0,none⟩),.int .i32 r] w fun e w'=>e=.returned (.bool (T.pict r))∧Kp w w':=by
 obtain⟨c1,c2,c3,c4,c5,m1,m2,wide,h0,hb,h1,h2,h3,h4,h5,h6,h7⟩:=h;obtain⟨b0,b1,b2,b3,b4,b5,b6⟩:=box7 hb;obtain⟨v2,HC⟩:=flags_any c4 T wide r w h4 h0;have HC:=hid HC;obtain⟨r1,r2⟩:=hr;clear h0 hb h1 h2 h3 h4 h5 h6 h7;go_enter Tryz.func168,Tryz.ntmps168;go_wp2_with fail;refine HC.out.mono ?_;rintro e w1 ⟨rfl,k1⟩;obtain⟨f1,f2,f3⟩:=yW (T.pict r) v2 (T.letter r) (T.outF r) w1;go_wp2_with fail;go_ret;exact⟨rfl,k1⟩
theorem letter_any (g:Nat)(T:TM)(r:Int)(w:World)(h:TabAt w g T)(hr:r32 r):
 Calls Tryz.prog 217 #[.pointer (some ⟨g,0,none⟩),.int .i32 r] w fun e w'=>e=.returned (.bool (T.letter r))∧Kp w w':=by
 obtain⟨c1,c2,c3,c4,c5,m1,m2,wide,h0,hb,h1,h2,h3,h4,h5,h6,h7⟩:=h;obtain⟨b0,b1,b2,b3,b4,b5,b6⟩:=box7 hb;obtain⟨v2,HC⟩:=flags_any c4 T wide r w h4 h0;have HC:=hid HC;obtain⟨r1,r2⟩:=hr;clear h0 hb h1 h2 h3 h4 h5 h6 h7;go_enter Tryz.func217,Tryz.ntmps217;go_wp2_with fail;refine HC.out.mono ?_;rintro e w1 ⟨rfl,k1⟩;obtain⟨f1,f2,f3⟩:=yW (T.pict r) v2 (T.letter r) (T.outF r) w1;go_wp2_with fail;go_ret;exact⟨rfl,k1⟩
theorem second_any (g:Nat)(T:TM)(r:Int)(w:World)(h:TabAt w g T)(hr:r32 r):
 Calls Tryz.prog 220 #[.pointer (some ⟨g,0,none⟩),.int .i32 r] w fun e w'=>e=.returned (.bool (T.sec r))∧Kp w w':=by
 obtain⟨c1,c2,c3,c4,c5,m1,m2,wide,h0,hb,h1,h2,h3,h4,h5,h6,h7⟩:=h;obtain⟨b0,b1,b2,b3,b4,b5,b6⟩:=box7 hb;have hl:=h7.now r hr;clear h0 hb h1 h2 h3 h4 h5 h6 h7;go_enter Tryz.func220,Tryz.ntmps220;go_wp2_with fail;go_ret;exact⟨rfl,Kp.refl _⟩
theorem compose_none (g:Nat)(a b:Int)(w:World)(hb:b=0):
 Calls Tryz.prog 162 #[.pointer (some ⟨g,0,none⟩),.int .i32 a,.int .i32 b] w fun e w'=>e=.returned (.tuple #[.int .i32 0,.bool false])∧Kp w w':=by
 subst hb;go_enter Tryz.func162,Tryz.ntmps162;go_wp2_with fail;go_ret2;exact⟨rfl,Kp.refl _⟩
theorem compose_any (g:Nat)(T:TM)(a b:Int)(w:World)(h:TabAt w g T)(ha:r32 a)(hb:r32 b):
 Calls Tryz.prog 162 #[.pointer (some ⟨g,0,none⟩),.int .i32 a,.int .i32 b] w fun e w'=>e=.returned (.tuple #[.int .i32 ((T.comp a b).getD 0),.bool (T.comp a b).isSome])∧Kp w w':=by
 by_cases h0:b=0
 ·rw[show T.comp a b=none by unfold TM.comp;rw[if_pos h0]]
  exact compose_none g a b w h0
 ·rw[show T.comp a b=T.made a b by unfold TM.comp;rw[if_neg h0]]
  have hb0:(b==0)=false:=by simpa using h0
  clear h0;obtain⟨c1,c2,c3,c4,c5,m1,m2,wide,h0,hb',h1,h2,h3,h4,h5,h6,h7⟩:=h;obtain⟨b0,b1,b2,b3,b4,b5,b6⟩:=box7 hb';have hl:=h6.now a b ha hb;clear h0 hb' h1 h2 h3 h4 h5 h6 h7;go_enter Tryz.func162,Tryz.ntmps162;go_wp2_with fail;go_ret2;exact⟨rfl,Kp.refl _⟩
theorem neq_pair (y z:Int)(w:World):(binOp .neq 90 (.agg #[.int .i32 y,.int .i32 z]) (.agg #[.int .i32 0,.int .i32 0])).run Tryz.prog w=.ok (.bool (!(decide (y=0)&&decide (z=0)))) w:=by
 have u3:=Tryz.underlying21;have hS:Tryz.prog.underlying 90=some (.struct (Tryz.prog.fieldsOf 90)):=by kernel_rfl
 have hp:Tryz.prog.stoodInHeld 90=false:=by kernel_rfl
 rw[run_neq_struct,show(10000:Nat)=9999+1 from rfl,run_equalIn_agg w 9999 90 _ _ hS hp];simp only[Program.fieldsOf,Tryz.underlying90];go_simp;by_cases h1:y=0<;>by_cases h2:z=0<;>simp[h1,h2]
theorem xT (g:Nat)(T:TM)(r:Int)(w:World)(h:TabAt w g T)(hr:r32 r):
 Calls Tryz.prog 59 #[.pointer (some ⟨g,0,none⟩),.int .i32 r] w fun e w'=>e=.returned (.tuple #[.int .i32 (T.pr r).1,.int .i32 (T.pr r).2,.bool (T.pairOk r)])∧Kp w w':=by
 obtain⟨c1,c2,c3,c4,c5,m1,m2,wide,h0,hb,h1,h2,h3,h4,h5,h6,h7⟩:=h;obtain⟨b0,b1,b2,b3,b4,b5,b6⟩:=box7 hb;have HC:=hid (get_pair c5 (fun i=>T.pr i) r (T.pr r) w h5 (h0.pr0 r) (fun h1 _=>by rw[Int.toNat_of_nonneg h1]));obtain⟨r1,r2⟩:=hr;clear h0 hb h1 h2 h3 h4 h5 h6 h7;go_enter Tryz.func59,Tryz.ntmps59;go_wp2_with fail;refine HC.out.mono ?_;rintro e w1 ⟨rfl,k1⟩;have hne:∀w,(binOp .neq 90 (.agg #[.int .i32 (T.pr r).1,.int .i32 (T.pr r).2]) (.agg #[.int .i32 0,.int .i32 0])).run Tryz.prog w=.ok (.bool (T.pairOk r)) w:=fun w=>neq_pair _ _ w
 go_upto_region 4 with fail;go_quiet (fail);go_wp2_with fail;refine bodyPost_ret (v:=.tuple #[.int .i32 (T.pr r).1,.int .i32 (T.pr r).2,.bool (T.pairOk r)]) (by simp[results,Tryz.results59,go_sem]) rfl ?_;exact⟨rfl,(k1.alloc _).drewN _⟩
theorem out_no {T:TM}{r:Int}(h:T.pairOk r=false):T.out r=false:=by unfold TM.out;rw[h];rfl
theorem out_b0 {T:TM}{r:Int}(h:T.pairOk r=true)(h2:(T.pr r).2=0):T.out r=true:=by unfold TM.out;rw[h];simp[h2]
theorem out_fl {T:TM}{r:Int}(h:T.pairOk r=true)(h2:T.outF r=true):T.out r=true:=by unfold TM.out;rw[h,h2];simp
theorem out_c1 {T:TM}{r:Int}(h:T.pairOk r=true)(h2:T.cls r≠0):T.out r=true:=by unfold TM.out;rw[h];simp[h2]
theorem out_c2 {T:TM}{r:Int}(h:T.pairOk r=true)(h1:(T.pr r).2≠0)(h2:T.outF r=false)(h3:T.cls r=0):T.out r=(T.cls (T.pr r).1 != 0):=by unfold TM.out;rw[h,h2];simp[h1,h3,bne,BEq.beq]
theorem out_any (g:Nat)(T:TM)(r:Int)(w:World)(h:TabAt w g T)(hr:r32 r):
 Calls Tryz.prog 24 #[.pointer (some ⟨g,0,none⟩),.int .i32 r] w fun e w'=>e=.returned (.bool (T.out r))∧Kp w w':=by
 obtain⟨HT,HR⟩:=hid2 h hr;have h32:=(h.ok.pr32 r).1;have HR2:=hid h32;obtain⟨c1,c2,c3,c4,c5,m1,m2,wide,h0,hb,h1,h2,h3,h4,h5,h6,h7⟩:=h;obtain⟨_,_,_,b3,_,_,_⟩:=box7 hb;have HF:=hid fun(w':World) (k:Kp w w')=>flags_any c4 T wide r w' (h4.kp k) h0
 obtain⟨r1,r2⟩:=hr;clear h0 hb h1 h2 h3 h4 h5 h6 h7 h32;rcases hp:T.pairOk r with _|_
 ·have HV:=hid (out_no hp)
  have HP:=hid hp;clear hp;go_enter Tryz.func24,Tryz.ntmps24;go_wp2_with fail;refine(xT g T r _ HT.out HR.out).mono ?_;rintro e w1 ⟨rfl,k1⟩;rw[HP.out];go_wp2_with fail;go_ret;exact⟨zD HV.out.symm,k1⟩
 ·have HP:=hid hp
  by_cases hb0:(T.pr r).2=0
  ·have HV:=hid (out_b0 hp hb0)
   have hq:((T.pr r).2==0)=true:=by simpa using hb0
   clear hp hb0;go_enter Tryz.func24,Tryz.ntmps24;go_wp2_with fail;refine(xT g T r _ HT.out HR.out).mono ?_;rintro e w1 ⟨rfl,k1⟩;rw[HP.out];go_wp2_with fail;go_ret;exact⟨zD HV.out.symm,k1⟩
  ·have hq:((T.pr r).2==0)=false:=by simpa using hb0
   have HQ:=hid hb0;clear hb0;rcases ho:T.outF r with _|_
   ·have HO:=hid ho
    by_cases hc:T.cls r=0
    ·have hcq:(T.cls r != 0)=false:=by simpa using hc
     have HV:=hid (out_c2 hp HQ.out ho hc);clear hp ho hc;go_enter Tryz.func24,Tryz.ntmps24;go_wp2_with fail;refine(xT g T r _ HT.out HR.out).mono ?_;rintro e w1 ⟨rfl,k1⟩;rw[HP.out];have b3':=zE k1 b3;obtain⟨v2,hf⟩:=HF.out w1 k1;obtain⟨_,_,f3⟩:=yW (T.pict r) v2 (T.letter r) (T.outF r) w1;have HFL:=hid hf;clear hf b3 f3;go_wp2_with fail;refine HFL.out.mono ?_;rintro e w2 ⟨rfl,k2⟩;rw[HO.out];obtain⟨_,_,f3⟩:=yW (T.pict r) v2 (T.letter r) false w2;clear b3';go_wp2_with fail;refine(xD g T r _ (HT.out.kp (k1.trans k2)) HR.out).mono ?_;rintro e w3 ⟨rfl,k3⟩;clear f3;go_wp2_with fail;refine(xD g T (T.pr r).1 _ (HT.out.kp ((k1.trans k2).trans k3)) HR2.out).mono ?_;rintro e w4 ⟨rfl,k4⟩;go_wp2_with fail;go_ret;exact⟨zD HV.out.symm,((k1.trans k2).trans k3).trans k4⟩
    ·have hcq:(T.cls r != 0)=true:=by simpa using hc
     have HV:=hid (out_c1 hp hc);clear hp ho hc;go_enter Tryz.func24,Tryz.ntmps24;go_wp2_with fail;refine(xT g T r _ HT.out HR.out).mono ?_;rintro e w1 ⟨rfl,k1⟩;rw[HP.out];have b3':=zE k1 b3;obtain⟨v2,hf⟩:=HF.out w1 k1;have HFL:=hid hf;clear hf b3;go_wp2_with fail;refine HFL.out.mono ?_;rintro e w2 ⟨rfl,k2⟩;rw[HO.out];obtain⟨_,_,f3⟩:=yW (T.pict r) v2 (T.letter r) false w2;clear b3';go_wp2_with fail;refine(xD g T r _ (HT.out.kp (k1.trans k2)) HR.out).mono ?_;rintro e w3 ⟨rfl,k3⟩;clear f3;go_wp2_with fail;go_ret;exact⟨zD HV.out.symm,(k1.trans k2).trans k3⟩
   ·have HO:=hid ho
    have HV:=hid (out_fl hp ho);clear hp ho;go_enter Tryz.func24,Tryz.ntmps24;go_wp2_with fail;refine(xT g T r _ HT.out HR.out).mono ?_;rintro e w1 ⟨rfl,k1⟩;rw[HP.out];have b3':=zE k1 b3;obtain⟨v2,hf⟩:=HF.out w1 k1;have HFL:=hid hf;clear hf b3;go_wp2_with fail;refine HFL.out.mono ?_;rintro e w2 ⟨rfl,k2⟩;rw[HO.out];obtain⟨_,_,f3⟩:=yW (T.pict r) v2 (T.letter r) true w2;clear b3';go_wp2_with fail;go_ret;exact⟨zD HV.out.symm,k1.trans k2⟩
theorem Sl.cap_to {w:World}{F:Nat→Prop}{size n c c':Nat}{A:Option Addr}{vs:List Value}(h:Sl w F size A n c vs)(h1:n≤c')(h2:c'≤c):Sl w F size A n c' vs:=⟨h1,Nat.le_trans h2 h.cap,h.len,h.at_⟩
theorem dF {p:Prop}[Decidable p](h:¬p):decide p=false:=by simpa using h
theorem dT {p:Prop}[Decidable p](h:p):decide p=true:=by simpa using h
theorem syl_any (r:Int)(w:World):Calls Tryz.prog 190 #[.int .i32 r] w fun e w'=>e=.returned (.bool (sylB r))∧Kp w w':=by
 rcases(by omega:r<44032∨(44032≤r∧r<55204)∨(44032≤r∧55204≤r))with h|⟨h,h2⟩|⟨h,h2⟩
 ·have HV:Hid (sylB r=false):=by show _=_;unfold sylB;simp;omega
  go_enter Tryz.func190,Tryz.ntmps190;go_wp2_with fail;go_ret;exact⟨zD HV.out.symm,Kp.refl _⟩
 ·have HV:Hid (sylB r=true):=by show _=_;unfold sylB;simp;omega
  go_enter Tryz.func190,Tryz.ntmps190;go_wp2_with fail;go_ret;exact⟨zD HV.out.symm,Kp.refl _⟩
 ·have HV:Hid (sylB r=false):=by show _=_;unfold sylB;simp;omega
  have q:=dF (show¬r<55204 by omega);go_enter Tryz.func190,Tryz.ntmps190;go_wp2_with fail;go_ret;exact⟨zD HV.out.symm,Kp.refl _⟩
theorem secH_any (r:Int)(w:World):Calls Tryz.prog 221 #[.int .i32 r] w fun e w'=>e=.returned (.bool (secH r))∧Kp w w':=by
 rcases(by omega:r<4449∨(4449≤r∧r<4470)∨(4470≤r∧r≤4519)∨(4519<r∧r<4547)∨4547≤r)with h|⟨h,h2⟩|⟨h,h2⟩|⟨h,h2⟩|h
 ·have HV:Hid (secH r=false):=by show _=_;unfold secH;simp;omega
  have q0:=dF (show¬4449≤r by omega);have q1:=dF (show¬4519<r by omega);go_enter Tryz.func221,Tryz.ntmps221;go_wp2_with fail;go_ret;exact⟨zD HV.out.symm,Kp.refl _⟩
 ·have HV:Hid (secH r=true):=by show _=_;unfold secH;simp;omega
  have q0:=dT (show 4449≤r by omega);have q1:=dT (show r<4470 by omega);go_enter Tryz.func221,Tryz.ntmps221;go_wp2_with fail;go_ret;exact⟨zD HV.out.symm,Kp.refl _⟩
 ·have HV:Hid (secH r=false):=by show _=_;unfold secH;simp;omega
  have q0:=dT (show 4449≤r by omega);have q1:=dF (show¬r<4470 by omega);have q2:=dF (show¬4519<r by omega);go_enter Tryz.func221,Tryz.ntmps221;go_wp2_with fail;go_ret;exact⟨zD HV.out.symm,Kp.refl _⟩
 ·have HV:Hid (secH r=true):=by show _=_;unfold secH;simp;omega
  have q0:=dT (show 4449≤r by omega);have q1:=dF (show¬r<4470 by omega);have q2:=dT (show 4519<r by omega);have q3:=dT (show r<4547 by omega);go_enter Tryz.func221,Tryz.ntmps221;go_wp2_with fail;go_ret;exact⟨zD HV.out.symm,Kp.refl _⟩
 ·have HV:Hid (secH r=false):=by show _=_;unfold secH;simp;omega
  have q0:=dT (show 4449≤r by omega);have q1:=dF (show¬r<4470 by omega);have q2:=dT (show 4519<r by omega);have q3:=dF (show¬r<4547 by omega);go_enter Tryz.func221,Tryz.ntmps221;go_wp2_with fail;go_ret;exact⟨zD HV.out.symm,Kp.refl _⟩
def RetNew (xs:List Int)(w:World)(e:Ending)(w':World):Prop:=∃A n c,e=.returned (.slice A n c)∧Ru w' (From w.heap.size) A n c xs∧Kp w w'∧(A=none↔xs=[])
theorem split_any (r:Int)(w:World)(_hr:r32 r):Calls Tryz.prog 163 #[.int .i32 r] w (RetNew (yD r) w):=by
 rcases hs:sylB r with _|_
 ·have HV:Hid (yD r=[]):=by show _=_;unfold yD;rw[hs];rfl
  have HS:=hid hs;clear hs;go_enter Tryz.func163,Tryz.ntmps163;go_wp2_with fail;refine(syl_any r _).mono ?_;rintro e w1 ⟨rfl,k1⟩;rw[HS.out];go_wp2_with fail;go_ret;rw[HV.out];exact⟨none,0,0,rfl,Ru.nil _ _,k1,by simp⟩
 ·have hb:44032≤r∧r<55204:=by unfold sylB at hs;simpa using hs
  obtain⟨b1,b2⟩:=hb;by_cases h0:(r - 44032) % 28=0
  ·have HV:Hid (yD r=[4352+(r - 44032) / 588,4449+(r - 44032) / 28 % 21]):=by show _=_;unfold yD;rw[if_pos hs,if_pos h0]
   have HS:=hid hs;have hq:(4519+(r - 44032) % 28==4519)=true:=by simp;omega
   clear hs h0;go_enter Tryz.func163,Tryz.ntmps163;go_wp2_with fail;refine(syl_any r _).mono ?_;rintro e w1 ⟨rfl,k1⟩;rw[HS.out];go_wp2_with fail;go_ret;rw[HV.out];refine⟨_,_,_,rfl,?_,k1.alloc _,by simp⟩;have hn:=Ru.new w1 (From w.heap.size) k1.size [4352+(r - 44032) / 588,4449+(r - 44032) / 28 % 21,4519+(r - 44032) % 28] 317 3 rfl (by omega);exact Sl.cap_to (Ru.take hn (k:=2) (by omega)) le_ (by omega)
  ·have HV:Hid (yD r=[4352+(r - 44032) / 588,4449+(r - 44032) / 28 % 21,4519+(r - 44032) % 28]):=by show _=_;unfold yD;rw[if_pos hs,if_neg h0]
   have HS:=hid hs;have hq:(4519+(r - 44032) % 28==4519)=false:=by simp;omega
   clear hs h0;go_enter Tryz.func163,Tryz.ntmps163;go_wp2_with fail;refine(syl_any r _).mono ?_;rintro e w1 ⟨rfl,k1⟩;rw[HS.out];go_wp2_with fail;go_ret;rw[HV.out];refine⟨_,_,_,rfl,?_,k1.alloc _,by simp⟩;have hn:=Ru.new w1 (From w.heap.size) k1.size [4352+(r - 44032) / 588,4449+(r - 44032) / 28 % 21,4519+(r - 44032) % 28] 317 3 rfl (by omega);exact hn
theorem join_any (a b:Int)(w:World)(ha:r32 a)(hb:r32 b):
 Calls Tryz.prog 161 #[.int .i32 a,.int .i32 b] w fun e w'=>e=.returned (.tuple #[.int .i32 ((joinH a b).getD 0),.bool (joinH a b).isSome])∧Kp w w':=by
 obtain⟨a1,a2⟩:=ha;obtain⟨b1,b2⟩:=hb;by_cases h:4352≤a∧a<4371∧4449≤b∧b<4470
 ·have HV:Hid (joinH a b=some (44032+((a - 4352)*21+b - 4449)*28)):=by show _=_;unfold joinH;rw[if_pos h]
  obtain⟨h1,h2,h3,h4⟩:=h;go_enter Tryz.func161,Tryz.ntmps161;go_wp2_with fail;go_ret2;rw[HV.out];exact⟨rfl,Kp.refl _⟩
 ·have hq:(¬4352≤a∨(4352≤a∧¬a<4371)∨(4352≤a∧a<4371∧¬4449≤b)∨(4352≤a∧a<4371∧4449≤b∧¬b<4470)):=by omega
  by_cases h2:sylB a=true∧(a - 44032) % 28=0∧4519<b∧b<4547
  ·have HV:Hid (joinH a b=some (a+b - 4519)):=by show _=_;unfold joinH;rw[if_neg h,if_pos h2]
   obtain⟨hs,hm,h3,h4⟩:=h2;have hb':44032≤a∧a<55204:=by unfold sylB at hs;simpa using hs
   obtain⟨c1,c2⟩:=hb';have HS:=hid hs;have hmq:((a - 44032) % 28==0)=true:=by simpa using hm
   have q1:=dT (show 4352≤a by omega);have q2:=dF (show¬a<4371 by omega);clear h hq hs hm;go_enter Tryz.func161,Tryz.ntmps161;go_wp2_with fail;refine(syl_any a _).mono ?_;rintro e w1 ⟨rfl,k1⟩;rw[HS.out];go_wp2_with fail;go_ret2;rw[HV.out];exact⟨rfl,k1⟩
  ·have HV:Hid (joinH a b=none):=by show _=_;unfold joinH;rw[if_neg h,if_neg h2]
   have h5:∀(wx:World),Calls Tryz.prog 190 #[.int .i32 a] wx fun e w'=>e=.returned (.bool (sylB a))∧Kp wx w':=fun wx=>syl_any a wx
   have H5:=hid h5;clear h h5;have hz:sylB a=false∨(sylB a=true∧((a - 44032) % 28==0)=false∧44032≤a∧a<55204)∨(sylB a=true∧((a - 44032) % 28==0)=true∧decide (4519<b)=false∧44032≤a∧a<55204)∨(sylB a=true∧((a - 44032) % 28==0)=true∧decide (4519<b)=true∧decide (b<4547)=false∧44032≤a∧a<55204):=by
    rcases hs:sylB a with _|_
    ·exact .inl rfl
    ·have hb':44032≤a∧a<55204:=by unfold sylB at hs;simpa using hs
     right
     by_cases hm:(a - 44032) % 28=0
     ·right
      by_cases h3:4519<b
      ·right;exact⟨rfl,by simpa using hm,dT h3,dF (fun h4=>h2 ⟨hs,hm,h3,h4⟩),hb'⟩
      ·left;exact⟨rfl,by simpa using hm,dF h3,hb'⟩
     ·left;exact⟨rfl,by simpa using hm,hb'⟩
   clear h2;have hq':(decide (4352≤a)=false∨(decide (4352≤a)=true∧decide (a<4371)=false)∨(decide (4352≤a)=true∧decide (a<4371)=true∧decide (4449≤b)=false)∨(decide (4352≤a)=true∧decide (a<4371)=true∧decide (4449≤b)=true∧decide (b<4470)=false)):=by simpa using hq
   clear hq;rcases hq' with q1|⟨q1,q2⟩|⟨q1,q2,q3⟩|⟨q1,q2,q3,q4⟩<;>rcases hz with z1|⟨z1,z2,z3,z4⟩|⟨z1,z2,z3,z4,z5⟩|⟨z1,z2,z3,z4,z5,z6⟩
   all_goals
    have Z1:=hid z1;clear z1;go_enter Tryz.func161,Tryz.ntmps161;go_wp2_with fail;refine(H5.out _).mono ?_;rintro e w1 ⟨rfl,k1⟩;rw[Z1.out];go_wp2_with fail;go_ret2;rw[HV.out];exact⟨rfl,k1⟩
theorem sticks_any (a b:Int)(w:World):Calls Tryz.prog 170 #[.int .i64 a,.int .i64 b] w fun e w'=>e=.returned (.bool (sticksS a b))∧Kp w w':=by
 obtain⟨v,hv⟩:∃v,v=sticksS a b:=⟨_,rfl⟩;rw[←hv];have HV:=hid hv;clear hv;go_enter Tryz.func170,Tryz.ntmps170;go_wp2_with fail
 all_goals
  go_ret;refine⟨zD ?_,Kp.refl _⟩;have h:=HV.out;clear HV;unfold sticksS at h
  simp_all
  try(first|rfl|(rw[Bool.eq_iff_iff];simp;omega))
theorem of_any (g:Nat)(T:TM)(r:Int)(w:World)(h:TabAt w g T)(hr:r32 r):
 Calls Tryz.prog 215 #[.pointer (some ⟨g,0,none⟩),.int .i32 r] w fun e w'=>e=.returned (.int .i64 (quickQ T r))∧Kp w w':=by
 obtain⟨HT,HR⟩:=hid2 h hr;obtain⟨v,hv⟩:∃v,v=quickQ T r:=⟨_,rfl⟩;rw[←hv];have HV:=hid hv;clear hv h hr;rcases ho:T.out r with _|_
 ·rcases h2:T.sec r with _|_
  ·rcases h3:secH r with _|_
   ·have H1:=hid ho
    obtain⟨H2,H3⟩:=hid2 h2 h3;clear ho h2 h3;go_enter Tryz.func215,Tryz.ntmps215;go_wp2_with fail;refine(out_any g T r _ HT.out HR.out).mono ?_;rintro e w1 ⟨rfl,k1⟩;rw[H1.out];go_wp2_with fail;refine(second_any g T r _ (HT.out.kp k1) HR.out).mono ?_;rintro e w2 ⟨rfl,k2⟩;rw[H2.out];go_wp2_with fail;refine(secH_any r _).mono ?_;rintro e w3 ⟨rfl,k3⟩;rw[H3.out];go_wp2_with fail;go_ret;exact⟨zC (by rw[HV.out];unfold quickQ;simp[H1.out,H2.out,H3.out]),(k1.trans k2).trans k3⟩
   ·have H1:=hid ho
    obtain⟨H2,H3⟩:=hid2 h2 h3;clear ho h2 h3;go_enter Tryz.func215,Tryz.ntmps215;go_wp2_with fail;refine(out_any g T r _ HT.out HR.out).mono ?_;rintro e w1 ⟨rfl,k1⟩;rw[H1.out];go_wp2_with fail;refine(second_any g T r _ (HT.out.kp k1) HR.out).mono ?_;rintro e w2 ⟨rfl,k2⟩;rw[H2.out];go_wp2_with fail;refine(secH_any r _).mono ?_;rintro e w3 ⟨rfl,k3⟩;rw[H3.out];go_wp2_with fail;go_ret;exact⟨zC (by rw[HV.out];unfold quickQ;simp[H1.out,H3.out]),(k1.trans k2).trans k3⟩
  ·have H1:=hid ho
   have H2:=hid h2;clear ho h2;go_enter Tryz.func215,Tryz.ntmps215;go_wp2_with fail;refine(out_any g T r _ HT.out HR.out).mono ?_;rintro e w1 ⟨rfl,k1⟩;rw[H1.out];go_wp2_with fail;refine(second_any g T r _ (HT.out.kp k1) HR.out).mono ?_;rintro e w2 ⟨rfl,k2⟩;rw[H2.out];go_wp2_with fail;go_ret;exact⟨zC (by rw[HV.out];unfold quickQ;simp[H1.out,H2.out]),k1.trans k2⟩
 ·have H1:=hid ho
  clear ho;go_enter Tryz.func215,Tryz.ntmps215;go_wp2_with fail;refine(out_any g T r _ HT.out HR.out).mono ?_;rintro e w1 ⟨rfl,k1⟩;rw[H1.out];go_wp2_with fail;go_ret;exact⟨zC (by rw[HV.out];unfold quickQ;simp[H1.out]),k1⟩
end Go.Proofs.YtociefdcccokjaaGreat

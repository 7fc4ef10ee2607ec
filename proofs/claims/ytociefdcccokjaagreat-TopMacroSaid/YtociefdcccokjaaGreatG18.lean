/-
  Lemmas for TopMacro. Conditions: each states its own.
-/
import Derived.Lib.QuietBelow
import Derived.ScopeJumps
import Derived.Test.YtociefdcccokjaaGreatG12
import Derived.Test.YtociefdcccokjaaGreatG17
set_option maxHeartbeats 6400000
set_option maxRecDepth 100000
namespace Go.Proofs.YtociefdcccokjaaGreat
open Go.RowKit Go.Lib
theorem hangs_any (g:Nat)(T:TM)(a b:Int)(w:World)(h:TabAt w g T)(ha:r32 a)(hb:r32 b):
 Calls Tryz.prog 222 #[.pointer (some ⟨g,0,none⟩),.int .i32 a,.int .i32 b] w fun e w'=>e=.returned (.bool (hangsB T a b))∧Kp w w':=by
 obtain⟨v,hv⟩:∃v,v=hangsB T a b:=⟨_,rfl⟩;rw[←hv];obtain⟨HV,HT,HA,HB⟩:=hid4 hv h ha hb;have kk:=Kp.refl w;clear hv h ha hb;by_cases c1:(T.brk b==6)=true
 ·have HN:Hid (v=(T.brk a==6)):=by
   show _=_;rw[HV.out];unfold hangsB;simp at c1;rw[if_pos c1];rfl
  go_enter Tryz.func222,Tryz.ntmps222;go_wp2_with fail;refine(zL g T b _ (HT.out.kp kk) HB.out).mono ?_;rintro e w2 ⟨rfl,k2⟩
  replace kk:=kk.trans k2
  clear k2;go_wp2_with fail;refine(zL g T a _ (HT.out.kp kk) HA.out).mono ?_;rintro e w2 ⟨rfl,k2⟩
  replace kk:=kk.trans k2
  clear k2;go_wp2_with fail;go_ret;exact⟨zD HN.out.symm,kk⟩
 ·have c1':(T.brk b==6)=false:=by simpa using c1
  by_cases c2:(T.brk b==0)=true
  ·have HN:Hid (v=(((T.brk a==5)&&T.pict b)||((T.conj b==2)&&(T.conj a != 0)&&(T.conj a != 2)))):=by
    show _=_;rw[HV.out];unfold hangsB;simp at c1 c2;rw[if_neg c1,if_pos c2];simp[bne];rfl
   clear c1 HV;obtain⟨x2,h2⟩:∃x,x=T.pict b:=⟨_,rfl⟩;rw[←h2]at HN;have H2:Hid (T.pict b=x2):=h2.symm;clear h2;by_cases h1:(T.brk a==5)=true
   ·rw[h1]at HN
    cases x2
    ·skip
     by_cases h3:(T.conj b==2)=true
     ·rw[h3]at HN
      by_cases h4:(T.conj a != 0)=true
      ·rw[h4]at HN
       go_enter Tryz.func222,Tryz.ntmps222;go_wp2_with fail;refine(zL g T b _ (HT.out.kp kk) HB.out).mono ?_;rintro e w2 ⟨rfl,k2⟩
       replace kk:=kk.trans k2
       clear k2;go_wp2_with fail;refine(zL g T a _ (HT.out.kp kk) HA.out).mono ?_;rintro e w2 ⟨rfl,k2⟩
       replace kk:=kk.trans k2
       clear k2;go_wp2_with fail;refine(pict_any g T b _ (HT.out.kp kk) HB.out).mono ?_;rintro e w2 ⟨rfl,k2⟩
       replace kk:=kk.trans k2
       clear k2;rw[H2.out];go_wp2_with fail;refine(yC g T b _ (HT.out.kp kk) HB.out).mono ?_;rintro e w2 ⟨rfl,k2⟩
       replace kk:=kk.trans k2
       clear k2;go_wp2_with fail;refine(yC g T a _ (HT.out.kp kk) HA.out).mono ?_;rintro e w2 ⟨rfl,k2⟩
       replace kk:=kk.trans k2
       clear k2;go_wp2_with fail;refine(yC g T a _ (HT.out.kp kk) HA.out).mono ?_;rintro e w2 ⟨rfl,k2⟩
       replace kk:=kk.trans k2
       clear k2;go_wp2_with fail;go_ret;exact⟨zD (by rw[HN.out];rfl),kk⟩
      ·have h4':(T.conj a != 0)=false:=by simpa using h4
       rw[h4']at HN;clear h4;go_enter Tryz.func222,Tryz.ntmps222;go_wp2_with fail;refine(zL g T b _ (HT.out.kp kk) HB.out).mono ?_;rintro e w2 ⟨rfl,k2⟩
       replace kk:=kk.trans k2
       clear k2;go_wp2_with fail;refine(zL g T a _ (HT.out.kp kk) HA.out).mono ?_;rintro e w2 ⟨rfl,k2⟩
       replace kk:=kk.trans k2
       clear k2;go_wp2_with fail;refine(pict_any g T b _ (HT.out.kp kk) HB.out).mono ?_;rintro e w2 ⟨rfl,k2⟩
       replace kk:=kk.trans k2
       clear k2;rw[H2.out];go_wp2_with fail;refine(yC g T b _ (HT.out.kp kk) HB.out).mono ?_;rintro e w2 ⟨rfl,k2⟩
       replace kk:=kk.trans k2
       clear k2;go_wp2_with fail;refine(yC g T a _ (HT.out.kp kk) HA.out).mono ?_;rintro e w2 ⟨rfl,k2⟩
       replace kk:=kk.trans k2
       clear k2;go_wp2_with fail;go_ret;exact⟨zD (by rw[HN.out];rfl),kk⟩
     ·have h3':(T.conj b==2)=false:=by simpa using h3
      rw[h3']at HN;clear h3;go_enter Tryz.func222,Tryz.ntmps222;go_wp2_with fail;refine(zL g T b _ (HT.out.kp kk) HB.out).mono ?_;rintro e w2 ⟨rfl,k2⟩
      replace kk:=kk.trans k2
      clear k2;go_wp2_with fail;refine(zL g T a _ (HT.out.kp kk) HA.out).mono ?_;rintro e w2 ⟨rfl,k2⟩
      replace kk:=kk.trans k2
      clear k2;go_wp2_with fail;refine(pict_any g T b _ (HT.out.kp kk) HB.out).mono ?_;rintro e w2 ⟨rfl,k2⟩
      replace kk:=kk.trans k2
      clear k2;rw[H2.out];go_wp2_with fail;refine(yC g T b _ (HT.out.kp kk) HB.out).mono ?_;rintro e w2 ⟨rfl,k2⟩
      replace kk:=kk.trans k2
      clear k2;go_wp2_with fail;go_ret;exact⟨zD (by rw[HN.out];rfl),kk⟩
    ·skip
     go_enter Tryz.func222,Tryz.ntmps222;go_wp2_with fail;refine(zL g T b _ (HT.out.kp kk) HB.out).mono ?_;rintro e w2 ⟨rfl,k2⟩
     replace kk:=kk.trans k2
     clear k2;go_wp2_with fail;refine(zL g T a _ (HT.out.kp kk) HA.out).mono ?_;rintro e w2 ⟨rfl,k2⟩
     replace kk:=kk.trans k2
     clear k2;go_wp2_with fail;refine(pict_any g T b _ (HT.out.kp kk) HB.out).mono ?_;rintro e w2 ⟨rfl,k2⟩
     replace kk:=kk.trans k2
     clear k2;rw[H2.out];go_wp2_with fail;go_ret;exact⟨zD (by rw[HN.out];rfl),kk⟩
   ·have h1':(T.brk a==5)=false:=by simpa using h1
    rw[h1']at HN;clear h1;by_cases h3:(T.conj b==2)=true
    ·rw[h3]at HN
     by_cases h4:(T.conj a != 0)=true
     ·rw[h4]at HN
      go_enter Tryz.func222,Tryz.ntmps222;go_wp2_with fail;refine(zL g T b _ (HT.out.kp kk) HB.out).mono ?_;rintro e w2 ⟨rfl,k2⟩
      replace kk:=kk.trans k2
      clear k2;go_wp2_with fail;refine(zL g T a _ (HT.out.kp kk) HA.out).mono ?_;rintro e w2 ⟨rfl,k2⟩
      replace kk:=kk.trans k2
      clear k2;go_wp2_with fail;refine(yC g T b _ (HT.out.kp kk) HB.out).mono ?_;rintro e w2 ⟨rfl,k2⟩
      replace kk:=kk.trans k2
      clear k2;go_wp2_with fail;refine(yC g T a _ (HT.out.kp kk) HA.out).mono ?_;rintro e w2 ⟨rfl,k2⟩
      replace kk:=kk.trans k2
      clear k2;go_wp2_with fail;refine(yC g T a _ (HT.out.kp kk) HA.out).mono ?_;rintro e w2 ⟨rfl,k2⟩
      replace kk:=kk.trans k2
      clear k2;go_wp2_with fail;go_ret;exact⟨zD (by rw[HN.out];rfl),kk⟩
     ·have h4':(T.conj a != 0)=false:=by simpa using h4
      rw[h4']at HN;clear h4;go_enter Tryz.func222,Tryz.ntmps222;go_wp2_with fail;refine(zL g T b _ (HT.out.kp kk) HB.out).mono ?_;rintro e w2 ⟨rfl,k2⟩
      replace kk:=kk.trans k2
      clear k2;go_wp2_with fail;refine(zL g T a _ (HT.out.kp kk) HA.out).mono ?_;rintro e w2 ⟨rfl,k2⟩
      replace kk:=kk.trans k2
      clear k2;go_wp2_with fail;refine(yC g T b _ (HT.out.kp kk) HB.out).mono ?_;rintro e w2 ⟨rfl,k2⟩
      replace kk:=kk.trans k2
      clear k2;go_wp2_with fail;refine(yC g T a _ (HT.out.kp kk) HA.out).mono ?_;rintro e w2 ⟨rfl,k2⟩
      replace kk:=kk.trans k2
      clear k2;go_wp2_with fail;go_ret;exact⟨zD (by rw[HN.out];rfl),kk⟩
    ·have h3':(T.conj b==2)=false:=by simpa using h3
     rw[h3']at HN;clear h3;go_enter Tryz.func222,Tryz.ntmps222;go_wp2_with fail;refine(zL g T b _ (HT.out.kp kk) HB.out).mono ?_;rintro e w2 ⟨rfl,k2⟩
     replace kk:=kk.trans k2
     clear k2;go_wp2_with fail;refine(zL g T a _ (HT.out.kp kk) HA.out).mono ?_;rintro e w2 ⟨rfl,k2⟩
     replace kk:=kk.trans k2
     clear k2;go_wp2_with fail;refine(yC g T b _ (HT.out.kp kk) HB.out).mono ?_;rintro e w2 ⟨rfl,k2⟩
     replace kk:=kk.trans k2
     clear k2;go_wp2_with fail;go_ret;exact⟨zD (by rw[HN.out];rfl),kk⟩
  ·have c2':(T.brk b==0)=false:=by simpa using c2
   have HN:Hid (v=false):=by
    show _=_;rw[HV.out];unfold hangsB;simp at c1 c2;rw[if_neg c1,if_neg c2]
   go_enter Tryz.func222,Tryz.ntmps222;go_wp2_with fail;refine(zL g T b _ (HT.out.kp kk) HB.out).mono ?_;rintro e w2 ⟨rfl,k2⟩;go_wp2_with fail;go_ret;exact⟨zD HN.out.symm,k2⟩
theorem sureB_yes {T:TM}{l:List Int}{i:Nat}(h1:(yO T (yO T SSt.zero (gN l i)).1 (gN l (i+1))).2=true)(h2:hangsB T (gN l i) (gN l (i+1))=false):sureB T l (i+1)=i+1:=by
 unfold sureB;rw[if_pos ⟨h1,h2⟩]
theorem sureB_no {T:TM}{l:List Int}{i:Nat}(h:¬((yO T (yO T SSt.zero (gN l i)).1 (gN l (i+1))).2=true∧hangsB T (gN l i) (gN l (i+1))=false)):sureB T l (i+1)=sureB T l i:=by
 conv=>lhs;unfold sureB
 rw[if_neg h]
theorem cell5 {w:World}{b:Nat}{a:Addr}{q:Value}(h:w.cell? a=some q)(n:a.block≠b)(x y z u v:Value):(set5 w b x y z u v).cell? a=some q:=by
 have hk:(set5 w b x y z u v).heap[a.block]? =w.heap[a.block]? :=by
  unfold set5;rw[Below.heap_setCell _ _ _ _ n,Below.heap_setCell _ _ _ _ n,Below.heap_setCell _ _ _ _ n,Below.heap_setCell _ _ _ _ n,Below.heap_setCell _ _ _ _ n]
 rw[World.cell?_of_block (w:=w) hk];exact h
theorem sure_any (F:Nat→Prop)(g:Nat)(T:TM)(A:Option Addr)(n c:Nat)(l:List Int)(at_:Nat)(w:World)(h:TabAt w g T)(hl:Ru w F A n c l)(h32:R32ok l)(ha:at_<n):
 Calls Tryz.prog 216 #[.pointer (some ⟨g,0,none⟩),.slice A n c,.int .i64 (at_:Int)] w fun e w'=>e=.returned (.int .i64 (sureB T l at_:Int))∧Kp w w':=by
 obtain⟨v,hv⟩:∃v,v=sureB T l at_:=⟨_,rfl⟩;rw[←hv];have HV:=hid hv;have hle:=hl.le;have hcap:=hl.cap;unfold maxLen at hcap;obtain⟨HT,H32,HRL⟩:=hid3 h h32 hl;clear h h32 hl hv;go_enter Tryz.func216,Tryz.ntmps216;go_wp2_with fail;go_loopw [2] (fun u wr=>∃k:Nat,u=.int .i64 (k:Int)∧k<n∧Kp w wr∧Hid (v=sureB T l k)) (fun u _=>(intOf u).toNat)
 case atStart=>exact⟨at_,rfl,ha,Kp.refl w,HV.out⟩
 case round=>
  clear HV;obtain⟨k,rfl,hk,kr,hvk⟩:=hrel;by_cases hk0:(k:Int)>0
  ·obtain⟨i,hi⟩:∃i,k=i+1:=⟨k - 1,by omega⟩
   have i1:(k:Int) - 1=(i:Int):=by omega
   obtain⟨ad,rfl,hc1⟩:=(HRL.out.kp kr).getN (k:=i) (by omega);obtain⟨ad',he,hc2⟩:=(HRL.out.kp kr).getN (k:=k) hk
   injection he with he
   subst he;obtain⟨HX1,HX2⟩:=hid2 (H32.out.get (k:=i)) (H32.out.get (k:=k));have hin:i<n:=by omega
   have HI:=hid hi;have hy:=@sureB_yes T l i;have hn:=@sureB_no T l i;rw[←hi]at hy hn;have hst1:=fun(wx:World) (hx:TabAt wx g T)=>step_any g T SSt.zero (gN l i) wx hx HX1.out
   have hst2:=fun(wx:World) (hx:TabAt wx g T)=>step_any g T (yO T SSt.zero (gN l i)).1 (gN l k) wx hx HX2.out
   have hhg:=fun(wx:World) (hx:TabAt wx g T)=>hangs_any g T (gN l i) (gN l k) wx hx HX1.out HX2.out
   generalize hangsB T (gN l i) (gN l k)=hb at *;generalize yO T SSt.zero (gN l i)=p1 at *;obtain⟨s,cb1⟩:=p1;dsimp only at hy hn hst2;generalize yO T s (gN l k)=p2 at *;obtain⟨sn,cb⟩:=p2;unfold RetStep sstV at hst1 hst2;unfold SSt.zero at hst1;dsimp only at hy hn hst1 hst2;obtain⟨HY,HN,HST1,HST,HHG⟩:=hid5 hy hn hst1 hst2 hhg;clear hi hst1 hst2 hhg hy hn;generalize gN l i=x0 at *;generalize gN l k=x at *;go_upto_region 4 with fail;have bz:=Bx.new wr #[.bool false,.int .i64 0,.int .i64 0,.int .i64 0,.bool false] 263;have kz:=kr.alloc (.cells #[.bool false,.int .i64 0,.int .i64 0,.int .i64 0,.bool false] 263);have hcA:=zE ((Kp.refl wr).alloc (.cells #[.bool false,.int .i64 0,.int .i64 0,.int .i64 0,.bool false] 263)) hc1;have hcB:=zE ((Kp.refl wr).alloc (.cells #[.bool false,.int .i64 0,.int .i64 0,.int .i64 0,.bool false] 263)) hc2;have hnX:(ad.add k).block≠wr.heap.size:=Nat.ne_of_lt (World.block_lt_of_cell? wr _ hc2);have hnX0:(ad.add i).block≠wr.heap.size:=Nat.ne_of_lt (World.block_lt_of_cell? wr _ hc1);have hwX:w.heap.size≤wr.heap.size:=kr.size;generalize(wr.alloc (.cells #[.bool false,.int .i64 0,.int .i64 0,.int .i64 0,.bool false] 263))=wa at *;clear hc1 hc2 kr;generalize wr.heap.size=X at *;obtain⟨⟨p0,p1,p2,p3,p4⟩,f0,f1,f2,f3,f4⟩:=bz.five;have hwi:IntKind.i64.wrap (i:Int)=(i:Int):=zV (by omega) (by omega);have hc63:n≤c:=hle;have hlt0:=bz.lt;go_cut [] (fun wx=>Bx wx X #[.bool s.some_,.int .i64 s.last,.int .i64 s.pict,.int .i64 s.conj,.bool s.odd] 263∧Kp w wx∧wx.cell? (ad.add k)=some (.int .i32 x)∧wx.cell? (ad.add i)=some (.int .i32 x0))
   case first=>
    go_region_with ((go_at_call 138;refine(HST1.out _ (by first|exact HT.out.kp kz.drew|exact HT.out.kp kz)).mono ?_;rintro e w1 ⟨rfl,k1⟩;have k1':Kp wa w1:=(by first|exact k1|exact(Kp.refl wa).drew.trans k1);have b1:=bz.kp k1';obtain⟨⟨u0,u1,u2,u3,u4⟩,v0,v1,v2,v3,v4⟩:=b1.five))
    all_goals
     go_wp2_with fail;go_meet;exact⟨bx_set5 b1 (.bool s.some_) (.int .i64 s.last) (.int .i64 s.pict) (.int .i64 s.conj) (.bool s.odd),set5_kp (kz.trans k1') hwX (.bool s.some_) (.int .i64 s.last) (.int .i64 s.pict) (.int .i64 s.conj) (.bool s.odd),cell5 (zE k1' hcB) hnX _ _ _ _ _,cell5 (zE k1' hcA) hnX0 _ _ _ _ _⟩
   case rest=>
   obtain⟨br,kr,hck,hck0⟩:=hcut;obtain⟨wb,hwb⟩:∃wb,wb=wc:=⟨_,rfl⟩;subst hwb;clear bz kz hcA hcB p0 p1 p2 p3 p4 f0 f1 f2 f3 f4 HST1;go_upto_region 5 with fail;have HTR:=hid (HT.out.kp kr);obtain⟨⟨p0,p1,p2,p3,p4⟩,f0,f1,f2,f3,f4⟩:=br.five;have hbl:(ad.add k).block≠wb.heap.size:=Nat.ne_of_lt (World.block_lt_of_cell? wb _ hck);go_cut [8,9] (fun qb v wx=>∃nb:Nat,qb=.pointer (some ⟨nb,0,none⟩)∧v=.bool cb∧Kp wb wx)
   case first=>
    have nB:X≠wb.heap.size:=Nat.ne_of_lt br.lt;go_region_held3 (fun w'=>w'.cell? ⟨X,0,none⟩=some (.bool s.some_)∧w'.cell? ⟨X,1,none⟩=some (.int .i64 s.last)∧w'.cell? ⟨X,2,none⟩=some (.int .i64 s.pict)∧w'.cell? ⟨X,3,none⟩=some (.int .i64 s.conj)∧w'.cell? ⟨X,4,none⟩=some (.bool s.odd)∧w'.cell? (ad.add k)=some (.int .i32 x))
     (first|(with_reducible exact⟨u0,u1,u2,u3,u4,uc⟩)|(with_reducible exact held5 b1 uc nB mB _ _ _ _ _)|(with_reducible exact held5 (b1.alloc _) ucA nB1 mB1 _ _ _ _ _)|go_keep)
     ((go_at_call 138;go_loud (refine(HST.out _ (by first|exact HTR.out.kp (Kp.refl wb).drew|exact HTR.out.kp ((Kp.refl wb).drew.alloc _))).mono ?_);rintro e w2 ⟨rfl,k2⟩;(first|(have k0:Kp wb w2:=(Kp.refl wb).drew.trans k2)|(have k0:Kp wb w2:=((Kp.refl wb).drew.alloc _).trans k2));have b1:=br.kp k0;have uc:=zE k0 hck;have nB1:X≠w2.heap.size:=Nat.ne_of_lt b1.lt;have mB:(ad.add k).block≠wb.heap.size:=hbl;have mB1:(ad.add k).block≠w2.heap.size:=Nat.ne_of_lt (World.block_lt_of_cell? w2 _ uc);have ucA:∀o:Obj,(w2.alloc o).cell? (ad.add k)=some (.int .i32 x):=fun o=>zE ((Kp.refl w2).alloc o) uc;have hz1:=k0.size;(first|(have f0:Bx w2 wb.heap.size _ _:=Bx.kp (Bx.new wb.drew _ _) k2;have hl0:=f0.lt;obtain⟨⟨a0,a1,a2,a3,a4⟩,d0,d1,d2,d3,d4⟩:=f0.five)|skip);obtain⟨⟨u0,u1,u2,u3,u4⟩,v0,v1,v2,v3,v4⟩:=b1.five;obtain⟨⟨x0,x1,x2,x3,x4⟩,y0,y1,y2,y3,y4⟩:=Bx.five (Bx.new w2 #[.bool false,.int .i64 0,.int .i64 0,.int .i64 0,.bool false] 263)))
    all_goals go_wp2_with fail
    all_goals go_meet
    all_goals first
     |exact⟨wb.heap.size,rfl,rfl,set5_kp k0 le_ (.bool sn.some_) (.int .i64 sn.last) (.int .i64 sn.pict) (.int .i64 sn.conj) (.bool sn.odd)⟩
     |exact⟨w2.heap.size,rfl,rfl,k0.alloc _⟩
   case rest=>
    obtain⟨nb,rfl,rfl,kk⟩:=hcut;have hd1:=zE kk hck;have hd0:=zE kk hck0;have kw:=kr.trans kk;have HTC:=hid (HT.out.kp kw);clear br kr p0 p1 p2 p3 p4 f0 f1 f2 f3 f4 hck hck0 hbl HTR HST kk;go_upto_region 6 with fail;cases cb
    ·have HNX:Hid (v=sureB T l i):=by
      show _=_;rw[hvk.out];exact HN.out (by simp)
     go_quiet (fail);go_wp2_with fail;go_roundw
     case rel=>exact⟨i,rfl,hin,by first|exact kw|exact kw.drewN _|exact kw.drew,HNX.out⟩
     case measure=>have:=HI.out;simp[intOf];omega
    ·have z0:=cell_regrown hd0
     have z1:=cell_regrown hd1;refine wp_region_quiet_below (by kernel_rfl) (by kernel_rfl) ?_;repeat(first|go_big_quiet_step (first|(go_at_call 222;exact Calls.regrown_of (HHG.out _ (HTC.out.kp (below_regrown wc _ _))))))
     refine wpQuiet_nil ?_;intro w9 hw';obtain⟨⟨dq,osq⟩,hw''⟩:=hw';have k9:Kp wc w9:=by rw[hw''];exact below_regrown wc dq osq
     have k10:=kw.trans k9;clear hw'' z0 z1 k9 kw;cases hb
     ·have HNX:Hid (v=k):=by
       show _=_;rw[hvk.out];exact HY.out rfl rfl
      go_wp2_with fail;go_ret;exact⟨zC (by rw[HNX.out]),k10⟩
     ·have HNX:Hid (v=sureB T l i):=by
       show _=_;rw[hvk.out];exact HN.out (by simp)
      go_wp2_with fail;go_roundw
      case rel=>exact⟨i,rfl,hin,k10,HNX.out⟩
      case measure=>have:=HI.out;simp[intOf];omega
  ·have HNX:Hid (v=0):=by
    have :k=0:=by omega
    show _=_;rw[hvk.out,this];rfl
   go_wp2_with fail;go_ret;exact⟨zC (by rw[HNX.out];rfl),kr⟩
theorem bfloor_any (F:Nat→Prop)(g:Nat)(T:TM)(A:Option Addr)(n c:Nat)(l:List Int)(at_:Int)(w:World)(h:TabAt w g T)(hl:Ru w F A n c l)(h32:R32ok l):
 Calls Tryz.prog 209 #[.pointer (some ⟨g,0,none⟩),.slice A n c,.int .i64 at_] w fun e w'=>e=.returned (.int .i64 (xC T l at_))∧Kp w w':=by
 obtain⟨v,hv⟩:∃v,v=xC T l at_:=⟨_,rfl⟩;rw[←hv];unfold xC at hv;rw[hl.len]at hv;obtain⟨HV,HT,H32,HL,HRL⟩:=hid5 hv h h32 hl.len hl;clear hv;by_cases c1:at_≤0
 ·have HN:Hid (v=0):=by show _=_;rw[HV.out,if_pos c1]
  have q1:=dT c1;clear HV h hl h32;go_enter Tryz.func209,Tryz.ntmps209;go_wp2_with fail;try go_step3
  go_wp2_with fail;try rw[Exit.noGoto_ret]
  go_ret;exact⟨zC HN.out.symm,Kp.refl w⟩
 ·have q1:=dF c1
  by_cases c2:at_≥(n:Int)
  ·have HN:Hid (v=(n:Int)):=by show _=_;rw[HV.out,if_neg c1,if_pos c2]
   have q2:=dT c2;clear HV h hl h32;go_enter Tryz.func209,Tryz.ntmps209;go_wp2_with fail;try go_step3
   go_wp2_with fail;try rw[Exit.noGoto_ret]
   go_ret;exact⟨zC HN.out.symm,Kp.refl w⟩
  ·have q2:=dF c2
   obtain⟨a,rfl⟩:∃a:Nat,at_=a:=⟨at_.toNat,by omega⟩;have HN:Hid (v=walkB T l a a (sureB T l a)):=by show _=_;rw[HV.out,if_neg c1,if_neg (by omega)];rfl
   have HSU:=hid (sure_any F g T A n c l a w h hl h32 (by omega));have hsl:=sureB_le T l a;have han:a<n:=by omega
   clear HV h hl h32;generalize sureB T l a=s0 at *;go_enter Tryz.func209,Tryz.ntmps209;go_wp2_with fail;try go_step3
   go_wp2_with fail;refine HSU.out.mono ?_;rintro e w1 ⟨rfl,k1⟩;have HK1:=hid k1;clear k1 HSU c1 c2;go_wp2_with fail;try(go_step3;go_wp2_with fail)
   go_loopg [7] a (fun g2 u wr=>∃f:Nat,u=.int .i64 (f:Int)∧f≤a∧a≤f+g2∧Kp w wr∧Hid (v=walkB T l a g2 f))
   case atStart=>exact⟨s0,rfl,hsl,by omega,HK1.out,HN.out⟩
   case round=>
    clear HN HK1;obtain⟨f,rfl,hfa,hfg,kr,hvk⟩:=hrel;by_cases hlt:(f:Int)<(a:Int)
    ·have hnx:=yA T l f (by rw[HL.out];omega) (by omega)
     have HNX:=hid (next_any F g T A n c l f wr (HT.out.kp kr) (HRL.out.kp kr) H32.out);obtain⟨x',hx'⟩:∃x':Nat,zP T l f=x':=⟨(zP T l f).toNat,by omega⟩;obtain⟨g',hg'⟩:∃g',gk=g'+1:=⟨gk - 1,by omega⟩;have hwk:walkB T l a gk f=if(a:Int)<x' then(f:Int)else walkB T l a (gk - 1) x':=by
      rw[hg']
      conv=>lhs;unfold walkB
      rw[if_pos hlt,hx'];rfl
     have HWK:=hid hwk;rw[hx']at hnx HNX;clear hx' hg' hwk;by_cases hx:(x':Int)>(a:Int)
     ·have HE:Hid (v=(f:Int)):=by show _=_;rw[hvk.out,HWK.out,if_pos hx]
      have r1:=dT hx;clear HWK hvk;go_wp2_with fail;refine HNX.out.mono ?_;rintro e w2 ⟨rfl,k2⟩;go_wp2_with fail;try rw[Exit.noGoto_ret]
      go_ret;exact⟨zC HE.out.symm,kr.trans k2⟩
     ·have HE:Hid (v=walkB T l a (gk - 1) x'):=by show _=_;rw[hvk.out,HWK.out,if_neg hx]
      have r1:=dF hx;clear HWK hvk;go_wp2_with fail;refine HNX.out.mono ?_;rintro e w2 ⟨rfl,k2⟩;go_wp2_with fail;go_roundg (gk - 1)
      case measure=>omega
      case rel=>exact⟨x',rfl,by omega,by omega,kr.trans k2,HE.out⟩
    ·have HE:Hid (v=(f:Int)):=by
      show _=_;rw[hvk.out];cases gk with
      |zero=>rfl
      |succ k=>unfold walkB;rw[if_neg hlt]
     go_wp2_with fail;try rw[Exit.noGoto_ret]
     go_ret;exact⟨zC HE.out.symm,kr⟩
theorem bceil_any (F:Nat→Prop)(g:Nat)(T:TM)(A:Option Addr)(n c:Nat)(l:List Int)(at_:Int)(w:World)(h:TabAt w g T)(hl:Ru w F A n c l)(h32:R32ok l):
 Calls Tryz.prog 212 #[.pointer (some ⟨g,0,none⟩),.slice A n c,.int .i64 at_] w fun e w'=>e=.returned (.int .i64 (ceilB T l at_))∧Kp w w':=by
 obtain⟨v,hv⟩:∃v,v=ceilB T l at_:=⟨_,rfl⟩;rw[←hv];unfold ceilB at hv;obtain⟨HV,HF,HNX⟩:=hid3 hv (bfloor_any F g T A n c l at_ w h hl h32) (fun(wx:World) (k:Kp w wx)=>next_any F g T A n c l (xC T l at_) wx (h.kp k) (hl.kp k) h32);clear hv h hl h32;generalize xC T l at_=f at *;generalize zP T l f=x at *;by_cases c1:f≥at_
 ·have HN:Hid (v=f):=by show _=_;rw[HV.out,if_pos c1]
  have q1:=dT c1;clear HV;go_enter Tryz.func212,Tryz.ntmps212;go_wp2_with fail;refine HF.out.mono ?_;rintro e w1 ⟨rfl,k1⟩;go_wp2_with fail;go_ret;exact⟨zC HN.out.symm,k1⟩
 ·have HN:Hid (v=x):=by show _=_;rw[HV.out,if_neg c1]
  have q1:=dF c1;clear HV;go_enter Tryz.func212,Tryz.ntmps212;go_wp2_with fail;refine HF.out.mono ?_;rintro e w1 ⟨rfl,k1⟩;go_wp2_with fail;refine(HNX.out _ k1).mono ?_;rintro e w2 ⟨rfl,k2⟩;go_wp2_with fail;go_ret;exact⟨zC HN.out.symm,k1.trans k2⟩
theorem prev_any (F:Nat→Prop)(g:Nat)(T:TM)(A:Option Addr)(n c:Nat)(l:List Int)(at_:Int)(w:World)(h:TabAt w g T)(hl:Ru w F A n c l)(h32:R32ok l)(hn:n≤1099511627776):
 Calls Tryz.prog 210 #[.pointer (some ⟨g,0,none⟩),.slice A n c,.int .i64 at_] w fun e w'=>e=.returned (.int .i64 (prevB T l at_))∧Kp w w':=by
 obtain⟨x,hx⟩:∃x,x=max (min at_ ((n:Int)+1)) 0 - 1:=⟨_,rfl⟩;have hv:prevB T l at_=xC T l x:=by unfold prevB;rw[hl.len,hx]
 rw[hv];have h3:(at_<0∧x= -1)∨(0≤at_∧at_≤(n:Int)+1∧x=at_ - 1)∨((n:Int)+1<at_∧x=(n:Int)):=by omega
 have HF:=hid (fun(y:Int)=>bfloor_any F g T A n c l y w h hl h32);clear hx hv h hl h32;rcases h3 with⟨h3,rfl⟩|⟨h3,h4,rfl⟩|⟨h3,rfl⟩
 all_goals
  go_enter Tryz.func210,Tryz.ntmps210;go_wp2_with fail;refine(HF.out _).mono ?_;rintro e w1 ⟨rfl,k1⟩;go_wp2_with fail;go_ret;exact⟨rfl,k1⟩
theorem inside_any (F:Nat→Prop)(g:Nat)(T:TM)(A:Option Addr)(n c:Nat)(l:List Int)(at_:Int)(w:World)(h:TabAt w g T)(hl:Ru w F A n c l)(h32:R32ok l)(h0:0≤at_):
 Calls Tryz.prog 211 #[.pointer (some ⟨g,0,none⟩),.slice A n c,.int .i64 at_] w fun e w'=>e=.returned (.bool (zN T l at_))∧Kp w w':=by
 obtain⟨k,rfl⟩:∃k:Nat,at_=k:=⟨at_.toNat,by omega⟩;obtain⟨v,hv⟩:∃v,v=zN T l k:=⟨_,rfl⟩;rw[←hv];have HV:Hid (v=(decide ((k:Int)<n)&&T.letter (gN l k))):=by show _=_;rw[hv];unfold zN;rw[hl.len];rfl
 have hle:=hl.le;have hcap:=hl.cap;unfold maxLen at hcap;clear hv h0;by_cases c1:(k:Int)<(n:Int)
 ·obtain⟨ad,rfl,hck⟩:=hl.getN (k:=k) (by omega)
  have HLE:=hid (letter_any g T (gN l k) w h h32.get);have HN:Hid (v=T.letter (gN l k)):=by show _=_;rw[HV.out,decide_eq_true c1];rfl
  have q1:=dT c1;clear HV h hl h32;generalize T.letter (gN l k)=u at *;generalize gN l k=x at *;go_enter Tryz.func211,Tryz.ntmps211;go_wp2_with fail;refine HLE.out.mono ?_;rintro e w1 ⟨rfl,k1⟩;go_wp2_with fail;go_ret;exact⟨zD HN.out.symm,k1⟩
 ·have HN:Hid (v=false):=by show _=_;rw[HV.out,decide_eq_false c1];rfl
  have q1:=dF c1;clear HV h hl h32;go_enter Tryz.func211,Tryz.ntmps211;go_wp2_with fail;go_ret;exact⟨zD HN.out.symm,Kp.refl w⟩
theorem backW_step {T:TM}{l:List Int}{k:Nat}{x:Int}{b:Bool}(h:0<x):backW T l (k+1) x b=if(b&&!zN T l (prevB T l x))=true then x else backW T l k (prevB T l x) (b||zN T l (prevB T l x)):=by
 conv=>lhs;unfold backW
 rw[if_pos h]
theorem backW_end {T:TM}{l:List Int}{x:Int}{b:Bool}(h:¬0<x):∀k,backW T l k x b=x
 |0=>rfl
 |k+1=>by unfold backW;rw[if_neg h]
theorem wordBack_any (F:Nat→Prop)(g:Nat)(T:TM)(A:Option Addr)(n c:Nat)(l:List Int)(at_:Int)(w:World)(h:TabAt w g T)(hl:Ru w F A n c l)(h32:R32ok l)(hn:n≤1099511627776):
 Calls Tryz.prog 198 #[.pointer (some ⟨g,0,none⟩),.slice A n c,.int .i64 at_] w fun e w'=>e=.returned (.int .i64 (wordBackW T l at_))∧Kp w w':=by
 obtain⟨v,hv⟩:∃v,v=wordBackW T l at_:=⟨_,rfl⟩;rw[←hv];unfold wordBackW at hv;rw[hl.len]at hv;obtain⟨HV,HL,HF,HPR,HIN⟩:=hid5 hv hl.len (bfloor_any F g T A n c l at_ w h hl h32) (fun(wx:World) (k:Kp w wx) (y:Int)=>prev_any F g T A n c l y wx (h.kp k) (hl.kp k) h32 hn) (fun(wx:World) (k:Kp w wx) (y:Int) (h0:0≤y)=>inside_any F g T A n c l y wx (h.kp k) (hl.kp k) h32 h0);have hfl:=floorB_in T l at_;rw[hl.len]at hfl;obtain⟨f,hf⟩:∃f:Nat,xC T l at_=f:=⟨(xC T l at_).toNat,by omega⟩;rw[hf]at hfl HV HF;have hfn:f≤n:=by omega
 clear hv h hl h32 hfl hf;go_enter Tryz.func198,Tryz.ntmps198;go_wp2_with fail;refine HF.out.mono ?_;rintro e w1 ⟨rfl,k1⟩;have HK:=hid k1;clear k1 HF;go_wp2_with fail;go_loopg [2,7] n (fun g2 u1 u2 wr=>∃(x:Nat) (b:Bool),u1=.int .i64 (x:Int)∧u2=.bool b∧x≤n∧x≤g2∧Kp w wr∧Hid (v=backW T l g2 x b))
 case atStart=>exact⟨f,false,rfl,rfl,hfn,hfn,HK.out,HV.out⟩
 case round=>
  clear HV HK;obtain⟨x,b,rfl,rfl,hxn,hxg,kr,hvk⟩:=hrel;by_cases hx:(x:Int)>0
  ·have hp:=prevB_in T l x hx (by rw[HL.out];omega)
   obtain⟨g',hg'⟩:∃g',gk=g'+1:=⟨gk - 1,by omega⟩;have hst:=hvk.out;rw[hg',backW_step hx]at hst;have H1:=hid (HPR.out wr kr x);obtain⟨p,hpp⟩:∃p:Nat,prevB T l x=p:=⟨(prevB T l x).toNat,by omega⟩;rw[hpp]at hst hp H1;have H2:=hid (fun(wx:World) (k:Kp w wx)=>HIN.out wx k p (by omega));obtain⟨i,hi⟩:∃i,i=zN T l p:=⟨_,rfl⟩;rw[←hi]at hst H2;obtain⟨HST,HG⟩:=hid2 hst hg';clear hst hi hpp hvk hg';cases b<;>cases i
   all_goals
    go_wp2_with fail;refine H1.out.mono ?_;rintro e w2 ⟨rfl,k2⟩;have k3:=kr.trans k2;clear k2;go_wp2_with fail;refine(H2.out _ k3).mono ?_;rintro e w4 ⟨rfl,k4⟩;have k5:=k3.trans k4;clear k4;go_wp2_with fail
   ·go_roundg g'
    case measure=>have:=HG.out;omega
    case rel=>exact⟨p,false,rfl,rfl,by omega,by have:=HG.out;omega,k5,by show _=_;rw[HST.out];rfl⟩
   ·go_roundg g'
    case measure=>have:=HG.out;omega
    case rel=>exact⟨p,true,rfl,rfl,by omega,by have:=HG.out;omega,k5,by show _=_;rw[HST.out];rfl⟩
   ·go_ret
    exact⟨zC (by rw[HST.out];rfl),k5⟩
   ·go_roundg g'
    case measure=>have:=HG.out;omega
    case rel=>exact⟨p,true,rfl,rfl,by omega,by have:=HG.out;omega,k5,by show _=_;rw[HST.out];rfl⟩
  ·have HE:Hid (v=(x:Int)):=by show _=_;rw[hvk.out,backW_end hx]
   go_wp2_with fail;go_ret;exact⟨zC HE.out.symm,kr⟩
theorem skipW_yes {T:TM}{l:List Int}{k:Nat}{a:Int}(h:a<l.length)(h2:zN T l a=false):skipW T l (k+1) a=skipW T l k (zP T l a):=by
 conv=>lhs;unfold skipW
 rw[if_pos ⟨h,h2⟩]
theorem skipW_no {T:TM}{l:List Int}{a:Int}(h:¬(a<l.length∧zN T l a=false)):∀k,skipW T l k a=a
 |0=>rfl
 |k+1=>by unfold skipW;rw[if_neg h]
theorem inW_yes {T:TM}{l:List Int}{k:Nat}{a:Int}(h:zN T l a=true):inW T l (k+1) a=inW T l k (zP T l a):=by
 conv=>lhs;unfold inW
 rw[if_pos h]
theorem inW_no {T:TM}{l:List Int}{a:Int}(h:zN T l a=false):∀k,inW T l k a=a
 |0=>rfl
 |k+1=>by unfold inW;rw[h];rfl
theorem forward_any (F:Nat→Prop)(g:Nat)(T:TM)(A:Option Addr)(n c:Nat)(l:List Int)(at_:Int)(w:World)(h:TabAt w g T)(hl:Ru w F A n c l)(h32:R32ok l):
 Calls Tryz.prog 199 #[.pointer (some ⟨g,0,none⟩),.slice A n c,.int .i64 at_] w fun e w'=>e=.returned (.int .i64 (forwardW T l at_))∧Kp w w':=by
 obtain⟨v,hv⟩:∃v,v=forwardW T l at_:=⟨_,rfl⟩;rw[←hv];unfold forwardW at hv;rw[hl.len]at hv;obtain⟨HV,HL,HC,HNX,HIN⟩:=hid5 hv hl.len (bceil_any F g T A n c l at_ w h hl h32) (fun(wx:World) (k:Kp w wx) (y:Int)=>next_any F g T A n c l y wx (h.kp k) (hl.kp k) h32) (fun(wx:World) (k:Kp w wx) (y:Int) (h0:0≤y)=>inside_any F g T A n c l y wx (h.kp k) (hl.kp k) h32 h0);have hcl:=ceilB_in T l at_;rw[hl.len]at hcl;have hle:=hl.le;have hcap:=hl.cap;unfold maxLen at hcap;obtain⟨x,hx⟩:∃x:Nat,ceilB T l at_=x:=⟨(ceilB T l at_).toNat,by omega⟩;rw[hx]at hcl HV HC;have hxn:x≤n:=by omega
 clear hv h hl h32 hcl hx;go_enter Tryz.func199,Tryz.ntmps199;go_wp2_with fail;refine wp_scope_jumps 0 (fun a' w'=>Kp w w'∧∃(x kf:Nat) (u7 u8 u9 u10 u11 u12 u13 u14 u15 u16 u17 u18 u19 u20 u21 u22 u23 u24 u25 u26 u27 u28 u29 u30 u31 u32 u33 u34:Value),a'={tmps:=#[.pointer (some ⟨g,0,none⟩),.slice A n c,.int .i64 (x:Int),undef,undef,undef,.int .i64 0,u7,u8,u9,u10,u11,u12,u13,u14,u15,u16,u17,u18,u19,u20,u21,u22,u23,u24,u25,u26,u27,u28,u29,u30,u31,u32,u33,u34],defers:=[]}∧x≤n∧n≤x+kf∧Hid (v=inW T l n (skipW T l kf x))) (fun a' _=>n - (intOf (a'.tmps.getD 2 undef)).toNat) rfl ?_ ?_
 ·go_wp2_with fail
  refine HC.out.mono ?_;rintro e w1 ⟨rfl,kr⟩;obtain⟨kf,hkf⟩:∃kf,kf=n:=⟨_,rfl⟩;have hkn:n≤x+kf:=by omega
  have hvk:Hid (v=inW T l n (skipW T l kf x)):=by show _=_;rw[HV.out,hkf]
  clear HC HV hkf;go_wp2_with fail;go_step3;have HNI:=hid (fun(wx:World) (k:Kp w wx)=>HIN.out wx k x (by omega));obtain⟨i,hi⟩:∃i,i=zN T l x:=⟨_,rfl⟩;rw[←hi]at HNI;have HI:=hid hi;clear hi;by_cases c1:(x:Int)<(n:Int)
  ·have q1:=dT c1
   cases i
   ·have hnx:=yA T l x (by rw[HL.out];exact c1) (by omega)
    have hnx2:=(xH T l x).2;rw[HL.out]at hnx2;have H1:=hid (fun(wx:World) (k:Kp w wx)=>HNX.out wx k x);obtain⟨x',hx'⟩:∃x':Nat,zP T l x=x':=⟨(zP T l x).toNat,by omega⟩;have HE:Hid (v=inW T l n (skipW T l (kf - 1) x')):=by
     obtain⟨k',hk'⟩:∃k',kf=k'+1:=⟨kf - 1,by omega⟩;show _=_;rw[hvk.out,hk',skipW_yes (by rw[HL.out];exact c1) HI.out.symm,hx'];rfl
    rw[hx']at hnx hnx2 H1;clear hx' hvk;go_wp2_with fail;refine(HNI.out _ kr).mono ?_;rintro e w3 ⟨rfl,k3⟩;have k4:=kr.trans k3;clear k3;go_wp2_with fail;refine(H1.out _ k4).mono ?_;rintro e w5 ⟨rfl,k5⟩;have k6:=k4.trans k5;clear k5;go_wp2_with fail;go_step3;exact⟨rfl,k6,x',kf - 1,_,_,_,_,_,_,_,_,_,_,_,_,_,_,_,_,_,_,_,_,_,_,_,_,_,_,_,_,rfl,by omega,by omega,HE.out⟩
   ·have HE:Hid (v=inW T l n x):=by
     show _=_;rw[hvk.out,skipW_no (by rintro⟨_,h⟩;rw[←HI.out]at h;cases h)]
    clear hvk;go_wp2_with fail;refine(HNI.out _ kr).mono ?_;rintro e w3 ⟨rfl,k3⟩;have kr:=kr.trans k3;clear k3;go_wp2_with fail;have HK:=hid kr;clear kr c1 q1 HNI HI;go_loopg [2] n (fun g2 u wr=>∃y:Nat,u=.int .i64 (y:Int)∧y≤n∧n≤y+g2∧Kp w wr∧Hid (v=inW T l g2 y))
    case atStart=>exact⟨x,rfl,by omega,by omega,HK.out,HE.out⟩
    case round=>
     clear HE HK;obtain⟨y,rfl,hyn,hyg,kr,hvk⟩:=hrel;have HNI:=hid (fun(wx:World) (k:Kp w wx)=>HIN.out wx k y (by omega));obtain⟨i,hi⟩:∃i,i=zN T l y:=⟨_,rfl⟩;rw[←hi]at HNI;cases i
     ·have HE:Hid (v=(y:Int)):=by show _=_;rw[hvk.out,inW_no hi.symm]
      clear hi hvk;go_wp2_with fail;refine(HNI.out _ kr).mono ?_;rintro e w3 ⟨rfl,k3⟩;go_wp2_with fail;try simp only[Exit.jump]
      go_ret;exact⟨zC HE.out.symm,kr.trans k3⟩
     ·have hyl:y<n:=by
       have h:=hi.symm;unfold zN at h;rw[HL.out]at h;simp at h;omega
      have hnx:=yA T l y (by rw[HL.out];omega) (by omega);have hnx2:=(xH T l y).2;rw[HL.out]at hnx2;have H1:=hid (fun(wx:World) (k:Kp w wx)=>HNX.out wx k y);obtain⟨x',hx'⟩:∃x':Nat,zP T l y=x':=⟨(zP T l y).toNat,by omega⟩;have HE:Hid (v=inW T l (gk - 1) x'):=by
       obtain⟨k',hk'⟩:∃k',gk=k'+1:=⟨gk - 1,by omega⟩;show _=_;rw[hvk.out,hk',inW_yes hi.symm,hx'];rfl
      rw[hx']at hnx hnx2 H1;clear hx' hvk hi;go_wp2_with fail;refine(HNI.out _ kr).mono ?_;rintro e w3 ⟨rfl,k3⟩;have k4:=kr.trans k3;clear k3;go_wp2_with fail;refine(H1.out _ k4).mono ?_;rintro e w5 ⟨rfl,k5⟩;have k6:=k4.trans k5;clear k5;go_wp2_with fail;go_roundg (gk - 1)
      case measure=>omega
      case rel=>exact⟨x',rfl,by omega,by omega,k6,HE.out⟩
  ·have q1:=dF c1
   have HE:Hid (v=inW T l n x):=by
    show _=_;rw[hvk.out,skipW_no (by rintro⟨h,_⟩;rw[HL.out]at h;exact c1 h)]
   clear hvk;go_wp2_with fail;have HK:=hid kr;clear kr c1 q1 HNI HI;go_loopg [2] n (fun g2 u wr=>∃y:Nat,u=.int .i64 (y:Int)∧y≤n∧n≤y+g2∧Kp w wr∧Hid (v=inW T l g2 y))
   case atStart=>exact⟨x,rfl,by omega,by omega,HK.out,HE.out⟩
   case round=>
    clear HE HK;obtain⟨y,rfl,hyn,hyg,kr,hvk⟩:=hrel;have HNI:=hid (fun(wx:World) (k:Kp w wx)=>HIN.out wx k y (by omega));obtain⟨i,hi⟩:∃i,i=zN T l y:=⟨_,rfl⟩;rw[←hi]at HNI;cases i
    ·have HE:Hid (v=(y:Int)):=by show _=_;rw[hvk.out,inW_no hi.symm]
     clear hi hvk;go_wp2_with fail;refine(HNI.out _ kr).mono ?_;rintro e w3 ⟨rfl,k3⟩;go_wp2_with fail;try simp only[Exit.jump]
     go_ret;exact⟨zC HE.out.symm,kr.trans k3⟩
    ·have hyl:y<n:=by
      have h:=hi.symm;unfold zN at h;rw[HL.out]at h;simp at h;omega
     have hnx:=yA T l y (by rw[HL.out];omega) (by omega);have hnx2:=(xH T l y).2;rw[HL.out]at hnx2;have H1:=hid (fun(wx:World) (k:Kp w wx)=>HNX.out wx k y);obtain⟨x',hx'⟩:∃x':Nat,zP T l y=x':=⟨(zP T l y).toNat,by omega⟩;have HE:Hid (v=inW T l (gk - 1) x'):=by
      obtain⟨k',hk'⟩:∃k',gk=k'+1:=⟨gk - 1,by omega⟩;show _=_;rw[hvk.out,hk',inW_yes hi.symm,hx'];rfl
     rw[hx']at hnx hnx2 H1;clear hx' hvk hi;go_wp2_with fail;refine(HNI.out _ kr).mono ?_;rintro e w3 ⟨rfl,k3⟩;have k4:=kr.trans k3;clear k3;go_wp2_with fail;refine(H1.out _ k4).mono ?_;rintro e w5 ⟨rfl,k5⟩;have k6:=k4.trans k5;clear k5;go_wp2_with fail;go_roundg (gk - 1)
     case measure=>omega
     case rel=>exact⟨x',rfl,by omega,by omega,k6,HE.out⟩
 ·rintro a' w1 ⟨kr,x,kf,u7,u8,u9,u10,u11,u12,u13,u14,u15,u16,u17,u18,u19,u20,u21,u22,u23,u24,u25,u26,u27,u28,u29,u30,u31,u32,u33,u34,rfl,hxn,hkn,hvk⟩
  clear HC HV;have HNI:=hid (fun(wx:World) (k:Kp w wx)=>HIN.out wx k x (by omega));obtain⟨i,hi⟩:∃i,i=zN T l x:=⟨_,rfl⟩;rw[←hi]at HNI;have HI:=hid hi;clear hi;by_cases c1:(x:Int)<(n:Int)
  ·have q1:=dT c1
   cases i
   ·have hnx:=yA T l x (by rw[HL.out];exact c1) (by omega)
    have hnx2:=(xH T l x).2;rw[HL.out]at hnx2;have H1:=hid (fun(wx:World) (k:Kp w wx)=>HNX.out wx k x);obtain⟨x',hx'⟩:∃x':Nat,zP T l x=x':=⟨(zP T l x).toNat,by omega⟩;have HE:Hid (v=inW T l n (skipW T l (kf - 1) x')):=by
     obtain⟨k',hk'⟩:∃k',kf=k'+1:=⟨kf - 1,by omega⟩;show _=_;rw[hvk.out,hk',skipW_yes (by rw[HL.out];exact c1) HI.out.symm,hx'];rfl
    rw[hx']at hnx hnx2 H1;clear hx' hvk;go_wp2_with fail;refine(HNI.out _ kr).mono ?_;rintro e w3 ⟨rfl,k3⟩;have k4:=kr.trans k3;clear k3;go_wp2_with fail;refine(H1.out _ k4).mono ?_;rintro e w5 ⟨rfl,k5⟩;have k6:=k4.trans k5;clear k5;go_wp2_with fail;go_step3;exact⟨rfl,⟨k6,x',kf - 1,_,_,_,_,_,_,_,_,_,_,_,_,_,_,_,_,_,_,_,_,_,_,_,_,_,_,_,_,rfl,by omega,by omega,HE.out⟩,by simp[intOf];omega⟩
   ·have HE:Hid (v=inW T l n x):=by
     show _=_;rw[hvk.out,skipW_no (by rintro⟨_,h⟩;rw[←HI.out]at h;cases h)]
    clear hvk;go_wp2_with fail;refine(HNI.out _ kr).mono ?_;rintro e w3 ⟨rfl,k3⟩;have kr:=kr.trans k3;clear k3;go_wp2_with fail;have HK:=hid kr;clear kr c1 q1 HNI HI;go_loopg [2] n (fun g2 u wr=>∃y:Nat,u=.int .i64 (y:Int)∧y≤n∧n≤y+g2∧Kp w wr∧Hid (v=inW T l g2 y))
    case atStart=>exact⟨x,rfl,by omega,by omega,HK.out,HE.out⟩
    case round=>
     clear HE HK;obtain⟨y,rfl,hyn,hyg,kr,hvk⟩:=hrel;have HNI:=hid (fun(wx:World) (k:Kp w wx)=>HIN.out wx k y (by omega));obtain⟨i,hi⟩:∃i,i=zN T l y:=⟨_,rfl⟩;rw[←hi]at HNI;cases i
     ·have HE:Hid (v=(y:Int)):=by show _=_;rw[hvk.out,inW_no hi.symm]
      clear hi hvk;go_wp2_with fail;refine(HNI.out _ kr).mono ?_;rintro e w3 ⟨rfl,k3⟩;go_wp2_with fail;try simp only[Exit.jump]
      go_ret;exact⟨zC HE.out.symm,kr.trans k3⟩
     ·have hyl:y<n:=by
       have h:=hi.symm;unfold zN at h;rw[HL.out]at h;simp at h;omega
      have hnx:=yA T l y (by rw[HL.out];omega) (by omega);have hnx2:=(xH T l y).2;rw[HL.out]at hnx2;have H1:=hid (fun(wx:World) (k:Kp w wx)=>HNX.out wx k y);obtain⟨x',hx'⟩:∃x':Nat,zP T l y=x':=⟨(zP T l y).toNat,by omega⟩;have HE:Hid (v=inW T l (gk - 1) x'):=by
       obtain⟨k',hk'⟩:∃k',gk=k'+1:=⟨gk - 1,by omega⟩;show _=_;rw[hvk.out,hk',inW_yes hi.symm,hx'];rfl
      rw[hx']at hnx hnx2 H1;clear hx' hvk hi;go_wp2_with fail;refine(HNI.out _ kr).mono ?_;rintro e w3 ⟨rfl,k3⟩;have k4:=kr.trans k3;clear k3;go_wp2_with fail;refine(H1.out _ k4).mono ?_;rintro e w5 ⟨rfl,k5⟩;have k6:=k4.trans k5;clear k5;go_wp2_with fail;go_roundg (gk - 1)
      case measure=>omega
      case rel=>exact⟨x',rfl,by omega,by omega,k6,HE.out⟩
  ·have q1:=dF c1
   have HE:Hid (v=inW T l n x):=by
    show _=_;rw[hvk.out,skipW_no (by rintro⟨h,_⟩;rw[HL.out]at h;exact c1 h)]
   clear hvk;go_wp2_with fail;have HK:=hid kr;clear kr c1 q1 HNI HI;go_loopg [2] n (fun g2 u wr=>∃y:Nat,u=.int .i64 (y:Int)∧y≤n∧n≤y+g2∧Kp w wr∧Hid (v=inW T l g2 y))
   case atStart=>exact⟨x,rfl,by omega,by omega,HK.out,HE.out⟩
   case round=>
    clear HE HK;obtain⟨y,rfl,hyn,hyg,kr,hvk⟩:=hrel;have HNI:=hid (fun(wx:World) (k:Kp w wx)=>HIN.out wx k y (by omega));obtain⟨i,hi⟩:∃i,i=zN T l y:=⟨_,rfl⟩;rw[←hi]at HNI;cases i
    ·have HE:Hid (v=(y:Int)):=by show _=_;rw[hvk.out,inW_no hi.symm]
     clear hi hvk;go_wp2_with fail;refine(HNI.out _ kr).mono ?_;rintro e w3 ⟨rfl,k3⟩;go_wp2_with fail;try simp only[Exit.jump]
     go_ret;exact⟨zC HE.out.symm,kr.trans k3⟩
    ·have hyl:y<n:=by
      have h:=hi.symm;unfold zN at h;rw[HL.out]at h;simp at h;omega
     have hnx:=yA T l y (by rw[HL.out];omega) (by omega);have hnx2:=(xH T l y).2;rw[HL.out]at hnx2;have H1:=hid (fun(wx:World) (k:Kp w wx)=>HNX.out wx k y);obtain⟨x',hx'⟩:∃x':Nat,zP T l y=x':=⟨(zP T l y).toNat,by omega⟩;have HE:Hid (v=inW T l (gk - 1) x'):=by
      obtain⟨k',hk'⟩:∃k',gk=k'+1:=⟨gk - 1,by omega⟩;show _=_;rw[hvk.out,hk',inW_yes hi.symm,hx'];rfl
     rw[hx']at hnx hnx2 H1;clear hx' hvk hi;go_wp2_with fail;refine(HNI.out _ kr).mono ?_;rintro e w3 ⟨rfl,k3⟩;have k4:=kr.trans k3;clear k3;go_wp2_with fail;refine(H1.out _ k4).mono ?_;rintro e w5 ⟨rfl,k5⟩;have k6:=k4.trans k5;clear k5;go_wp2_with fail;go_roundg (gk - 1)
     case measure=>omega
     case rel=>exact⟨x',rfl,by omega,by omega,k6,HE.out⟩
def Xb (X G R k:Nat):Prop:=k=X∨k=G∨k=R
structure TxOk (x:Tx):Prop where
 len:x.l.length≤65536
 ix:IxOk x.st x.l.length
 r32:R32ok x.l
def TxAt (w:World)(X G R g:Nat)(x:Tx):Prop:=
 ∃A n c,Bx w X #[.pointer (some ⟨g,0,none⟩),.pointer (some ⟨G,0,none⟩),.slice A n c,.int .i64 (x.l.length:Int)] 169∧GapAt w G R x.l∧Nu w (fun k=>¬Xb X G R k) A n c x.st∧X≠G∧X≠R∧TxOk x
theorem TxAt.kp {w w':World}{X G R g:Nat}{x:Tx}(h:TxAt w X G R g x)(k:Kp w w'):TxAt w' X G R g x:=by
 obtain⟨A,n,c,h1,h2,h3,h4⟩:=h;exact⟨A,n,c,h1.kp k,h2.kp k,h3.kp k,h4⟩
theorem TxAt.ok {w:World}{X G R g:Nat}{x:Tx}(h:TxAt w X G R g x):TxOk x:=by obtain⟨A,n,c,h1,h2,h3,h4,h5,h6⟩:=h;exact h6
section
variable (X G R g:Nat)(x:Tx)(w:World)(h:TxAt w X G R g x)
include h
theorem yY:Calls Tryz.prog 108 #[.pointer (some ⟨X,0,none⟩)] w fun e w'=>e=.returned (.int .i64 (x.l.length:Int))∧Kp w w':=by
 obtain⟨A,n,c,h1,h2,-⟩:=h;have HLN:=hid (xI G R x.l w h2);obtain⟨p0,p1,p2,p3,_,_,_,_⟩:=h1.four;clear h1 h2;go_enter Tryz.func108,Tryz.ntmps108;go_wp2_with fail;refine HLN.out.mono ?_;rintro e w1 ⟨rfl,k1⟩;go_wp2_with fail;go_ret;exact⟨rfl,k1⟩
theorem xG:Calls Tryz.prog 45 #[.pointer (some ⟨X,0,none⟩)] w (RetRu x.l w):=by
 obtain⟨A,n,c,h1,h2,-⟩:=h;have HLN:=hid (gapAll_any G R x.l w h2);obtain⟨p0,p1,p2,p3,_,_,_,_⟩:=h1.four;clear h1 h2;go_enter Tryz.func45,Tryz.ntmps45;go_wp2_with fail;refine HLN.out.mono ?_;rintro e w1 ⟨A1,n1,c1,rfl,hr,k1⟩;go_wp2_with fail;go_ret;exact⟨A1,n1,c1,rfl,hr,k1⟩
theorem zR (at_:Int):Calls Tryz.prog 73 #[.pointer (some ⟨X,0,none⟩),.int .i64 at_] w fun e w'=>e=.returned (.int .i64 (x.floor at_))∧Kp w w':=by
 obtain⟨A,n,c,h1,h2,h3,-,-,hok⟩:=h;have hn:=hok.ix.len;have hl:=hok.len;have h3l:=h3.len;have HLN:=hid (floor_any _ A n c x.st x.l.length at_ w h3 (by omega));obtain⟨v,hv⟩:∃v,v=x.floor at_:=⟨_,rfl⟩;rw[show xF x.st x.l.length at_=v by rw[hv];rfl]at HLN;rw[←hv];obtain⟨p0,p1,p2,p3,_,_,_,_⟩:=h1.four;clear h1 h2 h3 hn hl h3l hv;go_enter Tryz.func73,Tryz.ntmps73;go_wp2_with fail;refine HLN.out.mono ?_;rintro e w1 ⟨rfl,k1⟩;go_wp2_with fail;go_ret;exact⟨rfl,k1⟩
theorem yU (at_ k:Int):Calls Tryz.prog 144 #[.pointer (some ⟨X,0,none⟩),.int .i64 at_,.int .i64 k] w fun e w'=>e=.returned (.int .i64 (x.on at_ k))∧Kp w w':=by
 obtain⟨A,n,c,h1,h2,h3,-,-,hok⟩:=h;have hn:=hok.ix.len;have hl:=hok.len;have h3l:=h3.len;have HLN:=hid (indexOn_any _ A n c x.st x.l.length at_ k w h3 (by omega));obtain⟨v,hv⟩:∃v,v=x.on at_ k:=⟨_,rfl⟩;rw[show onI x.st x.l.length at_ k=v by rw[hv];rfl]at HLN;rw[←hv];obtain⟨p0,p1,p2,p3,_,_,_,_⟩:=h1.four;clear h1 h2 h3 hn hl h3l hv;go_enter Tryz.func144,Tryz.ntmps144;go_wp2_with fail;refine HLN.out.mono ?_;rintro e w1 ⟨rfl,k1⟩;go_wp2_with fail;go_ret;exact⟨rfl,k1⟩
theorem textPart_own (a b:Int)(ha:0≤a)(hb:b≤x.l.length):Calls Tryz.prog 147 #[.pointer (some ⟨X,0,none⟩),.int .i64 a,.int .i64 b] w (RetOw (x.part a b) w):=by
 obtain⟨A,n,c,h1,h2,-⟩:=h;obtain⟨v,hv⟩:∃v,v=x.part a b:=⟨_,rfl⟩;have hsl:Calls Tryz.prog 123 #[.pointer (some ⟨G,0,none⟩),.int .i64 a,.int .i64 b] w (RetOw v w):=by
  rw[hv];by_cases hab:a<b
  ·obtain⟨a',rfl⟩:∃a':Nat,a=a':=⟨a.toNat,by omega⟩
   obtain⟨b',rfl⟩:∃b':Nat,b=b':=⟨b.toNat,by omega⟩;have e:x.part a' b'=cutM x.l a' b':=by unfold Tx.part;rw[if_pos (by omega)];congr 1<;>omega
   rw[e];exact gapSlice_own G R a' b' x.l w h2 (by omega) (by omega)
  ·have e:x.part a b=[]:=by unfold Tx.part;rw[if_neg (by omega)]
   rw[e];refine(gapSlice_none G R a b x.l w h2 (by omega)).mono ?_;rintro e' w' ⟨rfl,k⟩;exact⟨none,0,0,rfl,Own.nil _ _ _ _,k⟩
 have HLN:=hid hsl;rw[←hv];obtain⟨p0,p1,p2,p3,_,_,_,_⟩:=h1.four;clear h1 h2 hv hsl;go_enter Tryz.func147,Tryz.ntmps147;go_wp2_with fail;refine HLN.out.mono ?_;rintro e w1 ⟨A1,n1,c1,rfl,hr,k1⟩;go_wp2_with fail;go_ret;exact⟨A1,n1,c1,rfl,hr,k1⟩
theorem textPart_any (a b:Int)(ha:0≤a)(hb:b≤x.l.length):Calls Tryz.prog 147 #[.pointer (some ⟨X,0,none⟩),.int .i64 a,.int .i64 b] w (RetRu (x.part a b) w):=
 (textPart_own X G R g x w h a b ha hb).mono fun _ _ h=>h.ru
end
end Go.Proofs.YtociefdcccokjaaGreat

/-
  Lemmas for TopMacro. Conditions: each states its own.
-/
import Derived.Test.YtociefdcccokjaaGreatG25
set_option maxHeartbeats 6400000
set_option maxRecDepth 100000
namespace Go.Proofs.YtociefdcccokjaaGreat
open Go.RowKit Go.Lib
section
variable {D:Nat→Prop}
theorem EdOk.count {j:Nat}{e:EdS}(h:EdOk j e)(c:Cn)(hc:0≤c.n∧c.n≤9999):EdOk j {e with cnt:=c}:=
 ⟨h.jb,h.c1,h.m1,h.rlen,h.rtx,h.rat0,h.rat1,h.ulen,h.ues,h.pat0,h.pat1,h.plen,h.ptx,h.stash,h.ska,h.skh,h.skp,hc,h.run,h.lines⟩
section
variable (E X G R g:Nat)(e:EdS)(v:EdL)(w:World)(h:EdAt D w E X G R g e v)(j:Nat)(ok:EdOk j e)
include h ok
theorem digit_any (r:Int)(hr:r32 r):Calls Tryz.prog 38 #[.pointer (some ⟨E,0,none⟩),.int .i32 r] w (RetE D j E X G R g (e.digit r) (.tuple #[]) w):=by
 obtain⟨d,hd⟩:∃d,d=if 48≤r∧r≤57 then r - 48 else 0:=⟨_,rfl⟩;have hdb:0≤d∧d≤9:=by rw[hd];split<;>omega
 obtain⟨n,hn⟩:∃n,n=e.cnt.n:=⟨_,rfl⟩;have hnb:0≤n∧n≤9999:=by rw[hn];exact ok.n0
 obtain⟨mi,hmi⟩:∃x,x=e.cnt.minus:=⟨_,rfl⟩;obtain⟨s,hs⟩:∃s,s=10*n+d:=⟨_,rfl⟩;obtain⟨m,hm⟩:∃m,m=if s≤9999 then s else 9999:=⟨_,rfl⟩;have hres:e.digit r={e with cnt:=⟨true,mi,true,m⟩}:=by unfold EdS.digit;rw[←hd,←hn,←hmi,hm,hs];congr 2
 rw[hres];have HOK:=hid (ok.count ⟨true,mi,true,m⟩ (by dsimp only;rw[hm];split<;>omega));obtain⟨p21,f21⟩:w.cell? ⟨E,21,none⟩=some (.bool e.cnt.some_)∧w.frozen? ⟨E,21,none⟩=false:=h.c 21 rfl;obtain⟨p22,f22⟩:w.cell? ⟨E,22,none⟩=some (.bool e.cnt.minus)∧w.frozen? ⟨E,22,none⟩=false:=h.c 22 rfl;obtain⟨p23,f23⟩:w.cell? ⟨E,23,none⟩=some (.bool e.cnt.digits)∧w.frozen? ⟨E,23,none⟩=false:=h.c 23 rfl;obtain⟨p24,f24⟩:w.cell? ⟨E,24,none⟩=some (.int .i64 e.cnt.n)∧w.frozen? ⟨E,24,none⟩=false:=h.c 24 rfl;rw[←hmi]at p22;rw[←hn]at p24;have hE:=h.1.lt;have H:=hid h;unfold r32 at hr;clear h ok hn hmi hres;obtain⟨HSE,HM⟩:=hid2 hs hm;have hsb:0≤s∧s≤99999:=by omega
 clear hs hm hsb;by_cases h1:48≤r∧r≤57
 ·rw[if_pos h1]at hd
  obtain⟨h1,h2⟩:=h1;subst hd;go_enter Tryz.func38,Tryz.ntmps38;go_upto_region 3 with fail;go_wp2_with fail
  all_goals
   go_end0;refine⟨rfl,X,G,R,v,?_,((EdN.refl (E:=E) (X:=X) (G:=G) (R:=R) (Kp.refl w)).set4 _ _ _ _).then_kp ((Kp.refl _).alloc _),HOK.out⟩;first
    |(rw[show m=9999 by rw[HM.out,HSE.out];split<;>omega];exact(H.out.count ⟨true,mi,true,9999⟩).kp ((Kp.refl _).alloc _))
    |(rw[show m=10*n+(r - 48) by rw[HM.out,HSE.out];split<;>omega];exact(H.out.count ⟨true,mi,true,10*n+(r - 48)⟩).kp ((Kp.refl _).alloc _))
 ·rw[if_neg h1]at hd
  subst hd;by_cases h2:48≤r
  ·have h3:¬r≤57:=by omega
   clear h1;go_enter Tryz.func38,Tryz.ntmps38;go_upto_region 3 with fail;go_wp2_with fail
   all_goals
    go_end0;refine⟨rfl,X,G,R,v,?_,((EdN.refl (E:=E) (X:=X) (G:=G) (R:=R) (Kp.refl w)).set4 _ _ _ _).then_kp ((Kp.refl _).alloc _),HOK.out⟩;first
     |(rw[show m=9999 by rw[HM.out,HSE.out];split<;>omega];exact(H.out.count ⟨true,mi,true,9999⟩).kp ((Kp.refl _).alloc _))
     |(rw[show m=10*n by rw[HM.out,HSE.out];split<;>omega];exact(H.out.count ⟨true,mi,true,10*n⟩).kp ((Kp.refl _).alloc _))
  ·clear h1
   go_enter Tryz.func38,Tryz.ntmps38;go_upto_region 3 with fail;go_wp2_with fail
   all_goals
    go_end0;refine⟨rfl,X,G,R,v,?_,((EdN.refl (E:=E) (X:=X) (G:=G) (R:=R) (Kp.refl w)).set4 _ _ _ _).then_kp ((Kp.refl _).alloc _),HOK.out⟩;first
     |(rw[show m=9999 by rw[HM.out,HSE.out];split<;>omega];exact(H.out.count ⟨true,mi,true,9999⟩).kp ((Kp.refl _).alloc _))
     |(rw[show m=10*n by rw[HM.out,HSE.out];split<;>omega];exact(H.out.count ⟨true,mi,true,10*n⟩).kp ((Kp.refl _).alloc _))
end
end
end Go.Proofs.YtociefdcccokjaaGreat

/-
  Lemmas for TopMacro. Conditions: each states its own.
-/
import Derived.Test.YtociefdcccokjaaGreatChecked
import Derived.KernelRfl
import Derived.BigQuiet
import Derived.Deep.QuietTactic
import Derived.Test.YtociefdcccokjaaGreatG01
set_option maxHeartbeats 400000
namespace Go.Proofs.YtociefdcccokjaaGreat
open Go.RowKit Go.Lib
def Dr (w w':World):Prop:=∃k,w'=w.drewN k
section
variable {w w' w'':World}
theorem Dr.refl (w:World):Dr w w:=⟨0,rfl⟩
theorem Dr.kp (h:Dr w w'):Kp w w':=by obtain⟨k,rfl⟩:=h;exact(Kp.refl w).drewN k
theorem Dr.trans (h:Dr w w')(k:Dr w' w''):Dr w w'':=by
 obtain⟨a,rfl⟩:=h;obtain⟨b,rfl⟩:=k;exact⟨a+b,by simp⟩
theorem Dr.drewN (h:Dr w w')(n:Nat):Dr w (w'.drewN n):=h.trans ⟨n,rfl⟩
theorem Dr.size (h:Dr w w'):w'.heap.size=w.heap.size:=by obtain⟨k,rfl⟩:=h;rfl
end
def sameB (xs ys:List Int):Bool:=decide (xs=ys)
theorem xX (xs ys:List Int):sameB xs ys=true↔xs=ys:=by simp[sameB]
theorem sameB_no {xs ys:List Int}(h:xs≠ys):sameB xs ys=false:=by simp[sameB,h]
theorem take_succ_getD (xs:List Int)(k:Nat)(h:k<xs.length):xs.take (k+1)=xs.take k++[xs[k]?.getD 0]:=by
 rw[List.take_succ_eq_append_getElem h,List.getElem?_eq_getElem h];rfl
theorem zD {a b:Bool}(h:a=b):Ending.returned (.bool a)=.returned (.bool b):=by rw[h]
theorem take_eq_of {xs ys:List Int}{k:Nat}(hx:k<xs.length)(hy:k<ys.length)(h:xs.take k=ys.take k)(e:xs[k]?.getD 0=ys[k]?.getD 0):xs.take (k+1)=ys.take (k+1):=by
 rw[take_succ_getD _ _ hx,take_succ_getD _ _ hy,h,e]
theorem ne_of_get {xs ys:List Int}{k:Nat}(e:xs[k]?.getD 0≠ys[k]?.getD 0):xs≠ys:=by rintro rfl;exact e rfl
theorem same_any (F G:Nat→Prop)(A B:Option Addr)(n c m d:Nat)(xs ys:List Int)(w:World)(ha:Ru w F A n c xs)(hb:Ru w G B m d ys):
 Calls Tryz.prog 14 #[.slice A n c,.slice B m d] w fun e w'=>e=.returned (.bool (sameB xs ys))∧Dr w w':=by
 have hxl:=ha.len;have hyl:=hb.len;have hcx:=ha.cap;have hlx:=ha.le;have hcy:=hb.cap;have hly:=hb.le;unfold maxLen at hcx hcy;obtain⟨HX,HY⟩:=hid2 hxl hyl;clear hxl hyl;by_cases hnm:n=m
 ·subst hnm
  go_enter Tryz.func14,Tryz.ntmps14;go_wp2;go_loopw [5] (fun i wr=>∃k:Nat,k≤n∧i=.int .i64 k∧Dr w wr∧Hid (xs.take k=ys.take k)) (fun i _=>n - (intOf i).toNat)
  case atStart=>exact⟨0,Nat.zero_le _,rfl,Dr.refl _,rfl⟩
  case round=>
   obtain⟨k,hk,rfl,hdr,htk⟩:=hrel;by_cases hlt:k<n
   ·obtain⟨ad,rfl,hc1⟩:=(ha.kp hdr.kp).get hlt
    obtain⟨bd,rfl,hc2⟩:=(hb.kp hdr.kp).get hlt;by_cases hxy:xs[k]?.getD 0=ys[k]?.getD 0
    ·have HT:Hid (xs.take (k+1)=ys.take (k+1)):=take_eq_of (by rw[HX.out];exact hlt) (by rw[HY.out];exact hlt) htk.out hxy
     generalize xs[k]?.getD 0=u at *;generalize ys[k]?.getD 0=v at *;subst hxy;go_wp2;go_quiet (fail);go_wp2;go_roundw
     case rel=>exact⟨k+1,by omega,by go_num,hdr.drewN _,HT⟩
     case measure=>simp[intOf];omega
    ·have hB:(xs[k]?.getD 0 != ys[k]?.getD 0)=true:=by rw[bne_iff_ne];exact hxy
     have HN:=hid (sameB_no (ne_of_get hxy));generalize xs[k]?.getD 0=u at *;generalize ys[k]?.getD 0=v at *;go_wp2;go_quiet (fail);go_wp2;go_ret;exact⟨zD HN.out.symm,hdr.drewN _⟩
   ·have HE:Hid (sameB xs ys=true):=(xX _ _).2 (by
     have h:=htk.out;rwa[List.take_of_length_le (by rw[HX.out];omega),List.take_of_length_le (by rw[HY.out];omega)]at h)
    go_wp2;go_ret;exact⟨zD HE.out.symm,hdr⟩
 ·have HN:Hid (sameB xs ys=false):=sameB_no (by rintro rfl;exact hnm (HX.out.symm.trans HY.out))
  have hB:((n:Int) != (m:Int))=true:=by rw[bne_iff_ne];omega
  go_enter Tryz.func14,Tryz.ntmps14;go_wp2;go_ret;exact⟨zD HN.out.symm,Dr.refl _⟩
theorem few_any (A:Option Addr)(n c k:Nat)(_hc:n≤c)(_h63:c≤maxLen)(_hk:k≤1000000)(w:World):
 Calls Tryz.prog 18 #[.slice A n c,.int .i64 k] w fun e w'=>e=.returned (.slice A (min n k) c)∧w=w':=by
 unfold maxLen at _h63;by_cases h:k<n
 ·have e:min n k=k:=by omega
  rw[e];clear e;go_enter Tryz.func18,Tryz.ntmps18;go_wp2;go_ret;exact⟨rfl,rfl⟩
 ·have e:min n k=n:=by omega
  rw[e];clear e;go_enter Tryz.func18,Tryz.ntmps18;go_wp2;go_ret;exact⟨rfl,rfl⟩
end Go.Proofs.YtociefdcccokjaaGreat

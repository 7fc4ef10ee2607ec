/-
  Lemmas for TopMacro. Conditions: each states its own.
-/
import Derived.Maps.Own
import Derived.Test.YtociefdcccokjaaGreatG09
set_option maxHeartbeats 1600000
namespace Go.Proofs.YtociefdcccokjaaGreat
open Go.RowKit Go.Lib
structure Ed where
 at_:Int
 old:List Int
 new:List Int
structure Grp where
 es:List Ed
 cur:Int
def Ed.back (e:Ed):Ed:=⟨e.at_,e.new,e.old⟩
def doM (e:Ed)(l:List Int):Option (List Int):=
 if 0≤e.at_∧e.at_+e.old.length≤l.length∧(l.drop e.at_.toNat).take e.old.length=e.old then some (l.take e.at_.toNat++e.new++l.drop (e.at_.toNat+e.old.length))else none
def addU (gs:List Grp)(e:Ed)(cur:Int)(join:Bool):List Grp:=
 match join,gs.getLast? with
 |true,some g=>gs.dropLast++[Grp.mk (g.es++[e]) g.cur]
 |_,_=>(gs++[Grp.mk [e] cur]).drop (gs.length+1 - 1000)
theorem addU_join {gs:List Grp}{g:Grp}(e:Ed)(cur:Int)(h:gs.getLast? =some g):addU gs e cur true=gs.dropLast++[Grp.mk (g.es++[e]) g.cur]:=by unfold addU;rw[h]
theorem addU_own {gs:List Grp}(e:Ed)(cur:Int)(join:Bool)(h:join=false∨gs=[]):addU gs e cur join=(gs++[Grp.mk [e] cur]).drop (gs.length+1 - 1000):=by
 unfold addU;rcases h with rfl|rfl
 ·cases gs.getLast? <;>rfl
 ·cases join<;>rfl
theorem last_split {gs:List Grp}{n:Nat}(hl:gs.length=n+1):∃g,gs[n]? =some g∧gs.getLast? =some g∧gs=gs.dropLast++[g]∧gs.dropLast.length=n:=by
 have hne:gs≠[]:=by rintro rfl;simp at hl
 have h1:gs.dropLast++[gs.getLast hne]=gs:=List.dropLast_concat_getLast hne;obtain⟨l,g,rfl⟩:∃l g,gs=l++[g]:=⟨_,_,h1.symm⟩;have h2:l.length=n:=by simpa using hl
 refine⟨g,?_,by simp,by simp,by simpa using h2⟩;rw[List.getElem?_append_right (by omega),h2];simp
def RelL {α β:Type}(R:α→β→Prop):List α→List β→Prop
 |[],[]=>True
 |x::xs,c::cs=>R x c∧RelL R xs cs
 |_,_=>False
section
variable {α β:Type}{R S:α→β→Prop}
theorem RelL.len:∀{xs:List α} {cs:List β},RelL R xs cs→cs.length=xs.length
 |[],[],_=>rfl
 |_::_,_::_,h=>by simp[RelL.len h.2]
 |[],_::_,h=>h.elim
 |_::_,[],h=>h.elim
theorem RelL.mono (hRS:∀x c,R x c→S x c):∀{xs:List α} {cs:List β},RelL R xs cs→RelL S xs cs
 |[],[],_=>trivial
 |_::_,_::_,h=>⟨hRS _ _ h.1,RelL.mono hRS h.2⟩
 |[],_::_,h=>h.elim
 |_::_,[],h=>h.elim
theorem RelL.app:∀{xs ys:List α} {cs ds:List β},RelL R xs cs→RelL R ys ds→RelL R (xs++ys) (cs++ds)
 |[],_,[],_,_,k=>k
 |_::_,_,_::_,_,h,k=>⟨h.1,RelL.app h.2 k⟩
 |[],_,_::_,_,h,_=>h.elim
 |_::_,_,[],_,h,_=>h.elim
theorem RelL.get:∀{xs:List α} {cs:List β} {i:Nat} {x:α},RelL R xs cs→xs[i]? =some x→∃c,cs[i]? =some c∧R x c
 |[],_,_,_,_,h=>by simp at h
 |x::_,c::_,0,_,h,k=>by simp at k;subst k;exact⟨c,rfl,h.1⟩
 |_::_,_::_,i+1,_,h,k=>by simpa using RelL.get (i:=i) h.2 (by simpa using k)
 |_::_,[],_,_,h,_=>h.elim
theorem RelL.drop:∀(k:Nat) {xs:List α} {cs:List β},RelL R xs cs→RelL R (xs.drop k) (cs.drop k)
 |0,_,_,h=>h
 |_+1,[],[],_=>trivial
 |k+1,_::_,_::_,h=>by simpa using RelL.drop k h.2
 |_+1,[],_::_,h=>h.elim
 |_+1,_::_,[],h=>h.elim
theorem RelL.take:∀(k:Nat) {xs:List α} {cs:List β},RelL R xs cs→RelL R (xs.take k) (cs.take k)
 |0,_,_,_=>by simp[RelL]
 |_+1,[],[],_=>trivial
 |k+1,_::_,_::_,h=>by simpa using⟨h.1,RelL.take k h.2⟩
 |_+1,[],_::_,h=>h.elim
 |_+1,_::_,[],h=>h.elim
theorem RelL.snoc:∀{xs:List α} {x:α} {cs:List β},RelL R (xs++[x]) cs→∃cs0 c,cs=cs0++[c]∧RelL R xs cs0∧R x c
 |[],_,[c],h=>⟨[],c,rfl,trivial,h.1⟩
 |[],_,[],h=>h.elim
 |[],_,_::_::_,h=>h.2.elim
 |y::xs,x,c::cs,h=>by
  obtain⟨c0,c1,rfl,h1,h2⟩:=RelL.snoc (xs:=xs) (x:=x) h.2;exact⟨c::c0,c1,rfl,⟨h.1,h1⟩,h2⟩
 |_::_,_,[],h=>h.elim
theorem RelL.one {x:α}{c:β}(h:R x c):RelL R [x] [c]:=⟨h,trivial⟩
theorem RelL.all {p:β→Prop}(hp:∀x c,R x c→p c):∀{xs:List α} {cs:List β},RelL R xs cs→∀c∈cs,p c
 |[],[],_=>by simp
 |_::_,_::_,h=>by simpa using⟨hp _ _ h.1,RelL.all hp h.2⟩
 |[],_::_,h=>h.elim
 |_::_,[],h=>h.elim
end
theorem vO {β:Type}{k:Nat}:∀{css:List (List β)},(∀c∈css,c.length=k)→css.flatten.length=css.length*k
 |[],_=>by simp
 |c::r,h=>by
  have h1:=h c (by simp);have h2:=vO (css:=r) fun x hx=>h x (by simp[hx])
  simp only[List.flatten_cons,List.length_append,List.length_cons,h1,h2,Nat.succ_mul];omega
theorem yR {β:Type}{k:Nat}:∀{css:List (List β)} {i r:Nat} {c:List β},(∀c∈css,c.length=k)→css[i]? =some c→r<k→css.flatten[i*k+r]? =c[r]?
 |[],_,_,_,_,h,_=>by simp at h
 |d::t,0,r,c,hl,h,hr=>by
  simp at h;subst h;have h1:=hl d (by simp);rw[List.flatten_cons,Nat.zero_mul,Nat.zero_add,List.getElem?_append_left (by omega)]
 |d::t,i+1,r,c,hl,h,hr=>by
  have h1:=hl d (by simp);rw[List.flatten_cons,List.getElem?_append_right (by rw[h1,Nat.succ_mul];omega),h1];have e:(i+1)*k+r - k=i*k+r:=by rw[Nat.succ_mul];omega
  rw[e];exact yR (fun x hx=>hl x (by simp[hx])) (by simpa using h) hr
theorem flat_take {β:Type}{k:Nat}:∀(m:Nat) {css:List (List β)},(∀c∈css,c.length=k)→css.flatten.take (m*k)=(css.take m).flatten
 |0,_,_=>by simp
 |_+1,[],_=>by simp
 |m+1,c::t,h=>by
  have h1:=h c (by simp);have h2:=flat_take m (css:=t) fun x hx=>h x (by simp[hx])
  rw[List.take_succ_cons,List.flatten_cons,List.flatten_cons,←h2,List.take_append,h1];have e:(m+1)*k - k=m*k:=by rw[Nat.succ_mul];omega
  rw[e,List.take_of_length_le (by rw[h1,Nat.succ_mul];omega)]
theorem flat_drop {β:Type}{k:Nat}:∀(m:Nat) {css:List (List β)},(∀c∈css,c.length=k)→css.flatten.drop (m*k)=(css.drop m).flatten
 |0,_,_=>by simp
 |_+1,[],_=>by simp
 |m+1,c::t,h=>by
  have h1:=h c (by simp);have h2:=flat_drop m (css:=t) fun x hx=>h x (by simp[hx])
  rw[List.drop_succ_cons,List.flatten_cons,←h2,List.drop_append,h1];have e:(m+1)*k - k=m*k:=by rw[Nat.succ_mul];omega
  rw[e,List.drop_of_length_le (by rw[h1,Nat.succ_mul];omega),List.nil_append]
def addM (L:List (List Int))(s:List Int):List (List Int):=if s=[]∨L.getLast? =some s then L else(L++[s]).drop (L.length+1 - 500)
def yL (L:List (List Int))(at_:Int)(st:List Int)(i:Int)(now:List Int):Option (List Int):=
 if i<0∨(L.length:Int)<i then none else if 0<i then some (L.getD (L.length - i.toNat) [])else if at_=0 then some now else some st
def stashM (at_:Int)(st:List Int)(i:Int)(now:List Int):List Int:=if i=0 then[]else if at_=0 then now else st
theorem addM_length_le (L:List (List Int))(s:List Int)(h:L.length≤500):(addM L s).length≤500:=by
 unfold addM;split
 ·exact h
 ·simp;omega
theorem addM_mem {L:List (List Int)}{s:List Int}{x:List Int}(h:x∈addM L s):x∈L∨x=s:=by
 unfold addM at h
 split at h
 ·exact .inl h
 ·have:=List.mem_of_mem_drop h
  simpa using this
section
def addR (L:List (List Int))(s:List Int):List (List Int):=(s::L).take 60
def joinR (L:List (List Int))(s:List Int)(ahead:Bool):List (List Int):=match L with
 |[]=>addR [] s
 |x::r=>(if ahead=true then s++x else x++s)::r
structure KeyV where
 kind:Int
 rune:Int
 meta_:Bool
 text:List Int
def behindK (kind rune:Int)(mt:Bool):Int:=if mt=true then 0 else if kind=2∧rune=24 then 18 else if(kind=2∧rune=21)∨(kind=1∧rune=117)then 21 else if kind=2∧rune=7 then 26 else 0
def namedK (r:Int):Int:=if r=1 then 22 else if r=2 then 23 else if r=3 then 3 else if r=4 then 4 else if r=5 then 7 else if r=6 then 8 else if r=8 then 9 else 0
def usualK:List Int:=[17,7,4,0,9,8,3,26,10,0,2,13,27,2,23,0,22,28,24,25,31,14,0,15,33,19,0,0,0,0,0,21]
def controlK (r:Int):Int:=if r=127 then 10 else if r<0∨31<r then 0 else usualK[r.toNat]?.getD 0
def metaK (r:Int):Int:=if 48≤r∧r≤57 then 29 else if r=45 then 30 else if r=98 then 6 else if r=102 then 5 else if r=100 then 11 else if r=119 then 16 else if r=121 then 20 else 0
def lookK (px:Bool)(kind rune:Int)(mt:Bool):Int:=
 if kind=4 then 32 else if px=true then behindK kind rune mt else if kind=3∧mt=false then namedK rune
 else if kind=2∧mt=true∧(rune=127∨rune=8)then 12 else if kind=2∧mt=false then controlK rune
 else if kind=1∧mt=true then metaK rune else if kind=1 then 1 else 0
def cmdK (px:Bool)(k:KeyV):Int:=if k.kind=4 then lookK false 4 0 false else lookK px k.kind k.rune k.meta_
structure Cn where
 some_:Bool
 minus:Bool
 digits:Bool
 n:Int
def Cn.zero:Cn:=⟨false,false,false,0⟩
def Cn.times (c:Cn):Int:=if c.minus=true then -(if c.digits=true then c.n else 1)else if c.digits=true then c.n else 1
structure EdS where
 tx:Tx
 cursor:Int
 mark:Int
 ring:List (List Int)
 rat:Int
 undo:List Grp
 past:List (List Int)
 pat:Int
 stash:List Int
 sk:Sk
 seeks:Bool
 px:Bool
 quote:Bool
 cnt:Cn
 last:Int
 run:Int
 bell:Bool
 redraw:Bool
 lines:List (List Int)
def yQ (T:TM)(x:Tx)(frm upto:Int)(ins:List Int):Option (Tx×Ed×Int):=
 if frm<0∨upto<frm∨(x.l.length:Int)<upto∨x.floor frm≠frm∨x.floor upto≠upto then none
 else(fun(is:List Int) (w:Win)=>if 65536<is.length then none else
  (fun(x':Tx) (v:Win)=>some (x',⟨v.frm,cutM x.l v.frm.toNat v.was.toNat,cutM is v.frm.toNat v.is_.toNat⟩,ceilI x'.st x'.l.length (afterW x.l is w upto))) (x.put T is w) (vJ x.l is w))
  (zX T x.l frm.toNat upto.toNat ins) (winL T x.l frm.toNat upto.toNat ins)
def winE (e:Ed):Win:=⟨e.at_,e.at_+e.old.length,e.at_+e.new.length⟩
def doE (T:TM)(x:Tx)(e:Ed):Option Tx:=match doM e x.l with
 |some l=>if 65536<l.length then none else some (x.put T l (winE e))
 |none=>none
namespace EdS
variable (T:TM)(e:EdS)
def ring_:EdS:={e with bell:=true}
def moved (x:Ed):EdS:=if 0≤e.mark then {e with mark:=keepW (winE x) e.mark}else e
def settle:EdS:=if 0≤e.mark then {e with mark:=e.tx.floor e.mark}else e
def change(frm upto:Int)(ins:List Int)(join:Bool):EdS×Bool:=match yQ T e.tx frm upto ins with
 |none=>(e.ring_,false)
 |some (x,ed,c)=>({settle (moved {e with tx:=x,undo:=addU e.undo ed e.cursor join} ed)with cursor:=c},true)
def repeatL (l:List Int)(n:Int):Option (List Int):=if n<1∨l=[]∨((65536 / l.length+1:Nat):Int)<n then none else some (List.replicate n.toNat l).flatten
def joins:Bool:=decide (e.last=1)&&decide (e.run<20)
def put (r n:Int):EdS:=match repeatL [r] n with
 |none=>{e with bell:=true,last:=0}
 |some l=>if(e.change T e.cursor e.cursor l e.joins).2=true then {(e.change T e.cursor e.cursor l e.joins).1 with last:=1,run:=(if e.joins=true then e.run else 0)+1}
  else {(e.change T e.cursor e.cursor l e.joins).1 with bell:=true,last:=0}
def undoes:List Ed→EdS→EdS×Bool
 |[],e=>(e,true)
 |x::r,e=>match doE T e.tx x.back with
  |some t=>undoes r (moved {e with tx:=t} x.back)
  |none=>(e,false)
def undone:EdS×Bool:=match e.undo.getLast? with
 |none=>(e,false)
 |some g=>if(undoes T g.es.reverse e).2=true then({settle (undoes T g.es.reverse e).1 with undo:=e.undo.dropLast,cursor:=g.cur},true)else undoes T g.es.reverse e
def yank:EdS:=match e.ring[e.rat.toNat]? with
 |none=>{e with last:=0,bell:=true}
 |some l=>(fun p:EdS×Bool=>if p.2=true then {p.1 with last:=3}else p.1) (change T {e with last:=0} e.cursor e.cursor l false)
def kill (s:Sp)(joins out:Bool):EdS:=
 if e.tx.part s.frm s.tt=[]then {e with last:=0,bell:=true}
 else(fun p:EdS×Bool=>if p.2=true then
  {p.1 with ring:=(if joins=true∧e.last=2 then joinR e.ring (e.tx.part s.frm s.tt) s.ahead else addR e.ring (e.tx.part s.frm s.tt)),rat:=0,last:=if joins=true then 2 else 0}
  else {p.1 with bell:=true}) (if out=true then change T {e with last:=0} s.frm s.tt [] false else({e with last:=0},true))
def visit (i cursor:Int):EdS×Bool:=match yL e.past e.pat e.stash i e.tx.l with
 |none=>(e,false)
 |some s=>(fun p:EdS×Bool=>if p.2=true then({p.1 with pat:=i,stash:=stashM e.pat e.stash i e.tx.l,cursor:=p.1.tx.floor cursor},true)else p) (e.change T 0 e.tx.l.length s false)
def all:List (List Int):=(yL e.past e.pat e.stash 0 e.tx.l).getD []::e.past.reverse
def failed (s:Sk):EdS×Bool:=({e with sk:=s,bell:=e.bell||s.failed},true)
def seek (k:KeyV):EdS×Bool:=
 (fun c:Int=>if c=1 then e.failed (e.sk.type T e.all k.rune)else if c=10 then e.failed (e.sk.rub T e.all)
  else if c=24 then e.failed (e.sk.again T e.all true)else if c=25 then e.failed (e.sk.again T e.all false)
  else if c=26 then({e with seeks:=false,bell:=true},true)
  else if e.sk.at_=e.pat then({e with seeks:=false,cursor:=e.tx.floor e.sk.place},false)else((visit T {e with seeks:=false} e.sk.at_ e.sk.place).1,false)) (cmdK false k)
def quoted (k:KeyV):EdS:=if k.kind=1∨k.kind=2 then put T {e with quote:=false,cnt:=Cn.zero} k.rune e.cnt.times else {e with quote:=false,cnt:=Cn.zero,bell:=true,last:=0}
def digit (r:Int):EdS:={e with cnt:=⟨true,e.cnt.minus,true,min (10*e.cnt.n+(if 48≤r∧r≤57 then r - 48 else 0)) 9999⟩}
def accept:EdS:=⟨Tx.new T [],0,-1,e.ring,e.rat,[],addM e.past e.tx.l,0,[],Sk.zero,false,false,false,Cn.zero,0,0,e.bell,e.redraw,e.lines++[e.tx.l]⟩
def region (c:Int):EdS:=if e.mark<0 then {e with bell:=true,last:=0}else match takeO T e.tx c e.cursor e.mark 1 with
 |some s=>e.kill T s false (decide (c=15))
 |none=>e.kill T ⟨0,0,false⟩ false (decide (c=15))
def goes (c n:Int):EdS×Bool:=
 if(moveO T e.tx c e.cursor n).2=true then
  ({e with bell:=e.bell||(decide ((moveO T e.tx c e.cursor n).1=e.cursor)&&decide (n≠0)&&decide (c≠7)&&decide (c≠8)),cursor:=(moveO T e.tx c e.cursor n).1,last:=0},true)
 else match takeO T e.tx c e.cursor e.mark n with
  |none=>(e,false)
  |some s=>if c=15∨c=16 then(e,false)else if c=9∨c=10 then
   (if s.frm=s.tt then({e with last:=0,bell:=true},true)else
    (fun p:EdS×Bool=>(if p.2=true then p.1 else {p.1 with bell:=true},true)) (change T {e with last:=0} s.frm s.tt [] false))
   else(e.kill T s true true,true)
def undoN:Nat→EdS→EdS×Bool
 |0,e=>(e,true)
 |k+1,e=>if(undone T e).2=true then undoN k (undone T e).1 else((undone T e).1,false)
def others (c n:Int)(k:KeyV):EdS×Bool:=
 if c=2 then(e.accept T,true)else if c=32 then(if k.text=[]then(e,false)else e.change T e.cursor e.cursor k.text false)
 else if c=17 then({e with mark:=e.cursor},true)else if c=18 then(if e.mark<0 then(e,false)else({e with cursor:=e.mark,mark:=e.cursor},true))
 else if c=21 then(if 0<n then undoN T n.toNat e else(e,false))
 else if c=22 then e.visit T (e.pat+n) 65536 else if c=23 then e.visit T (e.pat - n) 65536
 else if c=24∨c=25 then({e with sk:=⟨decide (c=24),[],e.pat,e.cursor,false,e.pat,e.cursor⟩,seeks:=true},true)
 else if c=27 then({e with redraw:=true},true)
 else if c=31 then(match swapO e.tx e.cursor with|some (s,l)=>e.change T s.frm s.tt l false|none=>(e,false))else(e,false)
def does2 (c n:Int)(k:KeyV):EdS:=(fun p:EdS×Bool=>if p.2=true then p.1 else {p.1 with bell:=true}) (others T {e with last:=0} c n k)
def does (c n:Int)(k:KeyV):EdS:=
 if c=1 then e.put T k.rune n else if(e.goes T c n).2=true then(e.goes T c n).1
 else(fun e:EdS=>if c=19 then e.yank T
  else if c=20 then(if e.last=3 then(if(e.undone T).2=true then
   yank T {(e.undone T).1 with rat:=if e.ring=[]then e.rat else(e.rat+1) % e.ring.length}else does2 T (e.undone T).1 c n k)else e.does2 T c n k)
  else if c=15∨c=16 then e.region T c else e.does2 T c n k) (e.goes T c n).1
def key3 (c:Int)(k:KeyV):EdS:=
 if c=33 then {e with px:=true}else if c=29 then e.digit k.rune
 else if c=30 then {e with cnt:=⟨true,!e.cnt.minus,e.cnt.digits,e.cnt.n⟩}else if c=28 then {e with quote:=true}
 else does T {e with cnt:=Cn.zero} c e.cnt.times k
def key2 (k:KeyV):EdS:=key3 T {e with px:=false} (cmdK e.px k) k
def key1 (k:KeyV):EdS:=if e.quote=true then e.quoted T k else if e.seeks=true then(if(e.seek T k).2=true then(e.seek T k).1 else(e.seek T k).1.key2 T k)else e.key2 T k
def key (k:KeyV):EdS:=key1 T {e with bell:=false,redraw:=false,lines:=[]} k
def new:EdS:=⟨Tx.new T [],0,-1,[],0,[],[],0,[],Sk.zero,false,false,false,Cn.zero,0,0,false,false,[]⟩
end EdS
end
theorem bsP_at (p:Nat→Bool)(hp:∀a b,a≤b→p b=true→p a=true):∀(k i j:Nat),j - i≤k→(∀a,i≤a→a<bsP p k i j→p a=true)∧(∀a,bsP p k i j≤a→a<j→p a=false)
 |0,i,j,h=>⟨fun a h1 h2=>by unfold bsP at h2;omega,fun a h1 h2=>by unfold bsP at h1;omega⟩
 |k+1,i,j,h=>by
  unfold bsP
  split
  ·split
   ·rename_i h1 h2
    obtain⟨h3,h4⟩:=bsP_at p hp k ((i+j) / 2+1) j (by omega);refine⟨fun a ha hb=>?_,h4⟩;by_cases hc:(i+j) / 2+1≤a
    ·exact h3 a hc hb
    ·exact hp a _ (by omega) h2
   ·rename_i h1 h2
    obtain⟨h3,h4⟩:=bsP_at p hp k i ((i+j) / 2) (by omega);refine⟨h3,fun a ha hb=>?_⟩;by_cases hc:a<(i+j) / 2
    ·exact h4 a ha hc
    ·cases hq:p a with
     |false=>rfl
     |true=>exact absurd (hp _ a (by omega) hq) h2
  ·exact⟨fun a h1 h2=>by omega,fun a h1 h2=>by omega⟩
structure IxOk (st:List Int)(n:Nat):Prop where
 up:st.Pairwise (·< ·)
 lo:∀y∈st,0≤y∧y<n
theorem IxOk.nil (n:Nat):IxOk [] n:=⟨.nil,fun _ h=>by simp at h⟩
theorem rise_len:∀(l:List Int) (a b:Int),l.Pairwise (·< ·)→(∀y∈l,a≤y∧y<b)→a≤b→(l.length:Int)≤b - a
 |[],a,b,_,_,h=>by simp;omega
 |x::l,a,b,h,hb,_=>by
  obtain⟨h1,h2⟩:=List.pairwise_cons.1 h;have h3:=hb x (by simp);have:=rise_len l (x+1) b h2 (fun y hy=>⟨by have:=h1 y hy;omega,(hb y (by simp[hy])).2⟩) (by omega);rw[List.length_cons];omega
theorem IxOk.len {st:List Int}{n:Nat}(h:IxOk st n):st.length≤n:=by
 have:=rise_len st 0 n h.up h.lo (by omega);omega
theorem IxOk.get {st:List Int}{n:Nat}(h:IxOk st n){k:Nat}(hk:k<st.length):0≤gN st k∧gN st k<n:=by
 unfold gN;rw[List.getElem?_eq_getElem hk];exact h.lo _ (List.getElem_mem hk)
theorem rise_get {st:List Int}(h:st.Pairwise (·< ·)){i j:Nat}(hij:i<j)(hj:j<st.length):gN st i<gN st j:=by
 unfold gN;rw[List.getElem?_eq_getElem hj,List.getElem?_eq_getElem (by omega)];exact List.pairwise_iff_getElem.1 h i j (by omega) hj hij
theorem bsI_lt {st:List Int}(h:st.Pairwise (·< ·))(x:Int){j:Nat}(hj:j<bsI st x):gN st j<x:=by
 have hle:=bsI_le st x
 let p:Nat→Bool:=fun k=>decide (k<st.length)&&decide (gN st k<x)
 have hp:∀a b,a≤b→p b=true→p a=true:=by
  intro a b hab hb;simp only[p,Bool.and_eq_true,decide_eq_true_eq]at hb⊢;refine⟨by omega,?_⟩;rcases Nat.lt_or_ge a b with hlt|hge
  ·have:=rise_get h hlt hb.1;omega
  ·have :a=b:=by omega
   rw[this];exact hb.2
 have he:∀(k i j:Nat),j≤st.length→bsP p k i j=bsP (fun h=>decide (gN st h<x)) k i j:=by
  intro k
  induction k with
  |zero=>intros;rfl
  |succ k ih=>
   intro i j hjl;unfold bsP;by_cases hij:i<j
   ·rw[if_pos hij,if_pos hij]
    have e:p ((i+j) / 2)=decide (gN st ((i+j) / 2)<x):=by
     show(decide _&&decide _)=_;rw[decide_eq_true (by omega:(i+j) / 2<st.length),Bool.true_and]
    rw[e,ih _ _ hjl,ih _ _ (by omega)]
   ·rw[if_neg hij,if_neg hij]
 have h1:=(bsP_at p hp st.length 0 st.length (by omega)).1 j (Nat.zero_le _);rw[he _ _ _ le_]at h1;have h2:=h1 hj;simp only[p,Bool.and_eq_true,decide_eq_true_eq]at h2;exact h2.2
theorem IxOk.starts (T:TM)(l:List Int):IxOk (startsS T l).1 l.length:=by
 have h:∀(l:List Int) (x:List Int×SSt×Nat),IxOk x.1 x.2.2→IxOk (l.foldl (fun(x:List Int×SSt×Nat) r=>(if(yO T x.2.1 r).2=true then x.1++[(x.2.2:Int)]else x.1,(yO T x.2.1 r).1,x.2.2+1)) x).1 (x.2.2+l.length):=by
  intro l
  induction l with
  |nil=>intro x h;simpa using h
  |cons r l ih=>
   intro x h;rw[List.foldl_cons,List.length_cons,show x.2.2+(l.length+1)=(x.2.2+1)+l.length by omega];refine ih _ ?_;show IxOk (if _ then _ else _) (x.2.2+1)
   split
   ·refine⟨List.pairwise_append.2 ⟨h.up,by simp,fun a ha b hb=>?_⟩,fun y hy=>?_⟩
    ·rw[List.mem_singleton.1 hb];exact(h.lo a ha).2
    ·rcases List.mem_append.1 hy with hy|hy
     ·have:=h.lo y hy;omega
     ·rw[List.mem_singleton.1 hy];omega
   ·exact⟨h.up,fun y hy=>by have:=h.lo y hy;omega⟩
 have:=h l ([],SSt.zero,0) (IxOk.nil 0);simpa[startsS]using this
theorem loopX_ok (T:TM)(st l:List Int)(sh is_:Int):∀(k:Nat) (s:XSt),(l.length:Int)≤s.at_+k→0≤s.at_→s.y.Pairwise (·< ·)→(∀y∈s.y,0≤y∧y<s.at_∧y<l.length)→
 (yB T st l sh is_ k s).y.Pairwise (·< ·)∧(∀y∈(yB T st l sh is_ k s).y,0≤y∧y<(yB T st l sh is_ k s).at_∧y<l.length)∧0≤(yB T st l sh is_ k s).at_∧
 ((l.length:Int)≤(yB T st l sh is_ k s).at_∨((yB T st l sh is_ k s).old<st.length∧gN st (yB T st l sh is_ k s).old+sh=(yB T st l sh is_ k s).at_))
 |0,s,h1,h2,h3,h4=>⟨h3,h4,h2,.inl (by show(l.length:Int)≤s.at_;simpa using h1)⟩
 |k+1,s,h1,h2,h3,h4=>by
  unfold yB
  split
  ·rename_i hlt
   split
   ·rename_i hm
    unfold meetX at hm;simp only[Bool.and_eq_true,decide_eq_true_eq]at hm;exact⟨h3,h4,h2,.inr ⟨hm.1.2,hm.2⟩⟩
   ·have hn:=yA T l s.at_ hlt h2
    refine loopX_ok T st l sh is_ k _ (by dsimp only;omega) (by dsimp only;omega) (List.pairwise_append.2 ⟨h3,by simp,fun a ha b hb=>?_⟩) (fun y hy=>?_)
    ·rw[List.mem_singleton.1 hb];exact(h4 a ha).2.1
    ·rcases List.mem_append.1 hy with hy|hy
     ·have:=h4 y hy;dsimp only;omega
     ·rw[List.mem_singleton.1 hy];dsimp only;omega
  ·exact⟨h3,h4,h2,.inl (by omega)⟩
theorem IxOk.change (T:TM){st was is:List Int}{w:Win}(h:IxOk st was.length)(hw:WinOk was is w)(hs:w.is_ - w.was=(is.length:Int) - was.length):IxOk (xV T st is w) is.length:=by
 obtain⟨w1,w2,w3,w4,w5⟩:=hw;have hs0:0≤(yT st w).at_∧(yT st w).y.Pairwise (·< ·)∧∀y∈(yT st w).y,0≤y∧y<(yT st w).at_∧y<is.length:=by
  unfold yT;dsimp only;by_cases hk:kX st w.frm<st.length
  ·rw[if_pos hk]
   refine⟨(h.get hk).1,h.up.sublist (List.take_sublist _ _),fun y hy=>?_⟩;obtain⟨i,hi,rfl⟩:=List.getElem_of_mem hy;rw[List.length_take]at hi;have e:(st.take (kX st w.frm))[i]'(by rw[List.length_take];exact hi)=gN st i:=by
    unfold gN;rw[List.getElem?_eq_getElem (by omega),List.getElem_take];rfl
   rw[e];have h1:=rise_get h.up (show i<kX st w.frm by omega) hk;have h2:=bsI_lt h.up w.frm (show kX st w.frm<bsI st w.frm by unfold kX at *;omega);have:=h.get (k:=i) (by omega);omega
  ·rw[if_neg hk]
   have hle:=bsI_le st w.frm;have he:st=[]:=by
    rcases st with _|⟨a,r⟩
    ·rfl
    ·unfold kX at hk;rw[List.length_cons]at hk hle;omega
   subst he;exact⟨Int.le_refl _,by simp,fun y hy=>by simp at hy⟩
 obtain⟨r1,r2,r3,r4⟩:=loopX_ok T st is (w.is_ - w.was) w.is_ (is.length+1) (yT st w) (by omega) hs0.1 hs0.2.1 hs0.2.2;unfold xV;generalize yB T st is (w.is_ - w.was) w.is_ (is.length+1) (yT st w)=s at *;dsimp only
 split
 ·rename_i hlt
  rcases r4 with r4|⟨r4,r5⟩
  ·omega
  have hge:∀y∈(st.drop s.old).map (·+(w.is_ - w.was)),s.at_≤y∧y<is.length:=by
   intro y hy;obtain⟨z,hz,rfl⟩:=List.mem_map.1 hy;obtain⟨i,hi,rfl⟩:=List.getElem_of_mem hz;rw[List.length_drop]at hi;have e:(st.drop s.old)[i]'(by rw[List.length_drop];exact hi)=gN st (s.old+i):=by
    unfold gN;rw[List.getElem?_eq_getElem (by omega),List.getElem_drop];rfl
   rw[e];have h2:=h.get (k:=s.old+i) (by omega);rcases Nat.eq_zero_or_pos i with rfl|hp
   ·rw[Nat.add_zero]at *;omega
   ·have:=rise_get h.up (show s.old<s.old+i by omega) (by omega)
    omega
  refine⟨List.pairwise_append.2 ⟨r1,?_,fun a ha b hb=>?_⟩,fun y hy=>?_⟩
  ·rw[List.pairwise_map]
   exact(h.up.sublist (List.drop_sublist _ _)).imp (by intro a b hab;omega)
  ·have:=r2 a ha;have:=hge b hb;omega
  ·rcases List.mem_append.1 hy with hy|hy
   ·have:=r2 y hy;omega
   ·have:=hge y hy;omega
 ·exact⟨r1,fun y hy=>by have:=r2 y hy;omega⟩
theorem IxOk.start_in {st:List Int}{n:Nat}(h:IxOk st n)(i:Int):0≤startI st n i∧startI st n i≤n:=by
 unfold startI
 split
 ·omega
 ·have:=h.get (k:=i.toNat) (by omega);omega
theorem IxOk.floor_in {st:List Int}{n:Nat}(h:IxOk st n)(x:Int):0≤xF st n x∧xF st n x≤n:=by
 unfold xF
 split
 ·omega
 ·split
  ·rename_i h1 h2
   unfold bsOk at h2;simp only[Bool.and_eq_true,decide_eq_true_eq]at h2;have:=h.get h2.1;omega
  ·split
   ·omega
   ·rename_i h3
    have hle:=bsI_le st x;have:=h.get (k:=bsI st x - 1) (by omega);omega
theorem IxOk.ceil_in {st:List Int}{n:Nat}(h:IxOk st n)(x:Int):0≤ceilI st n x∧ceilI st n x≤n:=by
 unfold ceilI
 split
 ·omega
 ·exact IxOk.start_in h _
theorem IxOk.on_in {st:List Int}{n:Nat}(h:IxOk st n)(x y:Int):0≤onI st n x y∧onI st n x y≤n:=IxOk.start_in h _
def Lst {α:Type}(R:World→α→List Value→Prop)(k:Nat)(w:World)(A:Option Addr)(n c:Nat)(xs:List α):Prop:=
 ∃css:List (List Value),Sl w Any k A n c css.flatten∧RelL (R w) xs css∧xs.length=n
section
variable {α:Type}{R:World→α→List Value→Prop}{k:Nat}{w w':World}{A:Option Addr}{n c:Nat}{xs:List α}
theorem Lst.len (h:Lst R k w A n c xs):xs.length=n:=by obtain⟨_,_,_,h⟩:=h;exact h
theorem Lst.le (h:Lst R k w A n c xs):n≤c:=by obtain⟨_,h,_⟩:=h;exact Sl.le h
theorem Lst.cap (h:Lst R k w A n c xs):c≤maxLen:=by obtain⟨_,h,_⟩:=h;exact Sl.cap h
theorem Lst.nil:Lst R k w none 0 0 []:=⟨[],Sl.nil _ _ _,trivial,rfl⟩
theorem Lst.get (hk:∀x cs,R w x cs→cs.length=k)(h:Lst R k w A n c xs){i:Nat}{x:α}(hx:xs[i]? =some x):∃ad cs,A=some ad∧R w x cs∧∀r,r<k→w.cell? (ad.add (i*k+r))=cs[r]? :=by
 obtain⟨css,h1,h2,h3⟩:=h;obtain⟨cs,hc,hr⟩:=h2.get hx;have hl:=h2.all hk;have hn:0<n:=by have:=(List.getElem?_eq_some_iff.1 hx).1;omega
 obtain⟨ad,e,_,_,hcell⟩:=h1.at_ hn;refine⟨ad,cs,e,hr,fun r hr'=>?_⟩;have hcl:=hk x cs hr;have h5:=yR hl hc hr';obtain⟨u,hu⟩:∃u,cs[r]? =some u:=⟨cs[r]'(by omega),List.getElem?_eq_getElem _⟩;rw[hu];exact hcell _ _ (by rw[h5,hu])
theorem Lst.one (h1:∀x cs,R w x cs→∀u∈cs,u.oneCell'=true){css:List (List Value)}(h:RelL (R w) xs css):∀u∈css.flatten,u.oneCell'=true:=by
 intro u hu;obtain⟨cs,hc,hu⟩:=List.mem_flatten.1 hu;exact h.all (p:=fun cs=>∀u∈cs,u.oneCell'=true) h1 cs hc u hu
end
theorem zF (ad:Addr)(x i:Nat):ad.add (x+(i+1))=⟨(ad.add x).block,(ad.add x).off+(i+1),none⟩:=by
 rw[←xN];unfold Addr.add;simp
def EdV (w:World)(e:Ed)(cs:List Value):Prop:=∃A n c B m d,cs=[.int .i64 e.at_,.slice A n c,.slice B m d]∧Ru w Any A n c e.old∧Ru w Any B m d e.new
def GrpV (w:World)(g:Grp)(cs:List Value):Prop:=∃A n c,cs=[.slice A n c,.int .i64 g.cur]∧Lst EdV 3 w A n c g.es
section
variable {w w':World}
theorem EdV.len (e:Ed)(cs:List Value)(h:EdV w e cs):cs.length=3:=by obtain⟨A,n,c,B,m,d,rfl,_⟩:=h;rfl
theorem EdV.one (e:Ed)(cs:List Value)(h:EdV w e cs):∀u∈cs,u.oneCell'=true:=by obtain⟨A,n,c,B,m,d,rfl,_⟩:=h;simp[Value.oneCell']
theorem GrpV.len (g:Grp)(cs:List Value)(h:GrpV w g cs):cs.length=2:=by obtain⟨A,n,c,rfl,_⟩:=h;rfl
theorem GrpV.one (g:Grp)(cs:List Value)(h:GrpV w g cs):∀u∈cs,u.oneCell'=true:=by obtain⟨A,n,c,rfl,_⟩:=h;simp[Value.oneCell']
end
def Eds (w:World)(A:Option Addr)(n c:Nat)(es:List Ed):Prop:=Lst EdV 3 w A n c es
def Grps (w:World)(A:Option Addr)(n c:Nat)(gs:List Grp):Prop:=Lst GrpV 2 w A n c gs
section
variable {w w':World}{F G:Nat→Prop}{A:Option Addr}{n c:Nat}{es:List Ed}{gs:List Grp}
def EdVF (F:Nat→Prop)(w:World)(e:Ed)(cs:List Value):Prop:=∃A n c B m d,cs=[.int .i64 e.at_,.slice A n c,.slice B m d]∧Ru w F A n c e.old∧Ru w F B m d e.new
def EdsG (F:Nat→Prop)(w:World)(A:Option Addr)(n c:Nat)(es:List Ed):Prop:=∃css,Sl w F 3 A n c css.flatten∧RelL (EdVF F w) es css∧es.length=n
def GrpVF (F:Nat→Prop)(w:World)(g:Grp)(cs:List Value):Prop:=∃A n c,cs=[.slice A n c,.int .i64 g.cur]∧EdsG F w A n c g.es
def GrpsF (F:Nat→Prop)(w:World)(A:Option Addr)(n c:Nat)(gs:List Grp):Prop:=∃css,Sl w F 2 A n c css.flatten∧RelL (GrpVF F w) gs css∧gs.length=n
theorem EdVF.ed (e:Ed)(cs:List Value)(h:EdVF F w e cs):EdV w e cs:=by
 obtain⟨A,n,c,B,m,d,hc,h1,h2⟩:=h;exact⟨A,n,c,B,m,d,hc,h1.any,h2.any⟩
theorem GrpVF.grp (g:Grp)(cs:List Value)(h:GrpVF F w g cs):GrpV w g cs:=by
 obtain⟨A,n,c,hc,css,h1,h2,h3⟩:=h;exact⟨A,n,c,hc,css,h1.any,h2.mono EdVF.ed,h3⟩
theorem GrpsF.grps (h:GrpsF F w A n c gs):Grps w A n c gs:=by
 obtain⟨css,h1,h2,h3⟩:=h;exact⟨css,h1.any,h2.mono GrpVF.grp,h3⟩
theorem EdVF.frame (hs:w.heap.size≤w'.heap.size)(hk:∀k,F k→k<w.heap.size→w'.heap[k]? =w.heap[k]?)(e:Ed)(cs:List Value)(h:EdVF F w e cs):EdVF F w' e cs:=by
 obtain⟨A,n,c,B,m,d,hc,h1,h2⟩:=h;exact⟨A,n,c,B,m,d,hc,Sl.frame h1 hs hk,Sl.frame h2 hs hk⟩
theorem GrpVF.frame (hs:w.heap.size≤w'.heap.size)(hk:∀k,F k→k<w.heap.size→w'.heap[k]? =w.heap[k]?)(g:Grp)(cs:List Value)(h:GrpVF F w g cs):GrpVF F w' g cs:=by
 obtain⟨A,n,c,hc,css,h1,h2,h3⟩:=h;exact⟨A,n,c,hc,css,Sl.frame h1 hs hk,h2.mono (EdVF.frame hs hk),h3⟩
theorem GrpsF.frame (h:GrpsF F w A n c gs)(hs:w.heap.size≤w'.heap.size)(hk:∀k,F k→k<w.heap.size→w'.heap[k]? =w.heap[k]?):GrpsF F w' A n c gs:=by
 obtain⟨css,h1,h2,h3⟩:=h;exact⟨css,Sl.frame h1 hs hk,h2.mono (GrpVF.frame hs hk),h3⟩
theorem GrpVF.kp (k:Kp w w')(g:Grp)(cs:List Value)(h:GrpVF F w g cs):GrpVF F w' g cs:=GrpVF.frame k.size (fun i _ hi=>k.block i hi) g cs h
theorem GrpsF.kp (h:GrpsF F w A n c gs)(k:Kp w w'):GrpsF F w' A n c gs:=h.frame k.size (fun i _ hi=>k.block i hi)
theorem GrpsF.setCell (h:GrpsF F w A n c gs){p:Addr}(hp:¬F p.block)(u:Value):GrpsF F (w.setCell p u) A n c gs:=
 h.frame (by simp[World.setCell]) fun i hF _=>Below.heap_setCell w p u i (by rintro rfl;exact hp hF)
theorem EdVF.weak (hG:∀k,k<w.heap.size→F k→G k)(e:Ed)(cs:List Value)(h:EdVF F w e cs):EdVF G w e cs:=by
 obtain⟨A,n,c,B,m,d,hc,h1,h2⟩:=h;exact⟨A,n,c,B,m,d,hc,h1.weak hG,h2.weak hG⟩
theorem GrpVF.weak (hG:∀k,k<w.heap.size→F k→G k)(g:Grp)(cs:List Value)(h:GrpVF F w g cs):GrpVF G w g cs:=by
 obtain⟨A,n,c,hc,css,h1,h2,h3⟩:=h;exact⟨A,n,c,hc,css,h1.weak hG,h2.mono (EdVF.weak hG),h3⟩
theorem GrpsF.weak (h:GrpsF F w A n c gs)(hG:∀k,k<w.heap.size→F k→G k):GrpsF G w A n c gs:=by
 obtain⟨css,h1,h2,h3⟩:=h;exact⟨css,h1.weak hG,h2.mono (GrpVF.weak hG),h3⟩
theorem GrpsF.drop (h:GrpsF F w A n c gs){m:Nat}(hm:m≤n):GrpsF F w (if c=m then A else A.map (·.add (m*2))) (n - m) (c - m) (gs.drop m):=by
 obtain⟨css,h1,h2,h3⟩:=h;have h4:=Sl.drop h1 hm;rw[flat_drop m (h2.all fun g cs h=>GrpV.len g cs (GrpVF.grp g cs h))]at h4;exact⟨css.drop m,h4,h2.drop m,by rw[List.length_drop,h3]⟩
theorem GrpsF.nil:GrpsF F w none 0 0 []:=⟨[],Sl.nil _ _ _,trivial,rfl⟩
end
theorem Sl.of_bxF {w:World}{F:Nat→Prop}{b:Nat}{cs:Array Value}{t:TypeId}(h:Bx w b cs t)(hF:F b)(k n:Nat)(hs:cs.size=n*k)(hn:n≤1099511627776):Sl w F k (some ⟨b,0,none⟩) n n cs.toList:=
 ⟨le_,by unfold maxLen;omega,by simp[hs],fun _=>⟨⟨b,0,none⟩,rfl,hF,h.lt,fun j u hu=>by
  have e:(⟨b,0,none⟩:Addr).add j=⟨b,j,none⟩:=by unfold Addr.add;split<;>simp_all
  rw[e,h.cell j];simpa using hu⟩⟩
theorem grpVF_new {w:World}{F:Nat→Prop}{b:Nat}{t:TypeId}{B C:Option Addr}{m d p q:Nat}(ed:Ed)(cur:Int)(h:Bx w b #[.int .i64 ed.at_,.slice B m d,.slice C p q] t)(hF:F b)(hB:Ru w F B m d ed.old)(hC:Ru w F C p q ed.new):
 GrpVF F w ⟨[ed],cur⟩ [.slice (some ⟨b,0,none⟩) 1 1,.int .i64 cur]:=⟨_,_,_,rfl,[[.int .i64 ed.at_,.slice B m d,.slice C p q]],by simpa using Sl.of_bxF h hF 3 1 rfl (by omega),RelL.one ⟨B,m,d,C,p,q,rfl,hB,hC⟩,rfl⟩
theorem named_any (r:Int)(w:World):
 Calls Tryz.prog 75 #[.int .i32 r] w fun e w'=>e=.returned (.int .i64 (namedK r))∧w=w':=by
 obtain⟨v,hv⟩:∃v,v=namedK r:=⟨_,rfl⟩;rw[←hv];have HV:=hid hv;clear hv;by_cases h1:r=1
 ·subst h1
  go_enter Tryz.func75,Tryz.ntmps75;go_wp2_with fail;go_ret;exact⟨zC (by rw[HV.out];rfl),rfl⟩
 have q1:(r==1)=false:=by simpa using h1
 by_cases h2:r=2
 ·subst h2
  go_enter Tryz.func75,Tryz.ntmps75;go_wp2_with fail;go_ret;exact⟨zC (by rw[HV.out];rfl),rfl⟩
 have q2:(r==2)=false:=by simpa using h2
 by_cases h3:r=3
 ·subst h3
  go_enter Tryz.func75,Tryz.ntmps75;go_wp2_with fail;go_ret;exact⟨zC (by rw[HV.out];rfl),rfl⟩
 have q3:(r==3)=false:=by simpa using h3
 by_cases h4:r=4
 ·subst h4
  go_enter Tryz.func75,Tryz.ntmps75;go_wp2_with fail;go_ret;exact⟨zC (by rw[HV.out];rfl),rfl⟩
 have q4:(r==4)=false:=by simpa using h4
 by_cases h5:r=5
 ·subst h5
  go_enter Tryz.func75,Tryz.ntmps75;go_wp2_with fail;go_ret;exact⟨zC (by rw[HV.out];rfl),rfl⟩
 have q5:(r==5)=false:=by simpa using h5
 by_cases h6:r=6
 ·subst h6
  go_enter Tryz.func75,Tryz.ntmps75;go_wp2_with fail;go_ret;exact⟨zC (by rw[HV.out];rfl),rfl⟩
 have q6:(r==6)=false:=by simpa using h6
 by_cases h8:r=8
 ·subst h8
  go_enter Tryz.func75,Tryz.ntmps75;go_wp2_with fail;go_ret;exact⟨zC (by rw[HV.out];rfl),rfl⟩
 have q8:(r==8)=false:=by simpa using h8
 have HV2:Hid (v=0):=by show _=_;rw[HV.out];unfold namedK;(repeat' split)<;>omega
 go_enter Tryz.func75,Tryz.ntmps75;go_wp2_with fail;go_ret;exact⟨zC HV2.out.symm,rfl⟩
theorem meta_any (r:Int)(w:World):
 Calls Tryz.prog 77 #[.int .i32 r] w fun e w'=>e=.returned (.int .i64 (metaK r))∧w=w':=by
 obtain⟨v,hv⟩:∃v,v=metaK r:=⟨_,rfl⟩;rw[←hv];have HV:=hid hv;clear hv;by_cases hd:48≤r∧r≤57
 ·obtain⟨d1,d2⟩:=hd
  have HV2:Hid (v=29):=by show _=_;rw[HV.out];unfold metaK;(repeat' split)<;>omega
  have d1':r≥48:=d1;go_enter Tryz.func77,Tryz.ntmps77;go_wp2_with fail;go_ret;exact⟨zC HV2.out.symm,rfl⟩
 by_cases h45:r=45
 ·subst h45
  go_enter Tryz.func77,Tryz.ntmps77;go_wp2_with fail;go_ret;exact⟨zC (by rw[HV.out];rfl),rfl⟩
 have q45:(r==45)=false:=by simpa using h45
 by_cases h98:r=98
 ·subst h98
  go_enter Tryz.func77,Tryz.ntmps77;go_wp2_with fail;go_ret;exact⟨zC (by rw[HV.out];rfl),rfl⟩
 have q98:(r==98)=false:=by simpa using h98
 by_cases h102:r=102
 ·subst h102
  go_enter Tryz.func77,Tryz.ntmps77;go_wp2_with fail;go_ret;exact⟨zC (by rw[HV.out];rfl),rfl⟩
 have q102:(r==102)=false:=by simpa using h102
 by_cases h100:r=100
 ·subst h100
  go_enter Tryz.func77,Tryz.ntmps77;go_wp2_with fail;go_ret;exact⟨zC (by rw[HV.out];rfl),rfl⟩
 have q100:(r==100)=false:=by simpa using h100
 by_cases h119:r=119
 ·subst h119
  go_enter Tryz.func77,Tryz.ntmps77;go_wp2_with fail;go_ret;exact⟨zC (by rw[HV.out];rfl),rfl⟩
 have q119:(r==119)=false:=by simpa using h119
 by_cases h121:r=121
 ·subst h121
  go_enter Tryz.func77,Tryz.ntmps77;go_wp2_with fail;go_ret;exact⟨zC (by rw[HV.out];rfl),rfl⟩
 have q121:(r==121)=false:=by simpa using h121
 by_cases hlo:r≥48
 ·have hhi:¬r≤57:=by omega
  have HV2:Hid (v=0):=by show _=_;rw[HV.out];unfold metaK;(repeat' split)<;>omega
  have q1:=dT hlo;have q2:=dF hhi;clear hd;go_enter Tryz.func77,Tryz.ntmps77;go_wp2_with fail;go_ret;exact⟨zC HV2.out.symm,rfl⟩
 ·have HV2:Hid (v=0):=by show _=_;rw[HV.out];unfold metaK;(repeat' split)<;>omega
  have q1:=dF hlo;clear hd;go_enter Tryz.func77,Tryz.ntmps77;go_wp2_with fail;go_ret;exact⟨zC HV2.out.symm,rfl⟩
end Go.Proofs.YtociefdcccokjaaGreat

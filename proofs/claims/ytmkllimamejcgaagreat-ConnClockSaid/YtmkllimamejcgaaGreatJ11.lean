/- Part of the proof. -/
import Derived.Test.YtmkllimamejcgaaGreatJ10
import Derived.Test.YtmkllimamejcgaaGreatQVcW
import Derived.Test.YtmkllimamejcgaaGreatQVcK
namespace Go.Proofs.YtmkllimamejcgaaGreat
set_option linter.all false
open Go.RowKit
def ttc:=@Bool.not_eq_true'
def uun:=@List.filter_congr
structure CC(c:dI)(k:dU)(n:Nat):Prop where
 n1:1<=n
 n8:n<=8
 tables:c.tables=n
 U4:0<=c.late
 U5:c.late<2 ^ n
 s0:64<=c.size
 s1:c.size<=65536
 queue:c.queue=k.cap
 q1:1<=k.cap
 Dy:k.cap<=64
 c1:1<=c.chunk
 wm:c.chunk<=64
 batch:c.batch=k.cJ
 b1:1<=k.cJ
 Hi:k.cJ<=64
 base:c.base=k.b
 cm:c.cJ=k.m
 UR:c.sy=k.j
 may:p2 k.b k.m k.j
 e1:1<=c.every
 e2:c.every<=1073741824
structure bW where
 s:fo
 k:cQ
 m:dC
 dr:dA
 q:List cH
 pos:Int
 due:Int
 last:Int
 dy:Ω
 now:Int
def bW.src(c:bW):cQ:={c.k with d:=c.s.k.d}
def bW.jr(c:bW)(k:cQ):bW:={c with k:=k,s:={c.s with k:={c.s.k with d:=k.d}}}
def bW.lN(cf:dI)(c:bW):fz:=⟨c.src,c.m,c.dr,cf.chunk⟩
def bW.Gf(c:bW)(p:fz):bW:={c.jr p.k with m:=p.m,dr:=p.d}
def bW.kU(kc:dU)(c:bW):Nat:=kc.cap-c.s.L.length-c.s.out
def bW.head(c:bW):Int:=cI c.k.g.bF
def bW.en(kc:dU)(c:bW)(comp:Int):Bool:=
 if c.s.k.d.off=true then false
 else if comp=0 then decide (c.pos<c.head/\c.q.length<kc.cap)
 else if comp=1 then (match c.q with
  | []=>false
  | t::_=>decide (0<c.kU kc) && !(c.m.cB.waits t.kind t.mark))
 else if comp=2 then Dz c.m
 else if comp=3 then c.s.ready c.now
 else if comp=4 then decide (c.due<=c.now/\(c.m.at_<=c.last\/0<c.kU kc))
 else false
structure po where
 err:Int
 aw:Int
 jJ:Int
deriving DecidableEq
def vf(t:po):Ξ:=[Γ t.err,Γ t.aw,Γ t.jJ]
def bW.put(c:bW)(x:cD):bW:={c with s:={c.s with L:=c.s.L++[x]}}
def bW.read(c:bW):bW × po:=match c.src.gP (c.pos+1) with
 | .error e=>(c,⟨e,0,0⟩)
 | .ok t=>({c with q:=c.q++[t],pos:=c.pos+1},⟨0,0,1⟩)
def bW.vT(c:bW)(x:cD):bW:=if 0<x.ops.length+x.notes.length then {c.put x with last:=max c.last x.aw} else c
def bW.take(c:bW):bW × po:=match c.q with
 | []=>(c,⟨0,0,0⟩)
 | t::q=>let r:=c.m.take t;(({c with q:=q,m:=r.1}:bW).vT r.2.1,⟨0,0,2⟩)
def bW.draw(c:bW):Int:=c.dy.headD 0
def bW.write(kc:dU)(c:bW):bW × po:=
 let r:=c.s.step kc c.now c.draw
 ({c with s:=r.1,dy:=if r.2.1=7 then c.dy.tail else c.dy},⟨r.2.2,0,r.2.1⟩)
def jo(every now:Int):Int:=min (max now 0) 1125899906842624+every
def bW.tell(cf:dI)(c:bW):bW × po:=
 if c.m.at_<=c.last then ({c with due:=jo cf.every c.now},⟨0,0,9⟩)
 else ({c.put ⟨c.m.at_,[],[]⟩ with due:=jo cf.every c.now,last:=c.m.at_},⟨0,0,8⟩)
def bW.snap(cf:dI)(c:bW):bW × po:=let r:=(c.lN cf).step;(c.Gf r.1,⟨r.2.2,0,r.2.1⟩)
def bW.pick(cf:dI)(kc:dU)(c:bW)(comp:Int):bW × po:=
 if comp<0\/5<=comp then (c,⟨1,0,0⟩)
 else if c.en kc comp=false then (c,⟨0,0,0⟩)
 else if comp=0 then c.read
 else if comp=1 then c.take
 else if comp=2 then c.snap cf
 else if comp=3 then c.write kc
 else c.tell cf
def bW.fault(c:bW)(f:fQ):bW × Int:=
 if iZ f=false then (c,1)
 else if 1024<=c.s.k.plan.length then (c,7)
 else ({c with s:={c.s with k:={c.s.k with plan:=c.s.k.plan++[f]}}},0)
def bW.tick(c:bW)(n:Int):bW × Int:=
 if n<1\/1073741824<n then (c,1) else if 1125899906842624<c.now+n then (c,7) else ({c with now:=c.now+n},0)
def bW.drawn(c:bW)(x:Int):bW × Int:=
 if x<0\/1125899906842624<x then (c,1) else if 1024<=c.dy.length then (c,7) else ({c with dy:=c.dy++[x]},0)
def bW.tW(c:bW)(x:Int):bW × Int:=
 if x<0\/1073741824<x then (c,1) else ({c with s:={c.s with k:={c.s.k with d:=c.s.k.d.p5 x}}},0)
def bW.trim(c:bW):bW × Int:=let r:=c.src.gY c.s.k.aw;(c.jr r.1,r.2)
def bW.start(cf:dI)(k:cQ)(sk:cN)(now:Int):bW:=
 ⟨⟨sk,[],0,0,0,nK,0⟩,k,⟨cf.tables,cf.late,sk.aw,sk.reqs,mH cf.chunk⟩,wE,[],sk.aw,jo cf.every now,sk.aw,[],now⟩
def JU(cf:dI)(d:DS)(now:Int):DS × Except Int bW:=match lk d cf.tables cf.size with
 | (d1,.error e)=>(d1,.error e)
 | (_,.ok k)=>match kC k.d cf.tables cf.size with
  | (d2,.error e)=>(d2,.error e)
  | (_,.ok sk)=>(sk.d,.ok (bW.start cf k sk now))
def bW.eD(cf:dI)(c:bW)(keep:Ω):bW:=match JU cf (c.s.k.d.eD keep) c.now with
 | (_,.ok c')=>c'
 | (_,.error _)=>c
def bW.other(cf:dI)(c:bW)(s:g_):bW × Int:=
 if s.kind=3 then c.fault s.ft
 else if s.kind=4 then c.tick s.n
 else if s.kind=5 then c.drawn s.n
 else if s.kind=6 then c.trim
 else if s.kind=7 then c.tW s.n
 else if s.kind=8 then (c.eD cf s.keep,0)
 else (c,1)
def bW.nX(c:bW)(s:g_):bW × po:=let r:=c.src.nY s.sg s.l;(c.jr r.1,⟨r.2.2,r.2.1,0⟩)
def bW.gH(cf:dI)(kc:dU)(c:bW)(s:g_):bW × po:=
 if c.s.k.d.off=true/\s.kind≠8 then (c,⟨8,0,0⟩)
 else if s.kind=1 then c.nX s
 else if s.kind=2 then c.pick cf kc s.n
 else ((c.other cf s).1,⟨(c.other cf s).2,0,0⟩)
structure DZ where
 aw:Int
 head:Int
 low:Int
 clock:Int
 at_:Int
 pos:Int
 read:Int
 Kb:Int
 held:Int
 kU:Int
 cB:Int
 rows:Int
 fR:Int
 eK:Int
 due:Int
 down:Bool
deriving DecidableEq
def Aq(l:DZ):Ξ:=[Γ l.aw,Γ l.head,Γ l.low,Γ l.clock,Γ l.at_,Γ l.pos,Γ l.read,Γ l.Kb,Γ l.held,Γ l.kU,Γ l.cB,Γ l.rows,Γ l.fR,Γ l.eK,Γ l.due,.bool l.down]
def bW.look(kc:dU)(c:bW):DZ:=
 ⟨c.s.k.aw,c.head,eZ c.k.g.bF,c.now,c.m.at_,c.pos,c.q.length,c.s.L.length,c.s.out,(c.kU kc:Nat),c.m.cB.state,c.m.cB.rows.length,c.s.fR,c.s.eK,c.due,c.s.k.d.off⟩
def j6(l:List cD):List il:=(l.map (·.notes)).flatten
def bZh(l l':List cD):j6 (l++l')=j6 l++j6 l':=by simp[j6]
def U1(l:List cD):(jZ l).notes=j6 l:=by
 suffices h:∀(l:List cD) (a:cD),(l.foldl jn a).notes=a.notes++j6 l from h l nK
 intro l;induction l with
 | nil=>intro a;simp[j6]
 | cons x l ih=>intro a;rw[xx4,ih];simp[jn,j6]
def U3{l:List cD}(h:l≠[])(b b':Int):iM b l=iM b' l:=by
 cases l with
 | nil=>exact absurd rfl h
 | cons x l=>rfl
structure tP(n:Nat)(x:cD):Prop where
 w:uW n x
 nt:∀m∈x.notes,m.kind≠2->m.table<(n:Int)
structure jG(kc:dU)(n:Nat)(s:fo)(hd:List cD)(last:Int)(R:List Rq)(f:Nat):Prop where
 it:∀x∈hd++s.L,tP n x
 jP:fH 0 (hd++s.L)
 le:iM 0 (hd++s.L)<=last
 hn:hd.length=s.n
 held:s.held=jZ hd
 room:s.L.length+s.out<=kc.cap
 out:s.out=s.n
 l0:0<=s.k.aw
 aw:s.k.aw<=last
 st:(fH s.k.aw (hd++s.L)/\fT s.k.reqs (j6 (hd++s.L))=some R)\/(hd≠[]/\s.k.aw=iM 0 hd/\fT s.k.reqs (j6 s.L)=some R)
 f0:0<=s.fR
 f1:s.fR<=f
def jG.mono{kc:dU}{n:Nat}{s:fo}{hd:List cD}{last:Int}{R:List Rq}{f f':Nat}(h:jG kc n s hd last R f)(hf:f<=f'):jG kc n s hd last R f':=⟨h.it,h.jP,h.le,h.hn,h.held,h.room,h.out,h.l0,h.aw,h.st,h.f0,by have:=h.f1;omega⟩
def jG.inv{kc:dU}{n:Nat}{s:fo}{hd:List cD}{last:Int}{R:List Rq}{f:Nat}(h:jG kc n s hd last R f){cf:dI}(hc:CC cf kc n):pq kc n s f:=by
 have h1:=fH.append.1 h.jP;refine⟨hc.q1,hc.Dy,hc.b1,hc.Hi,λx hx=>(h.it x (uuq _ hx)).w,h1.2.mono h1.1.last,h.room,h.out,?_,h.f0,h.f1⟩;have hn:=h.hn;by_cases h0:s.n=0
 ·have:hd=[]:=wwc.1 (by omega);subst this;exact .inl ⟨h0,h.held⟩
 have:=Dg (n:=n) (l:=hd) (λx hx=>(h.it x (wwa _ hx)).w) h1.1;rw[hn,<- h.held]at this
 exact .inr ⟨by omega,this⟩
def jG.put{kc:dU}{n:Nat}{s:fo}{hd:List cD}{last:Int}{R R':List Rq}{f:Nat}(h:jG kc n s hd last R f){x:cD}(hx:tP n x)(hl:last<x.aw)(hR:fT R x.notes=some R')(hr:s.L.length+s.out<kc.cap):jG kc n {s with L:=s.L++[x]} hd x.aw R' f:=by
 have hle:=h.le;have kx:=h.aw;have TS:∀A:List cD,j6 (A++[x])=j6 A++x.notes:=λA=>by simp[j6]
 have e:hd++(s.L++[x])=(hd++s.L)++[x]:=(zzk _ _ _).symm;refine⟨λy hy=>?_,?_,?_,h.hn,h.held,?_,h.out,h.l0,by show s.k.aw<=x.aw;omega,?_,h.f0,h.f1⟩
 ·have hy:y∈hd++(s.L++[x]):=hy;rw[e]at hy
  rcases zz1.1 hy with hy|hy
  ·exact h.it y hy
  rw[zz3.1 hy];exact hx
 ·show fH 0 (hd++(s.L++[x]));rw[e];exact h.jP.snoc (by omega)
 ·show iM 0 (hd++(s.L++[x]))<=x.aw;rw[e,bW9];exact yyd _
 ·show (s.L++[x]).length+s.out<=kc.cap;rw[zza,zz7];omega
 rcases h.st with ⟨a,b⟩|⟨a,b,c⟩
 ·refine .inl ⟨?_,?_⟩
  ·show fH s.k.aw (hd++(s.L++[x]));rw[e];refine a.snoc ?_;by_cases hn:hd++s.L=[]
   ·rw[hn];show s.k.aw<x.aw;omega
   rw[U3 hn _ 0];omega
  show fT s.k.reqs (j6 (hd++(s.L++[x])))=some R';rw[e,TS,Ds,b];exact hR
 refine .inr ⟨a,b,?_⟩;show fT s.k.reqs (j6 (s.L++[x]))=some R';rw[TS,Ds,c];exact hR
def jG.hold{kc:dU}{n:Nat}{s:fo}{hd:List cD}{last:Int}{R:List Rq}{f:Nat}(h:jG kc n s hd last R f)(h1:1<=kc.cJ){now:Int}(hr:s.ready now=true):
  ∃mR,jG kc n (s.hold kc.cJ) mR last R f/\mR≠[]/\(s.hold kc.cJ).k=s.k/\(s.hold kc.cJ).fR=s.fR/\(s.hold kc.cJ).eK=s.eK:=by
 have hn:=h.hn;have I5:=h.room;have T2:=h.out;unfold fo.ready at hr;unfold fo.hold;by_cases h0:s.n=0
 ·rw[zzc h0];rw[zzb (by omega),zzy]at hr
  have tm:hd=[]:=wwc.1 (by omega);subst tm;have e:s.L.take kc.cJ++s.L.drop kc.cJ=[]++s.L:=by simp
  refine⟨s.L.take kc.cJ,⟨by show ∀x∈s.L.take kc.cJ++s.L.drop kc.cJ,_;rw[e];exact h.it,by show fH 0 (s.L.take kc.cJ++s.L.drop kc.cJ);rw[e];exact h.jP,by show iM 0 (s.L.take kc.cJ++s.L.drop kc.cJ)<=last;rw[e];exact h.le,by show (s.L.take kc.cJ).length=min kc.cJ s.L.length;rw[zzf],rfl,?_,?_,h.l0,h.aw,.inl ?_,h.f0,h.f1⟩,λhh=>?_,rfl,rfl,rfl⟩
  ·show (s.L.drop kc.cJ).length+(s.out+min kc.cJ s.L.length)<=kc.cap;rw[zzr];omega
  ·show s.out+min kc.cJ s.L.length=min kc.cJ s.L.length;omega
  ·show fH s.k.aw (s.L.take kc.cJ++s.L.drop kc.cJ)/\fT s.k.reqs (j6 (s.L.take kc.cJ++s.L.drop kc.cJ))=some R;rw[e];rcases h.st with a|⟨a,_⟩
   ·exact a
   exact absurd rfl a
  have:=yyu List.length hh;rw[zzf,yyp]at this
  omega
 rw[zzb h0];exact⟨hd,h,λhh=>by rw[hh]at hn;exact h0 (by rw[<- hn];rfl),rfl,rfl,rfl⟩
def jG.fits{kc:dU}{n:Nat}{s:fo}{hd:List cD}{last:Int}{R:List Rq}{f:Nat}(h:jG kc n s hd last R f){cf:dI}(hc:CC cf kc n)(dO:hd≠[]):
  ep s.held=true/\s.held.aw=iM 0 hd/\∃L,(s.k.aw<s.held.aw->fW n s.k.reqs s.held=some L/\fT L (j6 s.L)=some R)/\(¬s.k.aw<s.held.aw->s.k.aw=iM 0 hd/\fT s.k.reqs (j6 s.L)=some R):=by
 have h1:=fH.append.1 h.jP;have hJ:=Dg (n:=n) (l:=hd) (λx hx=>(h.it x (wwa _ hx)).w) h1.1;have hp:0<hd.length:=xx2.2 dO;have hn:=h.hn;have I5:=h.room;have T2:=h.out;have hq:=hc.Dy;obtain⟨hm,ht⟩:=hJ.may hp (by omega);have hl:s.held.aw=iM 0 hd:=by rw[h.held,U0]
 rw[<- h.held]at hm ht
 refine⟨hm,hl,?_⟩;rcases h.st with ⟨a,b⟩|⟨_,a,b⟩
 ·rw[bZh]at b
  obtain⟨L,b1,b2⟩:=bZi b;have dd:s.k.aw<s.held.aw:=by
   rw[hl];have:=(fH.append.1 a).1;cases hd with
   | nil=>exact absurd rfl dO
   | cons x l=>have h2:=this.2.last;have h3:=this.1;show s.k.aw<iM x.aw l;omega
  refine⟨L,λ_=>⟨?_,b2⟩,λhh=>absurd dd hh⟩;unfold fW;rw[zzc ⟨hm,ht⟩,h.held,U1];exact b1
 exact⟨R,λhh=>by omega,λ_=>⟨a,b⟩⟩
def jG.done{kc:dU}{n:Nat}{s:fo}{hd:List cD}{last:Int}{R:List Rq}{f:Nat}(h:jG kc n s hd last R f){k':cN}(hl:k'.aw=iM 0 hd)(hR:fT k'.reqs (j6 s.L)=some R):jG kc n {s with k:=k',out:=s.out-od s.n s.out,fR:=0,eK:=0,held:=nK,n:=0} [] last R f:=by
 have h1:=fH.append.1 h.jP;have hle:=h.le;have kx:=h.aw;have rh:=h.l0;have I5:=h.room;have T2:=h.out;have h2:=h1.1.last;have h3:=h1.2.last;rw[Jt]at hle
 have hg:od s.n s.out=s.n:=by unfold od;omega
 have mU:iM 0 ([]++s.L)<=last:=by
  rw[zzq];by_cases hL:s.L=[]
  ·rw[hL];show (0:Int)<=last;omega
  rw[U3 hL 0 (iM 0 hd)];exact hle
 refine⟨λx hx=>h.it x (uuq _ hx),h1.2.mono h2,mU,rfl,rfl,?_,?_,?_,?_,.inl ⟨?_,hR⟩,yyd _,by show (0:Int)<=(f:Int);omega⟩
 ·show s.L.length+(s.out-od s.n s.out)<=kc.cap;omega
 ·show s.out-od s.n s.out=0;omega
 ·show 0<=k'.aw;rw[hl];exact h2
 ·show k'.aw<=last;rw[hl];omega
 show fH k'.aw s.L;rw[hl];exact h1.2
def jG.again{kc:dU}{n:Nat}{s:fo}{hd:List cD}{last:Int}{R:List Rq}{f:Nat}(h:jG kc n s hd last R f)(dO:hd≠[]){k':cN}(hk:(k'.aw=s.k.aw/\k'.reqs=s.k.reqs)\/(k'.aw=iM 0 hd/\fT k'.reqs (j6 s.L)=some R))(eK:Int):jG kc n {s with k:=k',fR:=s.fR+1,eK:=eK} hd last R (f+1):=by
 have h1:=fH.append.1 h.jP;have hle:=h.le;have h2:=h1.1.last;have h3:=h1.2.last;have uv:=h.f0;have AM:=h.f1;rw[Jt]at hle
 refine⟨h.it,h.jP,h.le,h.hn,h.held,h.room,h.out,?_,?_,?_,by show 0<=s.fR+1;omega,by show s.fR+1<=((f+1:Nat):Int);omega⟩
 ·show 0<=k'.aw;rcases hk with ⟨e,_⟩|⟨e,_⟩
  ·rw[e];exact h.l0
  rw[e];exact h2
 ·show k'.aw<=last;rcases hk with ⟨e,_⟩|⟨e,_⟩
  ·rw[e];exact h.aw
  rw[e];omega
 show (fH k'.aw (hd++s.L)/\fT k'.reqs (j6 (hd++s.L))=some R)\/(hd≠[]/\k'.aw=iM 0 hd/\fT k'.reqs (j6 s.L)=some R);rcases hk with ⟨e1,e2⟩|⟨e1,e2⟩
 ·rw[e1,e2];exact h.st
 exact .inr ⟨dO,e1,e2⟩
structure jH(n:Nat)(ch:Int)(w:dE):Prop where
 nn:w.n=ch
 st:0<=w.state/\w.state<=4
 rows:∀r∈w.rows,sH r
 len:w.rows.length<=64
 after:0<=w.after/\w.after<=1099511627776
 cur:0<=w.dz/\w.dz<=1099511627776
 id:0<=w.id/\w.id<=64
 live:w.state≠0->(0<=w.table/\w.table<(n:Int))/\1<=w.id/\1<=w.mark/\w.mark<=1099511627776
def jH.mH(n:Nat)(ch:Int):jH n ch (mH ch):=⟨rfl,⟨yyd _,show (0:Int)<=4 by decide⟩,λr hr=>(by cases hr),zz4 _,⟨yyd _,show (0:Int)<=1099511627776 by decide⟩,⟨yyd _,show (0:Int)<=1099511627776 by decide⟩,⟨yyd _,show (0:Int)<=64 by decide⟩,λh=>absurd rfl h⟩
def jH.tJ{n:Nat}{ch:Int}{w:dE}(h:jH n ch w){mark id table after:Int}(ht:table<(n:Int)):jH n ch (w.tJ mark id table after):=by
 unfold dE.tJ;split
 ·exact h
 rename_i hb;unfold dE.xT at hb;exact⟨h.nn,⟨show (0:Int)<=1 by decide,show (1:Int)<=4 by decide⟩,λr hr=>(by cases hr),zz4 _,⟨by show 0<=after;omega,by show after<=_;omega⟩,⟨yyd _,show (0:Int)<=1099511627776 by decide⟩,⟨by show 0<=id;omega,by show id<=64;omega⟩,λ_=>⟨⟨by show 0<=table;omega,ht⟩,by show 1<=id;omega,by show 1<=mark;omega,by show mark<=_;omega⟩⟩
def b_z{after:Int}{C:List Row}(ha:0<=after/\after<=1099511627776)(h:∀r∈C,sH r):0<=ll after C/\ll after C<=1099511627776:=by
 unfold ll;cases hl:C.getLast? with
 | none=>exact ha
 | some r=>
  have:=h r (xxu hl);unfold sH at this;show 0<=r.key/\r.key<=_;omega
def jH.fill{n:Nat}{ch:Int}{w:dE}(h:jH n ch w)(HZ:ch<=64){C:List Row}(hC:∀r∈C,sH r):jH n ch (w.fill C):=by
 unfold dE.fill;split
 ·exact h
 rename_i hb;unfold dE.wN at hb;have hn:=h.nn;exact⟨h.nn,⟨show (0:Int)<=2 by decide,show (2:Int)<=4 by decide⟩,hC,by show C.length<=64;omega,h.after,b_z h.after hC,h.id,λ_=>h.live (by omega)⟩
def jH.shut{n:Nat}{ch:Int}{w:dE}(h:jH n ch w):jH n ch w.shut:=by
 unfold dE.shut;split
 ·exact⟨h.nn,⟨show (0:Int)<=3 by decide,show (3:Int)<=4 by decide⟩,h.rows,h.len,h.after,h.cur,h.id,λ_=>h.live (by omega)⟩
 exact h
def jH.low{n:Nat}{ch:Int}{w:dE}(h:jH n ch w)(mark:Int):jH n ch (w.low mark):=by
 unfold dE.low;split
 ·rename_i hs;exact⟨h.nn,⟨show (0:Int)<=4 by decide,yyd _⟩,h.rows,h.len,h.after,h.cur,h.id,λ_=>h.live (by omega)⟩
 exact h
def jH.rH{n:Nat}{ch:Int}{w:dE}(h:jH n ch w)(l:List eh):jH n ch (w.rH l):=by
 unfold dE.rH;split
 ·exact⟨h.nn,h.st,λr hr=>h.rows r (xx6.1 hr).1,yyy (yym _ _) h.len,h.after,h.cur,h.id,h.live⟩
 exact h
structure y_(n:Nat)(ch:Int)(m:dC):Prop where
 m_:m.tables=n
 lV:0<=m.at_
 oI:m.at_<=1099511627776
 may:gg m.reqs
 rq:∀r∈m.reqs,r.table<(n:Int)/\r.at_<=m.at_
 cB:jH n ch m.cB
def PN{L L':List Rq}{t w a:Int}(h:pw L t w a=some L'):L'=L++[xR L t w a]/\1<=L'.length/\L'.length<=64/\0<=t/\t<8/\1<=w/\w<=8/\1<=a:=by
 have hM:=B2 h;have he:L'=L++[xR L t w a]:=by
  unfold pw at h;split at h
  ·cases h;rfl
  cases h
 have hl:L'.length=L.length+1:=by rw[he];simp
 have h1:=(hM.2 L.length (by omega)).1;have e:L'[L.length]=xR L t w a:=by simp[he]
 rw[e]at h1
 unfold vM xR at h1;exact⟨he,by omega,hM.1,h1.2.1,h1.2.2.1,h1.2.2.2.1,h1.2.2.2.2.1,h1.2.2.2.2.2.1⟩
def Rk{L L':List Rq}{id c:Int}{dn:Bool}(h:lW L id c dn=some L'):∀r∈L',∃r0∈L,r.table=r0.table/\r.at_=r0.at_:=by
 unfold lW at h;split at h
 ·split at h
  ·rename_i r0 tB;split at h
   ·cases h
   cases h;intro r hr;obtain⟨j,hj,rfl⟩:=yyi hr;rw[xxi];obtain⟨tq,e0⟩:=zzj.1 tB;split
   ·exact⟨r0,by rw[<- e0];exact zzg _,rfl,rfl⟩
   rw[yyh]at hj
   exact⟨_,zzg hj,rfl,rfl⟩
  cases h
 cases h
def awf{m:dC}{n:Nat}(ht:m.tables=n){aw:Int}(l1:1<=aw)(s:Η):
  fT m.reqs (m.accept s aw).2=some (m.accept s aw).1/\(m.accept s aw).2.length<=1/\(∀x∈(m.accept s aw).2,jg x aw=true/\x.table<(n:Int))/\∀r∈(m.accept s aw).1,r∈m.reqs\/(r.table<(n:Int)/\r.at_=aw):=by
 unfold dC.accept;split
 ·exact⟨rfl,zz4 _,λx hx=>(by cases hx),λr hr=>.inl hr⟩
 split
 ·exact⟨rfl,zz4 _,λx hx=>(by cases hx),λr hr=>.inl hr⟩
 split
 ·exact⟨rfl,zz4 _,λx hx=>(by cases hx),λr hr=>.inl hr⟩
 rename_i g _ vD _ L hL;obtain⟨e,a1,a2,a3,a4,a5,a6,a7⟩:=PN hL;refine⟨?_,zzi _,λx hx=>?_,λr hr=>?_⟩
 ·simp only;unfold fT fT oz;rw[zzb (show ¬(1:Int)=2 by decide)];simp only[hL];rw[zzc trivial]
 ·rw[zz3.1 hx];refine⟨Dk.2 ⟨by show (1:Int)<=L.length;omega,by show (L.length:Int)<=64;omega,.inl ⟨rfl,a3,a4,a5,a6,l1,yyd _,rfl,rfl⟩⟩,by show g.1<(n:Int);omega⟩
 simp only at hr;rw[e]at hr
 rcases zz1.1 hr with hr|hr
 ·exact .inl hr
 rw[zz3.1 hr];exact .inr ⟨by show g.1<(n:Int);omega,rfl⟩
def PQ{n:Nat}{aw:Int}(l1:1<=aw):∀(sg:Ψ) {m:dC},m.tables=n ->
  fT m.reqs (m.ff aw sg).2=some (m.ff aw sg).1.reqs/\(m.ff aw sg).2.length<=sg.length/\(∀x∈(m.ff aw sg).2,jg x aw=true/\x.table<(n:Int))/\∀r∈(m.ff aw sg).1.reqs,r∈m.reqs\/(r.table<(n:Int)/\r.at_=aw)
 | [],m,_=>⟨rfl,zzi _,λx hx=>(by cases hx),λr hr=>.inl hr⟩
 | s::sg,m,ht=>by
  obtain⟨a1,a2,a3,a4⟩:=awf ht l1 s;obtain⟨b1,b2,b3,b4⟩:=PQ l1 sg (m:={m with reqs:=(m.accept s aw).1}) ht;have e:m.ff aw (s::sg)=((dC.ff {m with reqs:=(m.accept s aw).1} aw sg).1,(m.accept s aw).2++(dC.ff {m with reqs:=(m.accept s aw).1} aw sg).2):=rfl;rw[e];refine⟨?_,?_,λx hx=>?_,λr hr=>?_⟩
  ·simp only;rw[Ds,a1];exact b1
  ·simp only;rw[zza,zzh];omega
  ·rcases zz1.1 hx with hx|hx
   ·exact a3 x hx
   exact b3 x hx
  rcases b4 r hr with h|h
  ·exact a4 r h
  exact .inr h
def FQ{aw:Int}{ops:List gl}{notes:List il}(h1:1<=aw/\aw<=1099511627776)(h2:ops.length<=64)(h3:notes.length<=4)(ho:∀o∈ops,kO o aw=true)(hn:∀m∈notes,jg m aw=true):ep ⟨aw,ops,notes⟩=true:=
 oy.2 ⟨⟨h1.1,h1.2,by show ops.length<=4096;omega,by show notes.length<=256;omega⟩,ho,hn⟩
def Kz{n:Nat}{x:cD}(h:∀o∈x.ops,o.table<(n:Int)):sJ n x=true:=by
 unfold sJ;rw[zz6];exact λo ho=>zzl (h o ho)
def tP.empty{n:Nat}{aw:Int}(h:1<=aw/\aw<=1099511627776):tP n ⟨aw,[],[]⟩:=⟨⟨FQ h (zz4 _) (zz4 _) (λo ho=>by cases ho) (λo ho=>by cases ho),rfl,zz4 _,zz4 _⟩,λm hm=>by cases hm⟩
structure TkM(n:Nat)(ch:Int)(m:dC)(t:cH)(m':dC)(x:cD):Prop where
 ok:y_ n ch m'
 at_:m'.at_=t.aw
 late:m'.late=m.late
 aw:x.aw=t.aw
 it:tP n x
 nr:fT m.reqs x.notes=some m'.reqs
def y_.take{n:Nat}{ch:Int}{m:dC}(h:y_ n ch m){t:cH}(hm:eg t=true)(hl:t.aw=m.at_+1)(hw:m.cB.waits t.kind t.mark=false)(n8:n<=8):(m.take t).2.2=0/\TkM n ch m t (m.take t).1 (m.take t).2.1:=by
 obtain⟨h1,h2,h3,h4,h5,h6,h7⟩:=l_ hm;have ib:=h.lV;unfold dC.take;rw[zzb (by rw[hm];decide),zzb (by rw[hw];rintro (h|h);exact h hl;cases h)];have lD:∀r∈m.reqs,r.table<(n:Int)/\r.at_<=t.aw:=λr hr=>by have:=h.rq r hr;exact⟨this.1,by omega⟩
 split
 ·refine⟨rfl,?_⟩;simp only;unfold dC.Aj;simp only;obtain⟨_,a2,a3,a4,a5,a6⟩:=Hb t.aw t.signals {m with at_:=t.aw};obtain⟨b1,b2,b3,b4⟩:=PQ (n:=n) h1.1 t.signals (m:={m with at_:=t.aw}) h.m_;generalize ({m with at_:=t.aw}:dC).ff t.aw t.signals=y at *
  refine⟨⟨a4.trans h.m_,by rw[a6];exact (by omega:0<=t.aw),by rw[a6];exact h1.2,a2 h.may,λr hr=>?_,?_⟩,a6,a5,rfl,⟨⟨?_,?_,?_,?_⟩,λx hx _=>(b3 x hx).2⟩,b1⟩
  ·rw[a6];rcases b4 r hr with hr|⟨c1,c2⟩
   ·exact lD r hr
   exact⟨c1,by rw[c2];exact yyd _⟩
  ·show jH n ch (y.1.cB.rH t.changes);rw[a3];exact h.cB.rH _
  ·have eY:(mc y.1 t.aw t.changes).length<=16:=by
    unfold mc;rw[zzn];exact yyy (yym _ _) h4
   refine FQ h1 (by omega) (by omega) (λo ho=>?_) λx hx=>(b3 x hx).1;unfold mc at ho;obtain⟨c,hc,rfl⟩:=zzv.1 ho;have:=xM.1 (h6 c (xx6.1 hc).1);exact Dl.2 ⟨h1.1,yyd _,this⟩
  ·refine Kz λo ho=>?_;have ho:o∈mc y.1 t.aw t.changes:=ho;unfold mc at ho;obtain⟨c,hc,rfl⟩:=zzv.1 ho;have oU:=(xx6.1 hc).2;unfold dC.captured at oU;rw[zz9,zzy,a4]at oU
   have Tl:c.table<m.tables:=oU.1.2;have ht:=h.m_;show c.table<(n:Int);omega
  ·show (mc y.1 t.aw t.changes).length<=64;unfold mc;rw[zzn];have:=yym (λc=>y.1.captured c.table) t.changes;omega
  show y.2.length<=4;omega
 split
 ·refine⟨rfl,?_⟩;simp only;unfold dC.high;simp only;unfold dE.high;split
  ·rename_i hx;split at hx
   ·cases hx;exact⟨⟨h.m_,by show 0<=t.aw;omega,h1.2,h.may,lD,h.cB⟩,rfl,rfl,rfl,tP.empty h1,rfl⟩
   cases hx
  rename_i w x hx;split at hx
  ·cases hx
  rename_i hb;cases hx;unfold dE.uy at hb;have hs:m.cB.state=4:=by omega
  obtain⟨⟨v1,v2⟩,v3,v4,v5⟩:=h.cB.live (by omega);have hid:=h.cB.id;have Tn:=h.cB.cur;have hlen:=h.cB.len;have dS:∀o∈j7 m.cB t.aw,kO o t.aw=true/\o.table<(n:Int):=λo ho=>by
   unfold j7 at ho;obtain⟨r,hr,rfl⟩:=zzv.1 ho;have:=h.cB.rows r hr;unfold sH at this;exact⟨Dl.2 ⟨h1.1,yyd _,v1,by show m.cB.table<8;omega,this.1,this.2.1,this.2.2,λhh=>by cases hh⟩,v2⟩
  have xt:(j7 m.cB t.aw).length<=64:=by unfold j7;rw[zzn];exact hlen
  have hn:jg (rC m.cB) t.aw=true:=Dk.2 ⟨v3,hid.2,.inr ⟨rfl,rfl,rfl,rfl,Tn.1,Tn.2⟩⟩;have Un:jH n ch (mH m.cB.n):=by rw[h.cB.nn];exact jH.mH n ch
  split
  ·refine⟨⟨h.m_,by show 0<=t.aw;omega,h1.2,h.may,lD,Un⟩,rfl,rfl,rfl,⟨⟨FQ h1 xt (zz4 _) (λo ho=>(dS o ho).1) (λo ho=>by cases ho),Kz λo ho=>(dS o ho).2,xt,zz4 _⟩,λx hx=>by cases hx⟩,rfl⟩
  rename_i L hL;refine⟨⟨h.m_,by show 0<=t.aw;omega,h1.2,Ek hL,λr hr=>?_,Un⟩,rfl,rfl,rfl,⟨⟨FQ h1 xt (by show 1<=4;decide) (λo ho=>(dS o ho).1) (λo ho=>by rw[zz3.1 ho];exact hn),Kz λo ho=>(dS o ho).2,xt,by show 1<=4;decide⟩,λx hx hk=>?_⟩,?_⟩
  ·obtain⟨r0,tB,e1,e2⟩:=Rk hL r hr;have:=lD r0 tB;rw[e1,e2];exact this
  ·rw[zz3.1 hx]at hk
   exact absurd rfl hk
  show fT m.reqs [rC m.cB]=some L;unfold fT fT oz;rw[zzc (show (rC m.cB).kind=2 from rfl)];have hL:lW m.reqs (rC m.cB).id (rC m.cB).dz (rC m.cB).done=some L:=hL;rw[hL]
 refine⟨rfl,⟨h.m_,by show 0<=t.aw;omega,h1.2,h.may,lD,h.cB.low _⟩,rfl,rfl,rfl,tP.empty h1,rfl⟩
abbrev nJ(j:Nat):Nat:=400000*(j+1)
structure CB(cf:dI)(kc:dU)(n j:Nat)(AL:List cH)(xs:List cD)(c:bW):Prop where
 dk:c.s.k.d.Ok (nJ j)
 ops:c.s.k.d.ops<=250*(j+1)
 al:AL.length<=j
 sg:ij c.k.g (nJ j)
 st1:∀C∈c.k.ts,nm C
 st2:∀C∈c.k.ts,C.length<=1000
 lO:c.k.ts.length=n
 kg:ij c.s.k.g (nJ j)
 run:runT n xs (rI n)=some c.s.k.tr
 xl:xs.length<=j
 pl:c.s.k.plan.length<=1024
 mC:∀f∈c.s.k.plan,iZ f=true
 wt:pq kc n c.s j
 eK:0<=c.s.eK/\c.s.eK<=4503599627370496
 mx:y_ n cf.chunk c.m
 late:c.m.late=cf.late
 dr:c.dr.Ok
 ids:∀m∈c.dr.l,m.1<=c.m.reqs.length
 q:∀t∈c.q,eg t=true
 ql:c.q.length<=kc.cap
 pos:0<=c.pos/\c.pos<=1099511627776
 last:0<=c.last/\c.last<=1099511627776
 due:0<=c.due/\c.due<=4503599627370496
 now:0<=c.now/\c.now<=1125899906842624
 dl:c.dy.length<=1024
 dw:∀x∈c.dy,0<=x/\x<=1125899906842624
def bW.kS(c:bW)(RS:List PF):cQ:={c.k with d:={c.s.k.d with R:=RS}}
def bW.kK(c:bW)(RK:List PF):cN:={c.s.k with d:={c.s.k.d with R:=RK}}
structure CA(cf:dI)(kc:dU)(n j:Nat)(AL:List cH)(tr:Nat)(xs hd:List cD)(RS RK:List PF)(c:bW):Prop where
 off:c.s.k.d.off=false
 dR:c.s.k.d.R=RS++RK
 kv:KV n tr (nJ j) AL (c.kS RS)
 si:iT n (c.kK RK) xs none
 kw:rP RS (c.kK RK)
 kP:jG kc n c.s hd c.last c.m.reqs j
 mg:∀r∈c.s.k.reqs,r.table<(n:Int)/\r.at_<=c.s.k.aw
 tl:(tr:Int)<=c.s.k.aw
 la:c.last<=c.m.at_
 qp:c.pos=c.m.at_+c.q.length
 pl:c.pos<=AL.length
 qq:∀i (h:i<c.q.length),AL[c.m.at_.toNat+i]?=some c.q[i]
structure CD(n j:Nat)(AL:List cH)(t:Option cH)(tr:Nat)(xs:List cD)(m:Option cD)(RS RK:List PF)(c:bW):Prop where
 dR:c.s.k.d.R=RS++RK
 kd:KD n tr (nJ j) AL t {c.s.k.d with R:=RS}
 sd:∃o,iT n {c.s.k with d:={c.s.k.d with R:=RK,off:=o}} xs m
 kb:∀x∈RK,8192<=x.id/\x.id<12288
 nx:∀t',(t'=c.s.k.tr\/∃x,m=some x/\stepT n c.s.k.tr x=some t')->(∀r∈t'.2.1,r.table<(n:Int)/\r.at_<=t'.2.2)/\(tr:Int)<=t'.2.2/\t'.2.2<=AL.length
def eS(cf:dI)(kc:dU)(n j:Nat)(AL:List cH)(c:bW):Prop:=∃tr xs hd RS RK,CB cf kc n j AL xs c/\CA cf kc n j AL tr xs hd RS RK c
def oE(cf:dI)(kc:dU)(n j:Nat)(AL:List cH)(c:bW):Prop:=c.s.k.d.off=true/\∃tr xs t m RS RK,CB cf kc n j AL xs c/\CD n j AL t tr xs m RS RK c
def CS(cf:dI)(kc:dU)(n j:Nat)(AL:List cH)(c:bW):Prop:=eS cf kc n j AL c\/oE cf kc n j AL c
section
variable {cf:dI} {kc:dU} {n j:Nat} {AL:List cH} {tr:Nat} {xs hd:List cD} {RS RK:List PF} {c:bW}
def Bf(j:Nat):nJ j<=nJ (j+1):=uuz _ (by omega)
def xP(j:Nat):nJ j=400000*j+400000:=by show 400000*(j+1)=_;omega
def JH(j:Nat):nJ (j+1)=nJ j+400000:=by show 400000*(j+1+1)=400000*(j+1)+400000;omega
def CB.mono(h:CB cf kc n j AL xs c):CB cf kc n (j+1) AL xs c:=
 ⟨h.dk.mono (Bf j),by have:=h.ops;omega,by have:=h.al;omega,h.sg.mono (Bf j),h.st1,h.st2,h.lO,h.kg.mono (Bf j),h.run,by have:=h.xl;omega,h.pl,h.mC,h.wt.mono (by omega),h.eK,h.mx,h.late,h.dr,h.ids,h.q,h.ql,h.pos,h.last,h.due,h.now,h.dl,h.dw⟩
def CA.mono(h:CA cf kc n j AL tr xs hd RS RK c):CA cf kc n (j+1) AL tr xs hd RS RK c:=
 ⟨h.off,h.dR,h.kv.mono (Bf j),h.si,h.kw,h.kP.mono (by omega),h.mg,h.tl,h.la,h.qp,h.pl,h.qq⟩
def CD.mono{t:Option cH}{m:Option cD}(h:CD n j AL t tr xs m RS RK c):CD n (j+1) AL t tr xs m RS RK c:=⟨h.dR,h.kd.mono (Bf j),h.sd,h.kb,h.nx⟩
def eS.mono(h:eS cf kc n j AL c):eS cf kc n (j+1) AL c:=by
 obtain⟨tr,xs,hd,RS,RK,hb,ha⟩:=h;exact⟨tr,xs,hd,RS,RK,hb.mono,ha.mono⟩
def oE.mono(h:oE cf kc n j AL c):oE cf kc n (j+1) AL c:=by
 obtain⟨ho,tr,xs,t,m,RS,RK,hb,hd⟩:=h;exact⟨ho,tr,xs,t,m,RS,RK,hb.mono,hd.mono⟩
def CS.mono(h:CS cf kc n j AL c):CS cf kc n (j+1) AL c:=h.imp eS.mono oE.mono
def DS.split{d:DS}{A B:List PF}(h:d.R=A++B):d={d with R:=A++B}:=by
 cases d;simp only at h;subst h;rfl
def CA.W8(h:CA cf kc n j AL tr xs hd RS RK c):c.src=(c.kS RS).fg RK:=by
 unfold bW.src bW.kS cQ.fg dh;simp only[zzq];rw[<- DS.split h.dR]
def CA.cz9(h:CA cf kc n j AL tr xs hd RS RK c):c.s.k=(c.kK RK).fg RS:=by
 unfold bW.kK cN.fg dh;simp only[zzx];rw[<- DS.split h.dR]
def CA.hB(h:CA cf kc n j AL tr xs hd RS RK c):∀x∈RK,8192<=x.id:=λx hx=>(h.kw.w.m x hx).1
def Wu{xs:List cD}{t:Tr}(h:runT n xs (rI n)=some t)(hl:xs.length<=240):TX t n 4:=by
 have:=TX.run (n:=n) xs (rI n) t (244-xs.length) (by rw[show 244-xs.length+xs.length=244 by omega];exact TX.zero n 244 (by decide)) h;exact⟨⟨this.k.len,this.k.ok,WV this.k.room (by omega),this.k.rq⟩,this.l0,this.l1,this.rq⟩
def CB.kok(h:CB cf kc n j AL xs c)(hj:j<=190)(n8:n<=8):BO c.s.k (nJ j) 4:=by
 have ht:=Wu h.run (by have:=h.xl;omega);have ho:=h.ops;have gV:c.s.k.ts.length=n:=ht.k.len;have AW:=xP j;exact⟨h.kg,h.dk,by omega,by omega,h.pl,h.mC,by omega,ht.k.ok,ht.k.room,ht.k.rq⟩
def CB.DG(h:CB cf kc n j AL xs c)(n1:1<=n)(n8:n<=8):ju c.src (nJ j):=⟨h.sg,h.dk,h.st1,h.st2,by rw[show c.src.ts=c.k.ts from rfl,h.lO];exact n1,by rw[show c.src.ts=c.k.ts from rfl,h.lO];exact n8⟩
def CB.SM(h:CB cf kc n j AL xs c)(hc:CC cf kc n):(c.lN cf).Good (nJ j):=by
 have hm:=h.mx;have HZ:=hc.wm;have hn:=hm.cB.nn;have ht:=hm.m_;have h1:=hc.n1;have h8:=hc.n8;exact⟨hm.may,⟨by show 1<=c.m.tables;omega,by show c.m.tables<=8;omega⟩,⟨hm.lV,hm.oI⟩,by show c.m.cB.n<=64;omega,hm.cB.len,hm.cB.id,h.dr,h.ids,⟨hc.c1,hc.wm⟩,h.DG hc.n1 hc.n8⟩
def CA.nx(h:CA cf kc n j AL tr xs hd RS RK c):(∀r∈c.s.k.reqs,r.table<(n:Int)/\r.at_<=c.s.k.aw)/\(tr:Int)<=c.s.k.aw/\c.s.k.aw<=AL.length:=by
 have h1:=h.kP.aw;have h2:=h.la;have h3:=h.qp;have h4:=h.pl;exact⟨h.mg,h.tl,by omega⟩
def CA.dead(h:CA cf kc n j AL tr xs hd RS RK c):CD n j AL none tr xs none RS RK c:=by
 refine⟨h.dR,h.kv.dead,⟨false,h.si.wd rfl ?_⟩,λx hx=>h.kw.w.m x hx,λt' ht=>?_⟩
 ·show false=c.s.k.d.off;rw[h.off]
 rcases ht with rfl|⟨x,hx,_⟩
 ·exact h.nx
 cases hx
def KV.ids{n tr N:Nat}{AL:List cH}{k:cQ}(h:KV n tr N AL k):∀x∈k.d.R,x.id<8192:=λx hx=>((h.DH (B:=[]) (λx hx=>by cases hx)).w.m x hx).2
def CA.jr(h:CA cf kc n j AL tr xs hd RS RK c){k':cQ}{eM:List cH}{xX:Nat}(hk:KV n xX (nJ (j+1)) eM k')(k9:(xX:Int)<=c.s.k.aw)(hA:eM=AL\/∃x,eM=AL++[x]):CA cf kc n (j+1) eM xX xs hd k'.d.R RK (c.jr (k'.fg RK)):=by
 have hid:=hk.ids;have pR:∀(i:Nat) (t:cH),AL[i]?=some t->eM[i]?=some t:=λi t e=>by
  rcases hA with rfl|⟨x,rfl⟩
  ·exact e
  rw[zzt (zzj.1 e).1];exact e
 have hlen:AL.length<=eM.length:=by
  rcases hA with rfl|⟨x,rfl⟩
  ·exact zzi _
  rw[zza];omega
 refine⟨hk.off,rfl,hk,h.si.wd rfl (hk.off.trans h.off.symm),⟨⟨hid,h.kw.w.m,λx hx=>(by cases hx)⟩,h.kw.g⟩,?_,h.mg,k9,h.la,h.qp,by have:=h.pl;show c.pos<=_;omega,λi hi=>pR _ _ (h.qq i hi)⟩;have hp:=h.kP;exact⟨hp.it,hp.jP,hp.le,hp.hn,hp.held,hp.room,hp.out,hp.l0,hp.aw,hp.st,hp.f0,by have:=hp.f1;show c.s.fR<=_;omega⟩
def CA.WT(h:CA cf kc n j AL tr xs hd RS RK c){k':cQ}{t:Option cH}{xX:Nat}(hk:KD n xX (nJ (j+1)) AL t k'.d)(k9:(xX:Int)<=c.s.k.aw):CD n (j+1) AL t xX xs none k'.d.R RK (c.jr (k'.fg RK)):=by
 refine⟨rfl,hk,⟨false,?_⟩,λx hx=>h.kw.w.m x hx,λt' ht=>?_⟩
 ·exact h.si.wd (d':={dh [] RK k'.d with R:=RK,off:=false}) rfl h.off.symm
 rcases ht with rfl|⟨x,hx,_⟩
 ·exact⟨h.mg,k9,h.nx.2.2⟩
 cases hx
def CB.jr(h:CB cf kc n j AL xs c){k':cQ}{eM:List cH}(hs:ju k' (nJ (j+1)))(gV:k'.ts.length=n)(dS:k'.d.ops<=250*(j+2))(hA:eM.length<=j+1):CB cf kc n (j+1) eM xs (c.jr k'):=by
 have hm:=h.mono;have hw:=hm.wt;exact⟨hs.d,dS,hA,hs.g,hs.rows,hs.len,gV,hm.kg,hm.run,hm.xl,hm.pl,hm.mC,⟨hw.Ah,hw.cap,hw.vK,hw.cJ,hw.it,hw.jP,hw.room,hw.out,hw.held,hw.f0,hw.f1⟩,hm.eK,hm.mx,hm.late,hm.dr,hm.ids,hm.q,hm.ql,hm.pos,hm.last,hm.due,hm.now,hm.dl,hm.dw⟩
def awg(k:cQ)(t:cH):(k.gz t).1.ts.length=k.ts.length:=by
 unfold cQ.gz;split
 ·rfl
 split
 ·rfl
 simp only;split
 ·exact tV _ _
 rfl
def eS.gz(h:eS cf kc n j AL c)(hc:CC cf kc n)(hj:j<=190){t:cH}(hm:eg t=true)(l5:∀x∈t.changes,hY n x=true):
  (∃k',c.src.gz t=(k',((AL.length:Int)+1,0))/\eS cf kc n (j+1) (AL++[oJ t AL.length]) (c.jr k')) \/
  (∃k',c.src.gz t=(k',(0,8))/\oE cf kc n (j+1) AL (c.jr k')) \/
  (c.src.gz t=(c.src,(0,7))/\mr (fF n AL) t.changes=false):=by
 obtain⟨tr,xs,hd,RS,RK,hb,ha⟩:=h;have hw:=awh (ha.kv.DH ha.hB) t;have wY:=hb.al;have eY:=hb.ops;have TU:=JH j;have mV:=(hb.DG hc.n1 hc.n8).add hm;have gV:=awg c.src t;have gV:(c.src.gz t).1.ts.length=n:=gV.trans hb.lO;rw[ha.W8]at mV gV ⊢
 rcases ha.kv.add (by omega) hm l5 with ⟨k',e,hk,_,ho⟩|⟨k',e,ho,hk,_,vz⟩|⟨e,hf⟩
 ·rw[e]at hw
  rw[hw.1]at mV gV ⊢
  have ho:k'.d.ops<=c.s.k.d.ops+2:=ho;refine .inl ⟨_,rfl,tr,xs,hd,_,RK,?_,ha.jr (hk.mono (by omega)) ha.tl (.inr ⟨_,rfl⟩)⟩;exact hb.jr (mV.mono (by omega)) gV (by show k'.d.ops<=_;omega) (by rw[zza,zz7];omega)
 ·rw[e]at hw
  rw[hw.1]at mV gV ⊢
  have vz:k'.d.ops<=c.s.k.d.ops+2:=vz;refine .inr (.inl ⟨_,rfl,ho,tr,xs,some (oJ t AL.length),none,_,RK,?_,ha.WT (hk.mono (by omega)) ha.tl⟩);exact hb.jr (mV.mono (by omega)) gV (by show k'.d.ops<=_;omega) (by omega)
 rw[e]at hw
 exact .inr (.inr ⟨hw.1,hf⟩)
def a_c(k:cQ):k.h_.1.ts=k.ts:=by
 unfold cQ.h_;simp only;split<;>rfl
def cCh(k:cQ)(aw:Int):(k.gY aw).1.ts=k.ts:=by
 unfold cQ.gY;split
 ·rfl
 split
 ·rfl
 have:(if k.image<aw then k.h_ else (k,0)).1.ts=k.ts:=by
  split
  ·exact a_c k
  rfl
 simp only;generalize (if k.image<aw then k.h_ else (k,0))=r at *
 split
 ·exact this
 exact this
def eS.trim(h:eS cf kc n j AL c)(hc:CC cf kc n)(hj:j<=190):(c.trim.2=0/\eS cf kc n (j+1) AL c.trim.1)\/(c.trim.2≠0/\oE cf kc n (j+1) AL c.trim.1):=by
 obtain⟨tr,xs,hd,RS,RK,hb,ha⟩:=h;obtain⟨aw,hl⟩:=wwb ha.kP.l0;have hle:aw<=AL.length:=by have:=ha.nx.2.2;omega
 have k9:=ha.tl;have hw:=cCi (ha.kv.DH ha.hB) (aw:Int);have wY:=hb.al;have eY:=hb.ops;have TU:=JH j;have mV:=(hb.DG hc.n1 hc.n8).trim (aw:Int);have gV:(c.src.gY aw).1.ts.length=n:=by rw[cCh];exact hb.lO
 unfold bW.trim;rw[hl];rw[ha.W8]at mV gV ⊢
 rcases ha.kv.trim hc.n1 hc.n8 hle with ⟨k',e,hk,_,ho⟩|⟨k',e',e,he,ho,hk,_,vz⟩
 ·rw[e]at hw
  rw[hw.1]at mV gV ⊢
  have ho:k'.d.ops<=c.s.k.d.ops+(AL.length+5):=ho;refine .inl ⟨rfl,max tr aw,xs,hd,_,RK,?_,ha.jr (hk.mono (by omega)) (by rw[hl];omega) (.inl rfl)⟩;exact hb.jr (mV.mono (by omega)) gV (by show k'.d.ops<=_;omega) (by omega)
 rw[e]at hw
 rw[hw.1]at mV gV ⊢
 have vz:k'.d.ops<=c.s.k.d.ops+(AL.length+5):=vz;refine .inr ⟨he,ho,max tr aw,xs,none,none,_,RK,?_,ha.WT (hk.mono (by omega)) (by rw[hl];omega)⟩;exact hb.jr (mV.mono (by omega)) gV (by show k'.d.ops<=_;omega) (by omega)
end
section
variable {cf:dI} {kc:dU} {n j:Nat} {AL:List cH} {tr:Nat} {xs hd:List cD} {RS RK:List PF} {c:bW}
def CA.head(h:CA cf kc n j AL tr xs hd RS RK c):c.head=AL.length:=h.kv.head
def CA.ord(h:CA cf kc n j AL tr xs hd RS RK c):(tr:Int)<=c.s.k.aw/\c.s.k.aw<=c.last/\c.last<=c.m.at_/\c.m.at_<=c.pos/\c.pos<=AL.length/\0<=c.s.k.aw:=by
 have:=h.kP.aw;have:=h.qp;exact⟨h.tl,h.kP.aw,h.la,by omega,h.pl,h.kP.l0⟩
def wF{comp:Int}(h:c.en kc comp=true):c.s.k.d.off=false:=by
 unfold bW.en at h;split at h
 ·cases h
 rename_i h1;simpa using h1
def eS.read(h:eS cf kc n j AL c)(he:c.en kc 0=true):∃t,c.src.gP (c.pos+1)= .ok t/\eg t=true/\c.read=({c with q:=c.q++[t],pos:=c.pos+1},⟨0,0,1⟩)/\eS cf kc n (j+1) AL c.read.1:=by
 obtain⟨tr,xs,hd,RS,RK,hb,ha⟩:=h;have ho:=wF he;unfold bW.en at he;rw[zzb (by rw[ho];decide),zzc rfl,zzy,ha.head]at he
 obtain⟨o1,o2,o3,o4,o5,o6⟩:=ha.ord;obtain⟨p,hp⟩:=wwb hb.pos.1;have dZ:p<AL.length:=by omega
 have hr:c.src.gP (c.pos+1)= .ok AL[p]:=by
  rw[hp];exact ha.kv.read (j:=p) (by omega) dZ
 have jX:=ha.kv.lZ.ok.may _ (zzg dZ);have wY:=hb.al;have dH:c.read=({c with q:=c.q++[AL[p]],pos:=c.pos+1},⟨0,0,1⟩):=by unfold bW.read;rw[hr]
 refine⟨AL[p],hr,jX,dH,?_⟩;rw[dH];have hm:=hb.mono;have fC:=ha.mono;have hlen:=ha.kv.lZ.len;refine⟨tr,xs,hd,RS,RK,⟨hm.dk,hm.ops,hm.al,hm.sg,hm.st1,hm.st2,hm.lO,hm.kg,hm.run,hm.xl,hm.pl,hm.mC,hm.wt,hm.eK,hm.mx,hm.late,hm.dr,hm.ids,λt ht=>?_,?_,?_,hm.last,hm.due,hm.now,hm.dl,hm.dw⟩,⟨fC.off,fC.dR,fC.kv,fC.si,fC.kw,fC.kP,fC.mg,fC.tl,fC.la,?_,?_,λi hi=>?_⟩⟩
 ·rcases zz1.1 ht with ht|ht
  ·exact hm.q t ht
  rw[zz3.1 ht];exact jX
 ·show (c.q++[AL[p]]).length<=kc.cap;rw[zza,zz7];omega
 ·show 0<=c.pos+1/\c.pos+1<=_;omega
 ·show c.pos+1=c.m.at_+((c.q++[AL[p]]).length:Nat);rw[zza,zz7];have:=ha.qp;omega
 ·show c.pos+1<=(AL.length:Int);omega
 show AL[c.m.at_.toNat+i]?=some (c.q++[AL[p]])[i];have hi:i<(c.q++[AL[p]]).length:=hi;rw[zza,zz7]at hi
 have hq:=ha.qp;by_cases h1:i<c.q.length
 ·rw[wwl h1];exact ha.qq i h1
 have:i=c.q.length:=by omega
 subst this;rw[ww5 (zzi _)];simp only[Nat.sub_self,List.getElem_singleton];rw[show c.m.at_.toNat+c.q.length=p by omega,zzd dZ]
def a_w(he:c.en kc 1=true):∃t q,c.q=t::q/\0<c.kU kc/\c.m.cB.waits t.kind t.mark=false:=by
 have ho:=wF he;unfold bW.en at he;rw[zzb (by rw[ho];decide),zzb (by decide),zzc rfl]at he
 cases hq:c.q with
 | nil=>rw[hq]at he;cases he
 | cons t q=>
  rw[hq]at he
  simp only[zz9,zzy,ttc]at he;exact⟨t,q,rfl,he.1,he.2⟩
def eS.take(h:eS cf kc n j AL c)(hc:CC cf kc n)(he:c.en kc 1=true):∃t q m' x,c.q=t::q/\eg t=true/\0<c.kU kc/\c.m.take t=(m',(x,0))/\ep x=true/\x.aw=t.aw/\c.take=(({c with q:=q,m:=m'}:bW).vT x,⟨0,0,2⟩)/\eS cf kc n (j+1) AL c.take.1:=by
 obtain⟨tr,xs,hd,RS,RK,hb,ha⟩:=h;obtain⟨t,q,hq,l6,hw⟩:=a_w he;obtain⟨o1,o2,o3,o4,o5,o6⟩:=ha.ord;have jX:=hb.q t (by rw[hq];exact .head _);have cMn:=hb.mx.lV;have T_:=ha.qp;have kx:t.aw=c.m.at_+1:=by
  have h1:=ha.qq 0 (by rw[hq];simp);simp only[hq,vvg]at h1;obtain⟨h2,h3⟩:=zzj.1 h1;have:=ha.kv.lZ.ok.aw _ h2;rw[h3]at this
  omega
 obtain⟨e0,hT⟩:=hb.mx.take jX kx hw hc.n8;have hk:=(cBp (t:=t) hb.mx.may hb.mx.cB.len (by rw[hb.mx.cB.nn];exact hc.wm) hb.mx.cB.id ⟨hb.mx.lV,hb.mx.oI⟩).1;obtain⟨m',x,e,su⟩:∃m' x e,c.m.take t=(m',(x,e)):=⟨_,_,_,rfl⟩;rw[su]at e0 hT hk
 simp only at e0 hT hk;subst e0;have rn:c.take=(({c with q:=q,m:=m'}:bW).vT x,⟨0,0,2⟩):=by unfold bW.take;rw[hq];simp only[su]
 refine⟨t,q,m',x,hq,jX,l6,su,hT.it.w.may,hT.aw,rn,?_⟩;rw[rn];have hm:=hb.mono;have fC:=ha.mono;have jY:=hT.aw;have CT:=hT.at_;have hlen:=ha.kv.lZ.len;have Fu:=hb.ql;rw[hq]at T_ Fu
 simp only[zzh]at T_ Fu;have T':∀y∈q,eg y=true:=λy hy=>hb.q y (by rw[hq];exact .tail _ hy);have vt:∀m∈c.dr.l,m.1<=(m'.reqs.length:Int):=λm vx=>by have:=hb.ids m vx;omega
 have Ua:∀i (hi:i<q.length),AL[m'.at_.toNat+i]?=some q[i]:=λi hi=>by
  have h1:=ha.qq (i+1) (by rw[hq];simp;omega);simp only[hq,vvj]at h1;rw[show m'.at_.toNat+i=c.m.at_.toNat+(i+1) by rw[CT,kx];omega];exact h1
 unfold bW.vT;split
 ·rename_i dO;have hp:=ha.kP.put hT.it (by rw[jY,kx];omega) hT.nr (by unfold bW.kU at l6;omega);have CY:=hp.mono (show j<=j+1 by omega);have uB:max c.last x.aw=x.aw:=by rw[jY,kx];omega
  refine⟨tr,xs,hd,RS,RK,⟨hm.dk,hm.ops,hm.al,hm.sg,hm.st1,hm.st2,hm.lO,hm.kg,hm.run,hm.xl,hm.pl,hm.mC,CY.inv hc,hm.eK,hT.ok,hT.late.trans hb.late,hm.dr,vt,T',by show q.length<=_;omega,hm.pos,?_,hm.due,hm.now,hm.dl,hm.dw⟩,⟨fC.off,fC.dR,fC.kv,fC.si,fC.kw,?_,fC.mg,fC.tl,?_,?_,ha.pl,Ua⟩⟩
  ·show 0<=max c.last x.aw/\max c.last x.aw<=_;rw[uB,jY];have:=(l_ jX).1;omega
  ·show jG kc n _ hd (max c.last x.aw) m'.reqs (j+1);rw[uB];exact CY
  ·show max c.last x.aw<=m'.at_;rw[uB,CT,jY];exact yyd _
  show c.pos=m'.at_+q.length;rw[CT,kx];omega
 rename_i dO;have IQ:x.notes=[]:=wwc.1 (by omega);have hR:m'.reqs=c.m.reqs:=by
  have:=hT.nr;rw[IQ]at this
  exact (xx5 this).symm
 refine⟨tr,xs,hd,RS,RK,⟨hm.dk,hm.ops,hm.al,hm.sg,hm.st1,hm.st2,hm.lO,hm.kg,hm.run,hm.xl,hm.pl,hm.mC,hm.wt,hm.eK,hT.ok,hT.late.trans hb.late,hm.dr,vt,T',by show q.length<=_;omega,hm.pos,hm.last,hm.due,hm.now,hm.dl,hm.dw⟩,⟨fC.off,fC.dR,fC.kv,fC.si,fC.kw,?_,fC.mg,fC.tl,?_,?_,ha.pl,Ua⟩⟩
 ·show jG kc n c.s hd c.last m'.reqs (j+1);rw[hR];exact fC.kP
 ·show c.last<=m'.at_;rw[CT,kx];omega
 show c.pos=m'.at_+q.length;rw[CT,kx];omega
def CB.sL(h:CB cf kc n j AL xs c){w:dE}{dr:dA}(hw:jH n cf.chunk w)(hd:dr.Ok)(hi:∀m∈dr.l,m.1<=c.m.reqs.length):CB cf kc n j AL xs {c with m:={c.m with cB:=w},dr:=dr}:=
 ⟨h.dk,h.ops,h.al,h.sg,h.st1,h.st2,h.lO,h.kg,h.run,h.xl,h.pl,h.mC,h.wt,h.eK,⟨h.mx.m_,h.mx.lV,h.mx.oI,h.mx.may,h.mx.rq,hw⟩,h.late,hd,hi,h.q,h.ql,h.pos,h.last,h.due,h.now,h.dl,h.dw⟩
def CA.sL(h:CA cf kc n j AL tr xs hd RS RK c)(w:dE)(dr:dA):CA cf kc n j AL tr xs hd RS RK {c with m:={c.m with cB:=w},dr:=dr}:=⟨h.off,h.dR,h.kv,h.si,h.kw,h.kP,h.mg,h.tl,h.la,h.qp,h.pl,h.qq⟩
def eS.sL(h:eS cf kc n j AL c){w:dE}{dr:dA}(hw:jH n cf.chunk w)(hd:dr.Ok)(hi:∀m∈dr.l,m.1<=c.m.reqs.length):eS cf kc n j AL {c with m:={c.m with cB:=w},dr:=dr}:=by
 obtain⟨tr,xs,mR,RS,RK,hb,ha⟩:=h;exact⟨tr,xs,mR,RS,RK,hb.sL hw hd hi,ha.sL w dr⟩
def oE.sL(h:oE cf kc n j AL c){w:dE}{dr:dA}(hw:jH n cf.chunk w)(hd:dr.Ok)(hi:∀m∈dr.l,m.1<=c.m.reqs.length):oE cf kc n j AL {c with m:={c.m with cB:=w},dr:=dr}:=by
 obtain⟨ho,tr,xs,t,m,RS,RK,hb,h⟩:=h;exact⟨ho,tr,xs,t,m,RS,RK,hb.sL hw hd hi,⟨h.dR,h.kd,h.sd,h.kb,h.nx⟩⟩
def eS.self(h:eS cf kc n j AL c):eS cf kc n j AL (c.jr c.src):=by
 obtain⟨tr,xs,hd,RS,RK,h,a⟩:=h;exact⟨tr,xs,hd,RS,RK,⟨h.dk,h.ops,h.al,h.sg,h.st1,h.st2,h.lO,h.kg,h.run,h.xl,h.pl,h.mC,h.wt,h.eK,h.mx,h.late,h.dr,h.ids,h.q,h.ql,h.pos,h.last,h.due,h.now,h.dl,h.dw⟩,⟨a.off,a.dR,a.kv,a.si,a.kw,a.kP,a.mg,a.tl,a.la,a.qp,a.pl,a.qq⟩⟩
def bX7{kind mark:Int}(hk:kind=2\/kind=3)(hm:1<=mark/\mark<=1099511627776):eg ⟨1,kind,[],[],mark⟩=true:=vI.2 ⟨⟨yyd _,show (1:Int)<=1099511627776 by decide⟩,.inr ⟨hk,hm.1,hm.2,rfl,rfl⟩⟩
def eS.mark(h:eS cf kc n j AL c)(hc:CC cf kc n)(hj:j<=190){kind mark:Int}(hk:kind=2\/kind=3)(hm:1<=mark/\mark<=1099511627776):
  (∃k' x,c.src.mX kind mark=(k',((AL.length:Int)+1,0))/\eS cf kc n (j+1) (AL++[x]) (c.jr k'))\/(∃k',c.src.mX kind mark=(k',(0,8))/\oE cf kc n (j+1) AL (c.jr k')):=by
 have su:=bX7 hk hm;have e:c.src.mX kind mark=c.src.gz ⟨1,kind,[],[],mark⟩:=by unfold cQ.mX;rw[zzc ⟨hk,su⟩]
 rw[e];have bRr:mn n AL:=by obtain⟨_,_,_,_,_,_,ha⟩:=h;exact ha.kv.lZ
 rcases h.gz hc hj su (λx hx=>by cases hx) with ⟨k',e1,h1⟩|⟨k',e1,h1⟩|⟨_,hf⟩
 ·exact .inl ⟨k',_,e1,h1⟩
 ·exact .inr ⟨k',e1,h1⟩
 exfalso;have:mr (fF n AL) []=true:=by
  unfold mr;rw[zz9,zz6,zz6];exact⟨λx hx=>(by cases hx),λC hC=>zzl (bRr.m_.2 C hC)⟩
 rw[this]at hf
 cases hf
def awl{C:List Row}(h:nm C)(key m:Int):∀r∈nU C key m,sH r:=λr hr=>by
 unfold nU at hr;exact h.rows r (xx6.1 (yyo hr)).1
def eS.snap(h:eS cf kc n j AL c)(hc:CC cf kc n)(hj:j<=190)(he:c.en kc 2=true):
  (∃eM,eS cf kc n (j+1) eM (c.snap cf).1/\(eM=AL\/∃x,eM=AL++[x])/\((c.snap cf).2=⟨0,0,3⟩\/(c.snap cf).2=⟨0,0,4⟩\/(c.snap cf).2=⟨0,0,5⟩))\/(oE cf kc n (j+1) AL (c.snap cf).1/\(c.snap cf).2=⟨8,0,0⟩):=by
 have ho:=wF he;obtain⟨tr,xs,hd,RS,RK,hb,ha⟩:=id h;have Iy:=hb.SM hc;unfold bW.en at he;rw[zzb (by rw[ho];decide),zzb (by decide),zzb (by decide),zzc rfl]at he
 have ry:=hb.mx.cB;have mv:=ha.head;have wY:=hb.al;unfold bW.snap fz.step;rw[zzb (by rw[show (c.lN cf).m=c.m from rfl,he];decide)];rw[show (c.lN cf).m=c.m from rfl];have fX:=ry.st;by_cases h0:c.m.cB.state=0
 ·rw[zzc h0];have eY:iS c.m.reqs≠[]:=by
   unfold Dz at he;rw[zzy]at he
   rcases he with e|e|e
   ·omega
   ·omega
   exact e.2
  obtain⟨r,hr,I4,cNg⟩:=Iy.na eY;obtain⟨C2,xx⟩:=Iy.row;have vo:(mf c.dr c.m.reqs).next.1.Ok:=C2.next;have l8:∀m∈(mf c.dr c.m.reqs).next.1.l,m.1<=c.m.reqs.length:=by rw[bZb];exact xx
  have hr:uM c.m.reqs (mf c.dr c.m.reqs).next.2=some r:=hr;have Fv:=hb.mx.rq r I4;unfold fz.Di fz.vH fz.Dj;rw[show (c.lN cf).m=c.m from rfl,show (c.lN cf).d=c.dr from rfl,show (c.lN cf).k=c.src from rfl,hr];simp only;have hh:cI c.src.g.bF=AL.length:=mv;rw[hh];rcases h.mark hc hj (kind:=2) (mark:=(AL.length:Int)+1) (.inl rfl) (by omega) with ⟨k',x,e,h1⟩|⟨k',e,h1⟩
  ·rw[e];simp only;rw[zzb (by decide)];exact .inl ⟨_,h1.sL (ry.tJ Fv.1) vo l8,.inr ⟨x,rfl⟩,.inl rfl⟩
  rw[e];simp only;rw[zzc (by decide)];exact .inr ⟨h1.sL ry vo l8,rfl⟩
 rw[zzb h0];by_cases h1:c.m.cB.state=1
 ·rw[zzc h1];have bU2:∀r∈c.src.wA c.m.cB.table c.m.cB.after cf.chunk,sH r:=by
   unfold cQ.wA;have ht:=(ry.live h0).1;exact awl (hb.st1 _ (DK (by show 0<=c.m.cB.table/\c.m.cB.table<(c.k.ts.length:Int);rw[hb.lO];exact ht))) _ _
  exact .inl ⟨AL,(h.self.sL (ry.fill hc.wm bU2) hb.dr hb.ids).mono,.inl rfl,.inr (.inl rfl)⟩
 rw[zzb h1];unfold fz.CM;rw[show (c.lN cf).m=c.m from rfl,show (c.lN cf).k=c.src from rfl];simp only;have Fm:=(ry.live h0).2.2;rcases h.mark hc hj (kind:=3) (mark:=c.m.cB.mark) (.inr rfl) Fm with ⟨k',x,e,h2⟩|⟨k',e,h2⟩
 ·rw[e];simp only;rw[zzb (by decide)];exact .inl ⟨_,h2.sL ry.shut hb.dr hb.ids,.inr ⟨x,rfl⟩,.inr (.inr rfl)⟩
 rw[e];simp only;rw[zzc (by decide)];exact .inr ⟨h2.sL ry hb.dr hb.ids,rfl⟩
def eS.tell(h:eS cf kc n j AL c)(hc:CC cf kc n)(he:c.en kc 4=true):eS cf kc n (j+1) AL (c.tell cf).1/\((c.m.at_<=c.last/\(c.tell cf).2=⟨0,0,9⟩)\/(c.last<c.m.at_/\0<c.kU kc/\ep ⟨c.m.at_,[],[]⟩=true/\(c.tell cf).2=⟨0,0,8⟩)):=by
 have ho:=wF he;obtain⟨tr,xs,hd,RS,RK,hb,ha⟩:=h;unfold bW.en at he;rw[zzb (by rw[ho];decide),zzb (by decide),zzb (by decide),zzb (by decide),zzb (by decide),zzc rfl,zzy]at he
 have hm:=hb.mono;have fC:=ha.mono;have E8:0<=jo cf.every c.now/\jo cf.every c.now<=4503599627370496:=by
  have:=hc.e1;have:=hc.e2;have:=hb.now;unfold jo;omega
 have hla:=hb.last;have ib:=hb.mx.oI;unfold bW.tell;split
 ·rename_i hl;exact⟨⟨tr,xs,hd,RS,RK,⟨hm.dk,hm.ops,hm.al,hm.sg,hm.st1,hm.st2,hm.lO,hm.kg,hm.run,hm.xl,hm.pl,hm.mC,hm.wt,hm.eK,hm.mx,hm.late,hm.dr,hm.ids,hm.q,hm.ql,hm.pos,hm.last,E8,hm.now,hm.dl,hm.dw⟩,⟨fC.off,fC.dR,fC.kv,fC.si,fC.kw,fC.kP,fC.mg,fC.tl,fC.la,fC.qp,fC.pl,fC.qq⟩⟩,.inl ⟨hl,rfl⟩⟩
 rename_i hl;have l6:0<c.kU kc:=by omega
 have Fj:tP n ⟨c.m.at_,[],[]⟩:=tP.empty (by omega);have hp:=ha.kP.put Fj (R':=c.m.reqs) (by show c.last<c.m.at_;omega) rfl (by unfold bW.kU at l6;omega);have CY:=hp.mono (show j<=j+1 by omega);exact⟨⟨tr,xs,hd,RS,RK,⟨hm.dk,hm.ops,hm.al,hm.sg,hm.st1,hm.st2,hm.lO,hm.kg,hm.run,hm.xl,hm.pl,hm.mC,CY.inv hc,hm.eK,hm.mx,hm.late,hm.dr,hm.ids,hm.q,hm.ql,hm.pos,⟨hb.mx.lV,ib⟩,E8,hm.now,hm.dl,hm.dw⟩,⟨fC.off,fC.dR,fC.kv,fC.si,fC.kw,CY,fC.mg,fC.tl,yyd _,fC.qp,fC.pl,fC.qq⟩⟩,.inr ⟨by omega,l6,Fj.w.may,rfl⟩⟩
end
def JK{n:Nat}{b:Int}:∀(A:List il) {L L':List Rq},fT L A=some L'->(∀r∈L,r.table<(n:Int)/\r.at_<=b)->(∀m∈A,jg m b=true/\(m.kind≠2->m.table<(n:Int)))->∀r∈L',r.table<(n:Int)/\r.at_<=b
 | [],L,L',h,hL,_=>by cases h;exact hL
 | m::A,L,L',h,hL,hA=>by
  unfold fT at h;cases hn:oz L m with
  | none=>rw[hn]at h;cases h
  | some L2=>
   rw[hn]at h
   refine JK A h (λr hr=>?_) λy hy=>hA y (.tail _ hy);obtain⟨CR,uA⟩:=hA m (.head _);unfold oz at hn;split at hn
   ·obtain⟨r0,h0,e1,e2⟩:=Rk hn r hr;rw[e1,e2];exact hL r0 h0
   rename_i hk;split at hn
   ·rename_i L3 h3;split at hn
    ·cases hn;obtain⟨e,_⟩:=PN h3;rw[e]at hr
     rcases zz1.1 hr with hr|hr
     ·exact hL r hr
     rw[zz3.1 hr];obtain⟨_,_,h5⟩:=Dk.1 CR;refine⟨uA hk,?_⟩;rcases h5 with h5|h5
     ·exact h5.2.2.2.2.2.2.1
     exact absurd h5.1 hk
    cases hn
   cases hn
def aRs{k:cN}{N:Nat}(hg:ij k.g N)(hd:k.d.Ok N)(x:cD):ij (k.fP x).1.g (N+400000)/\(k.fP x).1.d.Ok (N+400000):=by
 rcases aRp k x with ⟨e1,e2⟩|⟨hm,⟨e1,e2⟩|⟨n,e1,e2⟩⟩
 ·rw[e1,e2];exact⟨hg.mono (by omega),hd.mono (by omega)⟩
 ·have hb:=(B6 hm).2;rw[e1,e2];exact⟨(PZ hg _).mono (by omega),(P0 hd _).mono (by omega)⟩
 have hb:=(B6 hm).2;rw[e1,e2];exact⟨(cBu hg _ _).mono (by omega),(cB0 hd _ _).mono (by omega)⟩
section
variable {cf:dI} {kc:dU} {n j:Nat} {AL:List cH} {tr:Nat} {xs hd:List cD} {RS RK:List PF} {c:bW}
def jG.notes{s:fo}{last:Int}{R:List Rq}{f:Nat}(h:jG kc n s hd last R f):∀m∈s.held.notes,jg m s.held.aw=true/\(m.kind≠2->m.table<(n:Int)):=λm hm=>by
 have h1:=fH.append.1 h.jP;have hJ:=Dg (n:=n) (l:=hd) (λx hx=>(h.it x (wwa _ hx)).w) h1.1;rw[h.held]at hm ⊢
 refine⟨hJ.JM m hm,λhk=>?_⟩;rw[U1]at hm
 unfold j6 at hm;obtain⟨l,hl,hm⟩:=xx8.1 hm;obtain⟨x,hx,rfl⟩:=zzv.1 hl;exact (h.it x (wwa _ hx)).nt m hm hk
def By{k:cN}{a:List (List Cell)}{L:List Rq}{l:Int}(h:k.tr=(a,L,l)):k.ts=a/\k.reqs=L/\k.aw=l:=by
 unfold cN.tr at h;simp only[wwy]at h;exact h
def eS.write(h:eS cf kc n j AL c)(hc:CC cf kc n)(hj:j<=190)(he:c.en kc 3=true):
  (eS cf kc n (j+1) AL (c.write kc).1/\((c.write kc).2=⟨0,0,6⟩\/(c.write kc).2=⟨0,0,7⟩))\/(oE cf kc n (j+1) AL (c.write kc).1/\(c.write kc).2=⟨8,0,0⟩):=by
 have ho:=wF he;obtain⟨tr,xs,hd,RS,RK,hb,ha⟩:=h;unfold bW.en at he;rw[zzb (by rw[ho];decide),zzb (by decide),zzb (by decide),zzb (by decide),zzc rfl]at he
 obtain⟨mR,hP,dO,hk,_,_⟩:=ha.kP.hold hc.b1 he;obtain⟨hm,hl,L,wV,Cx⟩:=hP.fits hc dO;have TV:=hP.notes;have fX:c.s.step kc c.now c.draw=(c.s.hold kc.cJ).hand kc c.now c.draw:=by unfold fo.step;rw[zzc he]
 have Fs:=ha.ord;have hM:=hb.mono;have hA:=ha.mono;have jY:=hb.xl;have eY:=hb.ops;have IF:nJ j+400000=nJ (j+1):=by show 400000*(j+1)+400000=400000*(j+1+1);omega
 have fS:=aRs hb.kg hb.dk (c.s.hold kc.cJ).held;rw[IF]at fS
 have heq:=ha.cz9;have A5:=aRt ha.kw (c.s.hold kc.cJ).held;have lB:=aRq ha.si (L:=L) hb.dk.px ha.off (by omega) hb.mC hm (λdd=>by have h1:=wV (by rw[hk];exact dd);rw[hk]at h1;exact h1.1);have Ir:(c.s.hold kc.cJ).k.fP (c.s.hold kc.cJ).held=(((c.kK RK).fP (c.s.hold kc.cJ).held).1.fg RS,((c.kK RK).fP (c.s.hold kc.cJ).held).2):=by
  rw[hk]
  conv=>lhs;rw[heq]
  exact A5.1
 have iL:c.s.k.fP (c.s.hold kc.cJ).held=(((c.kK RK).fP (c.s.hold kc.cJ).held).1.fg RS,((c.kK RK).fP (c.s.hold kc.cJ).held).2):=by rw[<- hk];exact Ir
 rw[iL]at fS
 have vu:=A5.2;generalize (c.kK RK).fP (c.s.hold kc.cJ).held=ke at *
 obtain⟨k',e⟩:=ke;simp only at fS vu lB Ir;have Fl:(c.s.hold kc.cJ).k.reqs=c.s.k.reqs/\(c.s.hold kc.cJ).k.aw=c.s.k.aw:=by rw[hk];exact⟨rfl,rfl⟩
 rw[Fl.1,Fl.2]at wV Cx
 have mU:iM 0 mR<=c.last:=by
  have h1:=fH.append.1 hP.jP;have h2:=hP.le;rw[Jt]at h2
  have:=h1.2.last;omega
 have dS:k'.d.ops<=250*(j+2):=by have:=lB.ops;have h2:(c.kK RK).d.ops=c.s.k.d.ops:=rfl;omega
 have dZ:k'.plan.length<=1024:=yyy lB.pl hb.pl;have AY:∀f∈k'.plan,iZ f=true:=λf hf=>hb.mC f (lB.plan f hf);have pL:(dh RS [] k'.d).R=RS++k'.d.R:=by show RS++k'.d.R++[]=_;rw[zzx]
 have cNo:∀{t:Tr},t=c.s.k.tr->t.2.1=c.s.k.reqs/\t.2.2=c.s.k.aw:=λh=>by rw[h];exact⟨rfl,rfl⟩
 have jW:(k'.tr=c.s.k.tr/\k'.reqs=c.s.k.reqs/\k'.aw=c.s.k.aw)\/(c.s.k.aw<(c.s.hold kc.cJ).held.aw/\k'.tr=((fw c.s.k.ts (c.s.hold kc.cJ).held.ops).1,L,(c.s.hold kc.cJ).held.aw)/\k'.reqs=L/\k'.aw=(c.s.hold kc.cJ).held.aw)->(∀r∈k'.reqs,r.table<(n:Int)/\r.at_<=k'.aw)/\(tr:Int)<=k'.aw/\k'.aw<=c.last:=by
  rintro (⟨_,h2,h3⟩|⟨h1,_,h2,h3⟩)
  ·rw[h2,h3];exact⟨ha.mg,ha.tl,ha.kP.aw⟩
  rw[h2,h3];obtain⟨_,_,hn⟩:=Cm (wV h1).1;refine⟨JK _ hn (λr hr=>?_) TV,by omega,by rw[hl];exact mU⟩;have:=ha.mg r hr;exact⟨this.1,by omega⟩
 unfold bW.write;rw[fX];unfold fo.hand;rw[Ir];simp only;have bVh:0<=rW c.now+rL ((c.s.hold kc.cJ).fR+1) kc.b kc.m kc.j c.draw/\rW c.now+rL ((c.s.hold kc.cJ).fR+1) kc.b kc.m kc.j c.draw<=4503599627370496:=by
  have h1:=Rm c.now;have h2:=XT (k:=(c.s.hold kc.cJ).fR+1) (b:=kc.b) (m:=kc.m) (j:=kc.j) (draw:=c.draw);omega
 rcases lB.res with ⟨rfl,r1,⟨c_,r2,r3⟩,r4⟩|⟨rfl,r1,⟨c_,r2,r3⟩,r4⟩|⟨rfl,r1,r2,⟨m',r3,r4⟩,r5⟩
 ·rw[zzc rfl];refine .inl ⟨?_,.inl ?_⟩
  ·have CN:(k'.tr=c.s.k.tr/\k'.reqs=c.s.k.reqs/\k'.aw=c.s.k.aw)\/(c.s.k.aw<(c.s.hold kc.cJ).held.aw/\k'.tr=((fw c.s.k.ts (c.s.hold kc.cJ).held.ops).1,L,(c.s.hold kc.cJ).held.aw)/\k'.reqs=L/\k'.aw=(c.s.hold kc.cJ).held.aw):=by
    rcases r4 with ⟨a,b⟩|⟨a,b⟩
    ·have:=By b;exact .inr ⟨a,b,this.2.1,this.2.2⟩
    have h2:k'.tr=(c.s.k.ts,c.s.k.reqs,c.s.k.aw):=b;have:=By h2;exact .inl ⟨b,this.2.1,this.2.2⟩
   obtain⟨q1,q2,q3⟩:=jW CN;have TG:k'.aw=iM 0 mR/\fT k'.reqs (j6 (c.s.hold kc.cJ).L)=some c.m.reqs:=by
    rcases CN with ⟨_,a,b⟩|⟨a,_,b,d⟩
    ·have AV:¬c.s.k.aw<(c.s.hold kc.cJ).held.aw:=by
      rcases r4 with ⟨a2,b2⟩|⟨a2,_⟩
      ·intro _;have:=(By b2).2.2;have a2:c.s.k.aw<(c.s.hold kc.cJ).held.aw:=a2;omega
      exact a2
     obtain⟨e1,e2⟩:=Cx AV;rw[a,b];exact⟨e1,e2⟩
    rw[b,d,hl];exact⟨rfl,(wV a).2⟩
   have Cy:=(hP.done (k':=k'.fg RS) TG.1 TG.2).mono (show j<=j+1 by omega);refine⟨tr,c_,[],RS,k'.d.R,⟨fS.2,dS,hM.al,hM.sg,hM.st1,hM.st2,hM.lO,fS.1,r2.run,by omega,dZ,AY,Cy.inv hc,⟨yyd _,show (0:Int)<=4503599627370496 by decide⟩,hM.mx,hM.late,hM.dr,hM.ids,hM.q,hM.ql,hM.pos,hM.last,hM.due,hM.now,hM.dl,hM.dw⟩,⟨r1,pL,?_,r2,vu,Cy,q1,q2,hA.la,hA.qp,hA.pl,hA.qq⟩⟩;exact hA.kv.wd (d':={dh RS [] k'.d with R:=RS}) rfl r1 fS.2.px fS.2.p4
  rfl
 ·rw[zzb (by decide),zzc rfl];refine .inl ⟨?_,.inr ?_⟩
  ·have CN:(k'.tr=c.s.k.tr/\k'.reqs=c.s.k.reqs/\k'.aw=c.s.k.aw)\/(c.s.k.aw<(c.s.hold kc.cJ).held.aw/\k'.tr=((fw c.s.k.ts (c.s.hold kc.cJ).held.ops).1,L,(c.s.hold kc.cJ).held.aw)/\k'.reqs=L/\k'.aw=(c.s.hold kc.cJ).held.aw):=by
    rcases r4 with ⟨a,b⟩|b
    ·have:=By b;exact .inr ⟨a,b,this.2.1,this.2.2⟩
    have h2:k'.tr=(c.s.k.ts,c.s.k.reqs,c.s.k.aw):=b;have:=By h2;exact .inl ⟨b,this.2.1,this.2.2⟩
   obtain⟨q1,q2,q3⟩:=jW CN;have Cy:=hP.again dO (k':=k'.fg RS) (by
    rcases CN with ⟨_,a,b⟩|⟨a,_,b,d⟩
    ·exact .inl ⟨b.trans Fl.2.symm,a.trans Fl.1.symm⟩
    exact .inr ⟨d.trans hl,by show fT k'.reqs _=_;rw[b];exact (wV a).2⟩) (rW c.now+rL ((c.s.hold kc.cJ).fR+1) kc.b kc.m kc.j c.draw)
   refine⟨tr,c_,mR,RS,k'.d.R,⟨fS.2,dS,hM.al,hM.sg,hM.st1,hM.st2,hM.lO,fS.1,r2.run,by omega,dZ,AY,Cy.inv hc,bVh,hM.mx,hM.late,hM.dr,hM.ids,hM.q,hM.ql,hM.pos,hM.last,hM.due,hM.now,?_,?_⟩,⟨r1,pL,?_,r2,vu,Cy,q1,q2,hA.la,hA.qp,hA.pl,hA.qq⟩⟩
   ·show (if (7:Int)=7 then c.dy.tail else c.dy).length<=1024;have:=hM.dl;rw[zzc rfl,List.length_tail];omega
   ·show ∀x∈(if (7:Int)=7 then c.dy.tail else c.dy),_;rw[zzc rfl];exact λx hx=>hM.dw x (List.mem_of_mem_tail hx)
   exact hA.kv.wd (d':={dh RS [] k'.d with R:=RS}) rfl r1 fS.2.px fS.2.p4
  rfl
 rw[zzb (by decide),zzb (by decide)];have h2:k'.tr=(c.s.k.ts,c.s.k.reqs,c.s.k.aw):=r5;have h3:=By h2;obtain⟨q1,q2,q3⟩:=jW (.inl ⟨r5,h3.2.1,h3.2.2⟩);have hw:=hP.inv hc;refine .inr ⟨⟨r1,tr,xs,none,m',RS,k'.d.R,⟨fS.2,dS,hM.al,hM.sg,hM.st1,hM.st2,hM.lO,fS.1,?_,hM.xl,dZ,AY,⟨hw.Ah,hw.cap,hw.vK,hw.cJ,hw.it,hw.jP,hw.room,hw.out,hw.held,hw.f0,by have:=hw.f1;show (c.s.hold kc.cJ).fR<=_;omega⟩,?_,hM.mx,hM.late,hM.dr,hM.ids,hM.q,hM.ql,hM.pos,hM.last,hM.due,hM.now,hM.dl,hM.dw⟩,⟨pL,?_,⟨true,?_⟩,λx hx=>vu.w.m x hx,λt' ht=>?_⟩⟩,rfl⟩
 ·exact r3.run
 ·show 0<=(c.s.hold kc.cJ).eK/\(c.s.hold kc.cJ).eK<=_;have:(c.s.hold kc.cJ).eK=c.s.eK:=by unfold fo.hold;split<;>rfl
  rw[this];exact hb.eK
 ·exact (hA.kv.dead).wd (d':={dh RS [] k'.d with R:=RS}) rfl fS.2.px fS.2.p4
 ·exact r3.wd (d':={dh RS [] k'.d with R:=k'.d.R,off:=true}) rfl r1.symm
 have C2:(k'.fg RS).tr=c.s.k.tr:=r5;rcases ht with rfl|⟨x,hx,hs⟩
 ·exact⟨q1,q2,by show k'.aw<=_;omega⟩
 obtain⟨rfl,dd⟩:=r4 x hx;have dd:c.s.k.aw<(c.s.hold kc.cJ).held.aw:=dd;rw[C2,Ks (t:=c.s.k.tr) (wV dd).1 dd]at hs
 cases hs;obtain⟨_,_,hn⟩:=Cm (wV dd).1;refine⟨JK _ hn (λr hr=>?_) TV,by show (tr:Int)<=(c.s.hold kc.cJ).held.aw;omega,by show (c.s.hold kc.cJ).held.aw<=_;rw[hl];omega⟩;have:=ha.mg r hr;exact⟨this.1,by show r.at_<=(c.s.hold kc.cJ).held.aw;omega⟩
def CS.fault(h:CS cf kc n j AL c)(f:fQ):CS cf kc n (j+1) AL (c.fault f).1:=by
 unfold bW.fault;split
 ·exact h.mono
 rename_i hf;split
 ·exact h.mono
 rename_i hl;have hf:iZ f=true:=by cases hq:iZ f with
  | true=>rfl
  | false=>exact absurd hq hf
 have hpm:∀g∈c.s.k.plan++[f],(∀g∈c.s.k.plan,iZ g=true)->iZ g=true:=λg hg hp=>by
  rcases zz1.1 hg with hg|hg
  ·exact hp g hg
  rw[zz3.1 hg];exact hf
 have dZ:(c.s.k.plan++[f]).length<=1024:=by rw[zza,zz7];omega
 have hB:∀xs,CB cf kc n j AL xs c->CB cf kc n (j+1) AL xs {c with s:={c.s with k:={c.s.k with plan:=c.s.k.plan++[f]}}}:=λxs hb=>by
  have h:=hb.mono;have hw:=h.wt;exact⟨h.dk,h.ops,h.al,h.sg,h.st1,h.st2,h.lO,h.kg,h.run,h.xl,dZ,λg hg=>hpm g hg h.mC,⟨hw.Ah,hw.cap,hw.vK,hw.cJ,hw.it,hw.jP,hw.room,hw.out,hw.held,hw.f0,hw.f1⟩,h.eK,h.mx,h.late,h.dr,h.ids,h.q,h.ql,h.pos,h.last,h.due,h.now,h.dl,h.dw⟩
 rcases h with ⟨tr,xs,hd,RS,RK,hb,a⟩|⟨ho,tr,xs,t,m,RS,RK,hb,a⟩
 ·have a:=a.mono;have hp:=a.kP;exact .inl ⟨tr,xs,hd,RS,RK,hB xs hb,⟨a.off,a.dR,a.kv,a.si.plan _,⟨a.kw.w,a.kw.g⟩,⟨hp.it,hp.jP,hp.le,hp.hn,hp.held,hp.room,hp.out,hp.l0,hp.aw,hp.st,hp.f0,hp.f1⟩,a.mg,a.tl,a.la,a.qp,a.pl,a.qq⟩⟩
 have a:=a.mono;obtain⟨o,C7⟩:=a.sd;exact .inr ⟨ho,tr,xs,t,m,RS,RK,hB xs hb,⟨a.dR,a.kd,⟨o,C7.plan _⟩,a.kb,a.nx⟩⟩
def CS.VG(h:CS cf kc n j AL c){now:Int}{dw:Ω}(hn:0<=now/\now<=1125899906842624)(hl:dw.length<=1024)(hd:∀x∈dw,0<=x/\x<=1125899906842624):CS cf kc n (j+1) AL {c with now:=now,dy:=dw}:=by
 have hB:∀xs,CB cf kc n j AL xs c->CB cf kc n (j+1) AL xs {c with now:=now,dy:=dw}:=λxs hb=>by
  have h:=hb.mono;exact⟨h.dk,h.ops,h.al,h.sg,h.st1,h.st2,h.lO,h.kg,h.run,h.xl,h.pl,h.mC,h.wt,h.eK,h.mx,h.late,h.dr,h.ids,h.q,h.ql,h.pos,h.last,h.due,hn,hl,hd⟩
 rcases h with ⟨tr,xs,hd,RS,RK,hb,a⟩|⟨ho,tr,xs,t,m,RS,RK,hb,a⟩
 ·have a:=a.mono;exact .inl ⟨tr,xs,hd,RS,RK,hB xs hb,⟨a.off,a.dR,a.kv,a.si,a.kw,a.kP,a.mg,a.tl,a.la,a.qp,a.pl,a.qq⟩⟩
 have a:=a.mono;exact .inr ⟨ho,tr,xs,t,m,RS,RK,hB xs hb,⟨a.dR,a.kd,a.sd,a.kb,a.nx⟩⟩
def CS.mL(h:CS cf kc n j AL c):∃xs,CB cf kc n j AL xs c:=by
 rcases h with ⟨tr,xs,hd,RS,RK,hb,_⟩|⟨_,tr,xs,t,m,RS,RK,hb,_⟩
 ·exact⟨xs,hb⟩
 exact⟨xs,hb⟩
def CS.tick(h:CS cf kc n j AL c)(x:Int):CS cf kc n (j+1) AL (c.tick x).1:=by
 obtain⟨xs,hb⟩:=h.mL;have h1:=hb.now;unfold bW.tick;split
 ·exact h.mono
 split
 ·exact h.mono
 exact h.VG (now:=c.now+x) (dw:=c.dy) (by omega) hb.dl hb.dw
def CS.drawn(h:CS cf kc n j AL c)(x:Int):CS cf kc n (j+1) AL (c.drawn x).1:=by
 obtain⟨xs,hb⟩:=h.mL;unfold bW.drawn;split
 ·exact h.mono
 split
 ·exact h.mono
 refine h.VG (now:=c.now) (dw:=c.dy++[x]) hb.now (by rw[zza,zz7];omega) λy hy=>?_;rcases zz1.1 hy with hy|hy
 ·exact hb.dw y hy
 rw[zz3.1 hy];omega
def CS.arm(h:CS cf kc n j AL c)(x:Int):CS cf kc n (j+1) AL (c.tW x).1:=by
 unfold bW.tW;split
 ·exact h.mono
 rename_i hx;have ta:0<=(c.s.k.d.p5 x).arm:=by show 0<=max x 0;omega
 have l4:(c.s.k.d.p5 x).arm<=9223372036854775807:=by show max x 0<=_;omega
 have hB:∀xs,CB cf kc n j AL xs c->CB cf kc n (j+1) AL xs {c with s:={c.s with k:={c.s.k with d:=c.s.k.d.p5 x}}}:=λxs hb=>by
  have h:=hb.mono;have hw:=h.wt;exact⟨h.dk.wd rfl ta l4,h.ops,h.al,h.sg,h.st1,h.st2,h.lO,h.kg,h.run,h.xl,h.pl,h.mC,⟨hw.Ah,hw.cap,hw.vK,hw.cJ,hw.it,hw.jP,hw.room,hw.out,hw.held,hw.f0,hw.f1⟩,h.eK,h.mx,h.late,h.dr,h.ids,h.q,h.ql,h.pos,h.last,h.due,h.now,h.dl,h.dw⟩
 rcases h with ⟨tr,xs,hd,RS,RK,hb,a⟩|⟨ho,tr,xs,t,m,RS,RK,hb,a⟩
 ·have a:=a.mono;have hp:=a.kP;exact .inl ⟨tr,xs,hd,RS,RK,hB xs hb,⟨a.off,a.dR,a.kv.wd (d':={c.s.k.d.p5 x with R:=RS}) rfl a.off ta l4,a.si.wd (d':={c.s.k.d.p5 x with R:=RK}) rfl rfl,⟨a.kw.w,a.kw.g⟩,⟨hp.it,hp.jP,hp.le,hp.hn,hp.held,hp.room,hp.out,hp.l0,hp.aw,hp.st,hp.f0,hp.f1⟩,a.mg,a.tl,a.la,a.qp,a.pl,a.qq⟩⟩
 have a:=a.mono;obtain⟨o,C7⟩:=a.sd;exact .inr ⟨ho,tr,xs,t,m,RS,RK,hB xs hb,⟨a.dR,a.kd.wd (d':={c.s.k.d.p5 x with R:=RS}) rfl ta l4,⟨o,C7.wd (d':={c.s.k.d.p5 x with R:=RK,off:=o}) rfl rfl⟩,a.kb,a.nx⟩⟩
end
def b_d{d d':DS}{n size:Int}{k:cN}(h:kC d n size=(d',.ok k)):eV d 8192 size=(d',.ok k.g)/\k.d=d'/\k.plan=[]:=by
 unfold kC at h;split at h
 ·cases h
 split at h
 ·cases h
 rename_i g hg;split at h
 ·cases h
 split at h
 ·cases h
 cases h;exact⟨hg,rfl,rfl⟩
def iT.base{n:Nat}{k:cN}{xs:List cD}(h:iT n k xs none)(ho:k.d.off=false):k.g.base=8192:=by
 rcases h.st with ⟨_,h⟩|⟨_,h⟩|⟨h,_⟩
 ·exact h
 ·exact h
 rw[ho]at h;cases h
def aR2(A B:List PF)(keep:Ω):eT (A++B) keep=eT A keep++eT B (keep.drop A.length):=by
 have:=Rw A B [] keep;rw[zzx]at this
 rw[this,show eT [] (keep.drop (A.length+B.length))=[] from rfl,zzx]
section
variable {cf:dI} {kc:dU} {n j:Nat} {AL:List cH} {tr:Nat} {xs hd:List cD} {RS RK:List PF} {c:bW}
def eS.nX(h:eS cf kc n j AL c)(hc:CC cf kc n)(hj:j<=190)(s:g_):
  (∃x,eS cf kc n (j+1) (AL++[x]) (c.nX s).1/\(c.nX s).2=⟨0,(AL.length:Int)+1,0⟩)\/(oE cf kc n (j+1) AL (c.nX s).1/\(c.nX s).2=⟨8,0,0⟩)\/(c.src.nY s.sg s.l=(c.src,(0,1))\/c.src.nY s.sg s.l=(c.src,(0,7))):=by
 have gV:c.src.ts.length=n:=by obtain⟨_,_,_,_,_,hb,_⟩:=h;exact hb.lO
 unfold bW.nX cQ.nY;split
 ·rename_i hm;have l5:∀x∈s.l,hY n x=true:=λx hx=>by
   have h1:=xM.1 ((l_ hm.1).2.2.2.2.2.1 x hx);have h2:=hm.2 x hx;exact zzl ⟨h1.1,by omega⟩
  rcases h.gz hc hj (t:=⟨1,1,s.l,s.sg,0⟩) hm.1 l5 with ⟨k',e,h1⟩|⟨k',e,h1⟩|⟨e,_⟩
  ·rw[e];exact .inl ⟨_,h1,rfl⟩
  ·rw[e];exact .inr (.inl ⟨h1,rfl⟩)
  exact .inr (.inr (.inr e))
 exact .inr (.inr (.inl rfl))
def eS.start(hc:CC cf kc n){k1:cQ}{k2:cN}{now:Int}(CV:0<=now/\now<=1125899906842624)(hk:KV n tr (nJ j) AL k1)(hs:iT n k2 xs none)(ho:k2.d.off=false)(vu:rP k1.d.R k2)(dZ:k2.plan=[])(hg:ij k2.g (nJ j))(hd:(dh k1.d.R [] k2.d).Ok (nJ j))(dS:k2.d.ops<=250*(j+1))(wY:AL.length<=j)(jY:xs.length<=j)(hj:j<=200)
  (lD:∀r∈k2.reqs,r.table<(n:Int)/\r.at_<=k2.aw) (h0:(tr:Int)<=k2.aw) (h1:k2.aw<=AL.length) (B:List PF):eS cf kc n j AL (bW.start cf (k1.fg B) (k2.fg k1.d.R) now):=by
 have hT:=Wu hs.run (by omega);have rh:0<=k2.aw:=hT.l0;have vv:k2.aw<=1099511627776:=hT.l1;have I4:gg k2.reqs:=hT.rq;have hP:jG kc n ⟨k2.fg k1.d.R,[],0,0,0,nK,0⟩ [] k2.aw k2.reqs j:=
  ⟨λx hx=>(by cases hx),trivial,by show (0:Int)<=k2.aw;exact rh,rfl,rfl,zz4 _,rfl,rh,yyd _,.inl ⟨trivial,rfl⟩,yyd _,by show (0:Int)<=(j:Int);omega⟩
 have E8:0<=jo cf.every now/\jo cf.every now<=4503599627370496:=by
  have:=hc.e1;have:=hc.e2;unfold jo;omega
 have pL:(dh k1.d.R [] k2.d).R=k1.d.R++k2.d.R:=by show k1.d.R++k2.d.R++[]=_;rw[zzx]
 refine⟨tr,xs,[],k1.d.R,k2.d.R,⟨hd,dS,wY,hk.ok.g,hk.ok.rows,hk.ok.len,by show k1.ts.length=n;rw[hk.ts,pZ],hg,hs.run,jY,by show k2.plan.length<=1024;rw[dZ];decide,by show ∀f∈k2.plan,_;rw[dZ];simp,hP.inv hc,⟨yyd _,show (0:Int)<=4503599627370496 by decide⟩,⟨hc.tables,rh,vv,I4,lD,jH.mH n cf.chunk⟩,rfl,a_f,λm hm=>(by cases hm),λt ht=>(by cases ht),zz4 _,⟨rh,vv⟩,⟨rh,vv⟩,E8,CV,zz4 _,λx hx=>(by cases hx)⟩,
  ⟨ho,pL,?_,hs,vu,hP,lD,h0,yyd _,by show k2.aw=k2.aw+(0:Nat);omega,h1,λi hi=>(by cases hi)⟩⟩
 exact hk.wd (d':={dh k1.d.R [] k2.d with R:=k1.d.R}) rfl ho hd.px hd.p4
def CD.eD{t:Option cH}{m:Option cD}(h:CD n j AL t tr xs m RS RK c)(hb:CB cf kc n j AL xs c)(hc:CC cf kc n)(hj:j<=190)(keep:Ω):
  ∃k1 k2 eM,lk (c.s.k.d.eD keep) cf.tables cf.size=(k1.d,.ok k1)/\kC k1.d cf.tables cf.size=(k2.d,.ok k2)/\eS cf kc n (j+1) eM (bW.start cf k1 k2 c.now)/\(eM=AL\/∃x,eM=AL++[x]) /\
   (∀d' g,eV (c.s.k.d.eD keep) 16 cf.size=(d',.ok g)->(cR g.bF).length<=1001)/\(∀d' g,eV k1.d 8192 cf.size=(d',.ok g)->(cR g.bF).length<=200)/\k1.d.Ok (nJ (j+1))/\k1.d.ops<=250*(j+1)+2/\c.s.k.aw<=k2.aw:=by
 have wY:=hb.al;have jY:=hb.xl;have eY:=hb.ops;have hB:∀x∈eT RK (keep.drop RS.length),8192<=x.id/\x.id<12288:=λx hx=>by
  obtain⟨y,hy,e⟩:=Dp hx;rw[<- e];exact h.kb y hy
 obtain⟨k1,eM,e1,hk,a1,p1,hA,nG⟩:=h.kd.open hc.n1 hc.n8 keep hc.s0 hc.s1 (B:=eT RK (keep.drop RS.length)) λx hx=>(hB x hx).1;have ecr:c.s.k.d.eD keep=dh [] (eT RK (keep.drop RS.length)) (({c.s.k.d with R:=RS}:DS).eD keep):=by
  unfold DS.eD dh;simp only[zzq];rw[h.dR,aR2]
 rw[<- ecr]at e1 nG
 have p1:k1.d.ops<=c.s.k.d.ops+1:=p1;obtain⟨o,C7⟩:=h.sd;have xA:iT n {c.s.k with d:={c.s.k.d with R:=RK,off:=o,ops:=k1.d.ops}} xs m:=C7.wd (d':={c.s.k.d with R:=RK,off:=o,ops:=k1.d.ops}) rfl rfl;obtain⟨k2,c_,e2,fO,dZ,IV,wX,vz,hL,hx⟩:=iT.open (cM:=n) hc.n1 hc.n8 xA (keep.drop RS.length) (by omega) hc.s0 hc.s1;have bRb:({c.s.k.d with R:=RK,off:=o,ops:=k1.d.ops}:DS).eD (keep.drop RS.length)={k1.d with R:=eT RK (keep.drop RS.length)}:=by
  have ho:=hk.off;unfold DS.eD;simp only;cases oW:k1.d;rw[oW]at ho a1
  simp only at ho a1;subst ho a1;rfl
 rw[bRb]at e2
 have Da:dG 8192 12288 k1.d.R [] ({k1.d with R:=eT RK (keep.drop RS.length)}:DS).R:=⟨hk.ids,hB,λx hx=>by cases hx⟩;have e3:=b_e Da (n:Int) cf.size;rw[e2]at e3
 have e4:dh k1.d.R [] {k1.d with R:=eT RK (keep.drop RS.length)}=dh [] (eT RK (keep.drop RS.length)) k1.d:=by unfold dh;simp
 rw[e4]at e3
 have e3:kC (dh [] (eT RK (keep.drop RS.length)) k1.d) n cf.size=(dh k1.d.R [] k2.d,.ok (k2.fg k1.d.R)):=e3;have bI9:=hb.dk.eD keep;have CL:=V0 e1;have oW:=FW (base:=16) (size:=cf.size) bI9;rw[CL]at oW
 have oW:(dh [] (eT RK (keep.drop RS.length)) k1.d).Ok (nJ j):=oW;obtain⟨ux,_,_⟩:=b_d e3;have vo:=FW (base:=8192) (size:=cf.size) oW;rw[ux]at vo
 have so:=JV oW (by have:=oW.DA;omega) ux;have bI3:eM.length<=j+1:=by
  rcases hA with rfl|⟨x,_,rfl⟩
  ·omega
  rw[zza,zz7];omega
 have bVr:c_.length<=j+1:=by
  rcases hx with rfl|⟨x,_,rfl⟩
  ·omega
  rw[zza,zz7];omega
 have o8:=h.nx k2.tr (by
  rcases hx with rfl|⟨x,uB,rfl⟩
  ·left;have:=hb.run.symm.trans fO.run;exact (xx5 this).symm
  right;refine⟨x,uB,?_⟩;have:=fO.run;rw[DB n xs x _ _ hb.run]at this
  exact this)
 have kx:c.s.k.aw<=k2.aw:=by
  rcases hx with rfl|⟨x,uB,rfl⟩
  ·have:=xx5 (hb.run.symm.trans fO.run);have:=yyu (·.2.2) this;exact Int.le_of_eq this
  have:=fO.run;rw[DB n xs x _ _ hb.run]at this
  unfold stepT at this;split at this
  ·split at this
   ·rename_i dd;have:=xx5 this;have h2:x.aw=k2.aw:=yyu (·.2.2) this;have dd:c.s.k.aw<x.aw:=dd;omega
   cases this
  cases this
 have hlen:AL.length<=eM.length:=by
  rcases hA with rfl|⟨x,_,rfl⟩
  ·exact zzi _
  rw[zza];omega
 have vq:rP k1.d.R k2:=by
  refine⟨⟨hk.ids,λx hx=>?_,λx hx=>by cases hx⟩,?_⟩
  ·have vq:=hL.laid.SN;have EX:=fO.base IV;rw[hL.files]at hx
   obtain⟨s,hs,rfl⟩:=zzv.1 hx;have:=vq.bF s hs;show 8192<=s.file/\s.file<12288;omega
  have vq:=hL.laid.SN;rw[fO.base IV]at vq
  exact vq
 have IF:nJ j+200000<=nJ (j+1):=by show 400000*(j+1)+200000<=400000*(j+1+1);omega
 have vz:k2.d.ops<=k1.d.ops+1:=vz;have vD:cf.tables=(n:Int):=hc.tables;refine⟨k1.fg (eT RK (keep.drop RS.length)),k2.fg k1.d.R,eM,by rw[vD];exact e1,by rw[vD];exact e3,?_,hA.imp id (λ⟨x,_,e⟩=>⟨x,e⟩),nG,?_,oW.mono (by omega),by show k1.d.ops<=_;omega,kx⟩
 ·exact eS.start hc hb.now (hk.mono IF) fO IV vq dZ (so.mono (by omega)) (vo.mono (by omega)) (by omega) bI3 bVr (by omega) o8.1 o8.2.1 (by have:=o8.2.2;show k2.aw<=_;have h3:k2.aw<=AL.length:=this;omega) _
 intro d' g hg;have bRx:eV (dh [] (eT RK (keep.drop RS.length)) k1.d) 8192 cf.size=_:=ux;have hg:eV (dh [] (eT RK (keep.drop RS.length)) k1.d) 8192 cf.size=(d',.ok g):=hg;rw[bRx]at hg
 cases hg;show (cR k2.g.bF).length<=200;rw[hL.gv,zzn];omega
def CS.cCa(h:CS cf kc n j AL c):∃tr xs t m RS RK,CB cf kc n j AL xs c/\CD n j AL t tr xs m RS RK c:=by
 rcases h with ⟨tr,xs,hd,RS,RK,hb,a⟩|⟨_,tr,xs,t,m,RS,RK,hb,a⟩
 ·exact⟨tr,xs,none,none,RS,RK,hb,a.dead⟩
 exact⟨tr,xs,t,m,RS,RK,hb,a⟩
structure X1(cf:dI)(kc:dU)(n j:Nat)(AL:List cH)(c:bW)(keep:Ω)(k1:cQ)(k2:cN)(eM:List cH):Prop where
 e1:lk (c.s.k.d.eD keep) cf.tables cf.size=(k1.d,.ok k1)
 e2:kC k1.d cf.tables cf.size=(k2.d,.ok k2)
 st:eS cf kc n (j+1) eM (bW.start cf k1 k2 c.now)
 al:eM=AL\/∃x,eM=AL++[x]
 n1:∀d' g,eV (c.s.k.d.eD keep) 16 cf.size=(d',.ok g)->(cR g.bF).length<=1001
 n2:∀d' g,eV k1.d 8192 cf.size=(d',.ok g)->(cR g.bF).length<=200
 dk:k1.d.Ok (nJ (j+1))
 ops:k1.d.ops<=250*(j+1)+2
 aw:c.s.k.aw<=k2.aw
 is:c.eD cf keep=bW.start cf k1 k2 c.now
def CS.eD(h:CS cf kc n j AL c)(hc:CC cf kc n)(hj:j<=190)(keep:Ω):∃k1 k2 eM,X1 cf kc n j AL c keep k1 k2 eM:=by
 obtain⟨tr,xs,t,m,RS,RK,hb,a⟩:=h.cCa;obtain⟨k1,k2,eM,e1,e2,h1,h2,h3,h4,h5,h6,h7⟩:=a.eD hb hc hj keep;refine⟨k1,k2,eM,⟨e1,e2,h1,h2,h3,h4,h5,h6,h7,?_⟩⟩;unfold bW.eD JU;rw[e1];simp only[e2]
def eS.pick(h:eS cf kc n j AL c)(hc:CC cf kc n)(hj:j<=190)(comp:Int):∃eM,CS cf kc n (j+1) eM (c.pick cf kc comp).1/\(eM=AL\/∃x,eM=AL++[x]):=by
 have uE:∃eM,CS cf kc n (j+1) eM c/\(eM=AL\/∃x,eM=AL++[x]):=⟨AL,.inl h.mono,.inl rfl⟩;unfold bW.pick;split
 ·exact uE
 split
 ·exact uE
 rename_i Tj kX;have kX:c.en kc comp=true:=by cases hq:c.en kc comp with
  | true=>rfl
  | false=>exact absurd hq kX
 split
 ·rename_i e;subst e;obtain⟨_,_,_,_,h1⟩:=h.read kX;exact⟨AL,.inl h1,.inl rfl⟩
 split
 ·rename_i e;subst e;obtain⟨_,_,_,_,_,_,_,_,_,_,_,h1⟩:=h.take hc kX;exact⟨AL,.inl h1,.inl rfl⟩
 split
 ·rename_i e;subst e;rcases h.snap hc hj kX with ⟨eM,h1,h2,_⟩|⟨h1,_⟩
  ·exact⟨eM,.inl h1,h2⟩
  exact⟨AL,.inr h1,.inl rfl⟩
 split
 ·rename_i e;subst e;rcases h.write hc hj kX with ⟨h1,_⟩|⟨h1,_⟩
  ·exact⟨AL,.inl h1,.inl rfl⟩
  exact⟨AL,.inr h1,.inl rfl⟩
 have:comp=4:=by omega
 subst this;exact⟨AL,.inl (h.tell hc kX).1,.inl rfl⟩
def CS.gH(h:CS cf kc n j AL c)(hc:CC cf kc n)(hj:j<=190)(s:g_):∃eM,CS cf kc n (j+1) eM (c.gH cf kc s).1/\(eM=AL\/∃x,eM=AL++[x]):=by
 unfold bW.gH;split
 ·exact⟨AL,h.mono,.inl rfl⟩
 rename_i iu;by_cases k8:s.kind=8
 ·rw[zzb (by omega),zzb (by omega)];have e:(c.other cf s).1=c.eD cf s.keep:=by unfold bW.other;rw[zzb (by omega),zzb (by omega),zzb (by omega),zzb (by omega),zzb (by omega),zzc k8]
  show ∃eM,CS cf kc n (j+1) eM (c.other cf s).1/\_;obtain⟨k1,k2,eM,hk⟩:=h.eD hc hj s.keep;rw[e,hk.is];exact⟨eM,.inl hk.st,hk.al⟩
 have ho:c.s.k.d.off=false:=by
  cases hq:c.s.k.d.off with
  | false=>rfl
  | true=>exact absurd ⟨hq,k8⟩ iu
 have hA:eS cf kc n j AL c:=by
  rcases h with h|h
  ·exact h
  rw[h.1]at ho;cases ho
 split
 ·rcases hA.nX hc hj s with ⟨x,h1,_⟩|⟨h1,_⟩|e|e
  ·exact⟨_,.inl h1,.inr ⟨x,rfl⟩⟩
  ·exact⟨AL,.inr h1,.inl rfl⟩
  ·unfold bW.nX;rw[e];exact⟨AL,.inl hA.self.mono,.inl rfl⟩
  unfold bW.nX;rw[e];exact⟨AL,.inl hA.self.mono,.inl rfl⟩
 split
 ·exact hA.pick hc hj s.n
 show ∃eM,CS cf kc n (j+1) eM (c.other cf s).1/\_;unfold bW.other;split
 ·exact⟨AL,h.fault s.ft,.inl rfl⟩
 split
 ·exact⟨AL,h.tick s.n,.inl rfl⟩
 split
 ·exact⟨AL,h.drawn s.n,.inl rfl⟩
 split
 ·rcases hA.trim hc hj with ⟨_,h1⟩|⟨_,h1⟩
  ·exact⟨AL,.inl h1,.inl rfl⟩
  exact⟨AL,.inr h1,.inl rfl⟩
 split
 ·exact⟨AL,h.arm s.n,.inl rfl⟩
 exact⟨AL,h.mono,.inl rfl⟩
def sA(n:Nat)(size:Int):cN:=⟨⟨[],8192,size,none⟩,gK,(rI n).1,[],0,[]⟩
def bWt{n:Nat}(n1:1<=n)(n8:n<=8){size:Int}(s0:64<=size)(s1:size<=65536):kC gK ((n:Nat):Int) size=(gK,.ok (sA n size))/\iT n (sA n size) [] none/\∀M,ij (sA n size).g M:=by
 obtain⟨k,e,hP,_⟩:=GG.first n1 n8 s0 s1;have e2:kC gK ((n:Nat):Int) size=(gK,.ok (sA n size)):=by
  unfold kC;rw[zzb (by omega)];simp only[JT (base:=8192) (by decide) (by decide) s0 s1];rw[zzw];rfl
 rw[e2]at e
 have e3:=yyu Prod.snd e;simp only at e3;cases e3;exact⟨e2,hP.s,λM=>⟨⟨by simp[sA],by show (0:Int)<=8192;decide,by show (8192:Int)<=12288;decide,s0,s1,by simp[sA]⟩,trivial,by show (0:Int)<=_;decide,λx hx=>by cases hx⟩⟩
def wC(cf:dI)(n:Nat):bW:=bW.start cf (vG n cf.size) (sA n cf.size) 0
def eS.first(hc:CC cf kc n):lk gK cf.tables cf.size=(gK,.ok (vG n cf.size))/\kC gK cf.tables cf.size=(gK,.ok (sA n cf.size))/\eS cf kc n 0 [] (wC cf n):=by
 obtain⟨e1,hL⟩:=cAb hc.n1 hc.n8 hc.s0 hc.s1;obtain⟨e2,hs,hg⟩:=bWt hc.n1 hc.n8 hc.s0 hc.s1;have vD:cf.tables=(n:Int):=hc.tables;have hk:KV n 0 (nJ 0) [] (vG n cf.size):=⟨mn.nil n,⟨[],gK,16,0,0,hL⟩,rfl,show (0:Int)<=0 by decide,(cAa hc.n1 hc.n8 hc.s0 hc.s1).mono (by omega)⟩;refine⟨by rw[vD];exact e1,by rw[vD];exact e2,?_⟩;have vu:rP [] (sA n cf.size):=⟨⟨λx hx=>(by cases hx),λx hx=>(by cases hx),λx hx=>(by cases hx)⟩,⟨show (8192:Int)<=8192 by decide,show (8192:Int)+4096<=12288 by decide,λs hs=>(by cases hs),λx hx=>(by cases hx)⟩⟩;exact eS.start (AL:=[]) (tr:=0) (xs:=[]) (j:=0) (k1:=vG n cf.size) (k2:=sA n cf.size) (now:=0) hc (by decide) hk hs rfl vu rfl (hg _) (DD _) (show (0:Nat)<=250*(0+1) by decide) (zzi _) (zzi _) (by decide) (λr hr=>(by cases hr)) (yyd _) (yyd _) []
end
def Sw(comp jJ:Int):Prop:=(comp=0/\jJ=1)\/(comp=1/\jJ=2)\/(comp=2/\(jJ=3\/jJ=4\/jJ=5))\/(comp=3/\(jJ=6\/jJ=7))\/(comp=4/\(jJ=8\/jJ=9))
section
variable {cf:dI} {kc:dU} {n j:Nat} {AL:List cH} {c:bW}
def eS.b_w(h:eS cf kc n j AL c)(hc:CC cf kc n)(hj:j<=190){comp:Int}(h0:0<=comp)(h5:comp<5):
  (c.en kc comp=false/\c.pick cf kc comp=(c,⟨0,0,0⟩))\/(c.en kc comp=true/\((∃jJ,(c.pick cf kc comp).2=⟨0,0,jJ⟩/\Sw comp jJ)\/(c.pick cf kc comp).2=⟨8,0,0⟩)):=by
 unfold bW.pick;rw[zzb (by omega)];cases he:c.en kc comp with
 | false=>rw[zzc rfl];exact .inl ⟨rfl,rfl⟩
 | true=>
  rw[zzb (by decide)];refine .inr ⟨rfl,?_⟩;unfold Sw;split
  ·rename_i e;subst e;obtain⟨t,_,_,h3,_⟩:=h.read he;rw[h3];exact .inl ⟨1,rfl,.inl ⟨rfl,rfl⟩⟩
  split
  ·rename_i e;subst e;obtain⟨_,_,_,_,_,_,_,_,_,_,h7,_⟩:=h.take hc he;rw[h7];exact .inl ⟨2,rfl,.inr (.inl ⟨rfl,rfl⟩)⟩
  split
  ·rename_i e;subst e;rcases h.snap hc hj he with ⟨_,_,_,h3⟩|⟨_,h3⟩
   ·rcases h3 with h3|h3|h3
    ·rw[h3];exact .inl ⟨3,rfl,.inr (.inr (.inl ⟨rfl,.inl rfl⟩))⟩
    ·rw[h3];exact .inl ⟨4,rfl,.inr (.inr (.inl ⟨rfl,.inr (.inl rfl)⟩))⟩
    rw[h3];exact .inl ⟨5,rfl,.inr (.inr (.inl ⟨rfl,.inr (.inr rfl)⟩))⟩
   exact .inr h3
  split
  ·rename_i e;subst e;rcases h.write hc hj he with ⟨_,h3⟩|⟨_,h3⟩
   ·rcases h3 with h3|h3
    ·rw[h3];exact .inl ⟨6,rfl,.inr (.inr (.inr (.inl ⟨rfl,.inl rfl⟩)))⟩
    rw[h3];exact .inl ⟨7,rfl,.inr (.inr (.inr (.inl ⟨rfl,.inr rfl⟩)))⟩
   exact .inr h3
  have:comp=4:=by omega
  subst this;rcases (h.tell hc he).2 with ⟨_,h3⟩|⟨_,_,_,h3⟩
  ·rw[h3];exact .inl ⟨9,rfl,.inr (.inr (.inr (.inr ⟨rfl,.inr rfl⟩)))⟩
  rw[h3];exact .inl ⟨8,rfl,.inr (.inr (.inr (.inr ⟨rfl,.inl rfl⟩)))⟩
def CS.on(h:CS cf kc n j AL c)(ho:c.s.k.d.off=false):eS cf kc n j AL c:=by
 rcases h with h|h
 ·exact h
 rw[h.1]at ho;cases ho
def cCb(x:cD):(c.vT x).now=c.now:=by unfold bW.vT;split<;>rfl
def b_v(comp:Int):(c.pick cf kc comp).1.now=c.now:=by
 unfold bW.pick;split
 ·rfl
 split
 ·rfl
 split
 ·unfold bW.read;split<;>rfl
 split
 ·unfold bW.take;split
  ·rfl
  exact cCb _
 split
 ·rfl
 split
 ·rfl
 unfold bW.tell;split<;>rfl
def aR1(keep:Ω):(c.eD cf keep).now=c.now:=by
 unfold bW.eD;split
 ·rename_i x c' h;unfold JU at h;split at h
  ·cases h
  split at h
  ·cases h
  have:=yyu Prod.snd h;simp only at this;cases this;rfl
 rfl
def cB7(x:Int):(c.tick x).1.now=c.now+(if (c.tick x).2=0 then x else 0):=by
 unfold bW.tick;split
 ·simp
 split
 ·simp
 simp
def aW5(s:g_):(c.gH cf kc s).1.now=c.now+(if s.kind=4/\(c.gH cf kc s).2.err=0 then s.n else 0):=by
 have hz:∀{P:Prop} [Decidable P],¬P->c.now=c.now+(if P then s.n else 0):=λh=>by rw[zzb h];omega
 unfold bW.gH;split
 ·exact hz (by rintro ⟨_,h⟩;cases h)
 split
 ·rename_i h1;exact hz (by rintro ⟨h,_⟩;omega)
 split
 ·rename_i h2;rw[b_v];exact hz (by rintro ⟨h,_⟩;omega)
 unfold bW.other;split
 ·rename_i h3;have:(c.fault s.ft).1.now=c.now:=by unfold bW.fault;split;rfl;split<;>rfl
  rw[this];exact hz (by rintro ⟨h,_⟩;omega)
 split
 ·rename_i h4;rw[cB7];simp only[h4,uuk]
 rename_i h4;have hn:∀e:Int,¬(s.kind=4/\e=0):=λe h=>h4 h.1;split
 ·have:(c.drawn s.n).1.now=c.now:=by unfold bW.drawn;split;rfl;split<;>rfl
  rw[this];exact hz (hn _)
 split
 ·exact hz (hn _)
 split
 ·have:(c.tW s.n).1.now=c.now:=by unfold bW.tW;split<;>rfl
  rw[this];exact hz (hn _)
 split
 ·show (c.eD cf s.keep).now=_;rw[aR1];exact hz (hn _)
 exact hz (hn _)
end
set_option maxRecDepth 100000
abbrev km:dI:=⟨1,0,256,4,2,4,1,8,0,5⟩
abbrev kA:dU:=⟨4,4,1,8,0⟩
def tZ:CC km kA 1:=⟨by decide,by decide,rfl,by decide,by decide,by decide,by decide,rfl,by decide,by decide,by decide,by decide,rfl,by decide,by decide,rfl,rfl,rfl,by decide,by decide,by decide⟩
def Bv:g_:=⟨1,0,[],[⟨0,5,false,⟨#[97]⟩⟩],ku,[]⟩
def oA(n:Int):g_:=⟨2,n,[],[],ku,[]⟩
def wq:bW:=wC km 1
def wu:bW:=(wq.gH km kA Bv).1
def wv:bW:=(wu.gH km kA (oA 0)).1
def wx:bW:=(wv.gH km kA (oA 1)).1
def wy:bW:=(wx.gH km kA (oA 3)).1
def tA1:(wq.gH km kA Bv).2=⟨0,1,0⟩:=by decide +kernel
def tA2:(wu.gH km kA (oA 0)).2=⟨0,0,1⟩:=by decide +kernel
def tA3:(wv.gH km kA (oA 1)).2=⟨0,0,2⟩:=by decide +kernel
def tA4:(wx.gH km kA (oA 3)).2=⟨0,0,6⟩:=by decide +kernel
def b_0{after:Int}{C:List Row}{j:Nat}(h:j+1=C.length)(hj:j<C.length):ll after C=C[j].key:=by
 unfold ll;rw[xx0,show C.length-1=j by omega,zzd hj];rfl
def b_3(H:bw)(v:Ε)(C:List Row)(after n:Int)(hv:dx H 2 v C.length (C.map d_).flatten)(hn:C.length<=1000000):
  SP 233 [Γ after,Γ n,v] [.mem H] (cC (.tuple #[Γ (ll after C),.bool (decide ((C.length:Int)<n))]) [.mem H]):=by
 refine Enzz λW F w hS=>?_;apply cGf;delta Ng aI a_ ai;refine zo hv ?_;refine bY (λh=>?_) (λh=>?_)
 ·obtain⟨j,hj⟩:∃j:Nat,j+1=C.length:=⟨C.length-1,by omega⟩;have gM:j<C.length:=by omega
  rw[b_0 (after:=after) hj gM];refine zo hv ?_;refine Gp ?_;rw[show (C.length:Int)-1=(j:Int) by omega];refine QR hS Xh je hv (x:=C[j]) (zzd gM) gM (i:=0) rfl ?_;refine zo hv ?_;refine Gp ?_;(exact cA hS)
 have he:C=[]:=zzp (by omega);rw[show ll after C=after by rw[he];rfl];refine zo hv ?_;refine Gp ?_;(exact cA hS)
abbrev mG(w:dE)(rv:Ε):Ξ:=[Γ w.mark,Γ w.after,Γ w.id,Γ w.table,rv,Γ w.dz,.bool w.last,Γ w.n,Γ w.state]
def dF(wp:Nat)(k:dE):zC:=jF λrv:Ε=>zH True [.pt wp (mG k rv) 192,fD rv k.rows]
def dF.iff{W w:Ζ}{l:Β}{wp:Nat}{k:dE}:SL W (.ob (dF wp k)::l) w↔∃rv,SL W (.pt wp (mG k rv) 192::fD rv k.rows::l) w:=by
 unfold dF;simp only[SL.ex,SL.fact,uuk,zzu,zzq]
def dF.put{W w:Ζ}{l F:Β}{wp:Nat}(k:dE)(rv:Ε)(hS:SL W l w)(p:gx [.pt wp (mG k rv) 192,fD rv k.rows] l F):SL W (.ob (dF wp k)::F) w:=dF.iff.2 ⟨rv,hS.pick p⟩
def fD.nil{W w:Ζ}{l:Β}(h:SL W l w):SL W (fD Θ []::l) w:=bI.nil h
def cLb(n:Int):SP 206 [Γ n] [] (λv post=>(¬(1<=n/\n<=64)/\v= .tuple #[.pointer none,Γ 1]/\post=[])\/((1<=n/\n<=64)/\∃wp:Nat,v= .tuple #[cF wp,Γ 0]/\post=[.ob (dF wp (mH n))])):=by
 refine Enzz λW F w hS=>?_;apply cFo;delta MN aI ai cT bR;refine Gp ?_;refine za (λh=>⟨_,.inl ⟨by omega,rfl,rfl⟩,hS⟩) (λh1=>?_);refine Gp ?_;refine za (λh=>⟨_,.inl ⟨by omega,rfl,rfl⟩,hS⟩) (λh2=>?_);refine Gp ?_;refine⟨_,rfl,zE hS λwp w hS=>?_⟩;have hS:=fD.nil hS;exact⟨_,.inr ⟨by omega,wp,rfl,rfl⟩,SL.bZ (dF.put (wp:=wp) (mH n) Θ hS Xp) Xi⟩
section
variable (wp:Nat) (k:dE)
def yZ:SP 55 [cF wp] [.ob (dF wp k)] (cC (Γ k.state) [.ob (dF wp k)]):=by
 refine Enzz λW F w hS=>?_;apply cJw;delta Pb bU;obtain⟨rv,hS⟩:=dF.iff.1 hS;unfold mG at hS;refine Gp ?_;exact⟨_,⟨rfl,rfl⟩,SL.bZ (dF.put k rv hS Xp) Xi⟩
def cK9:SP 235 [cF wp] [.ob (dF wp k)] (cC (Γ k.mark) [.ob (dF wp k)]):=by
 refine Enzz λW F w hS=>?_;apply cGh;delta Ni a_ bV;obtain⟨rv,hS⟩:=dF.iff.1 hS;unfold mG at hS;refine Gp ?_;exact⟨_,⟨rfl,rfl⟩,SL.bZ (dF.put k rv hS Xp) Xi⟩
def qY:SP 173 [cF wp] [.ob (dF wp k)] (cC (Γ k.table) [.ob (dF wp k)]):=by
 refine Enzz λW F w hS=>?_;apply cEu;delta Mj a_ bV;obtain⟨rv,hS⟩:=dF.iff.1 hS;unfold mG at hS;refine Gp ?_;exact⟨_,⟨rfl,rfl⟩,SL.bZ (dF.put k rv hS Xp) Xi⟩
def qW:SP 174 [cF wp] [.ob (dF wp k)] (cC (Γ k.after) [.ob (dF wp k)]):=by
 refine Enzz λW F w hS=>?_;apply cEv;delta Mk a_ bV;obtain⟨rv,hS⟩:=dF.iff.1 hS;unfold mG at hS;refine Gp ?_;exact⟨_,⟨rfl,rfl⟩,SL.bZ (dF.put k rv hS Xp) Xi⟩
def cLe(hn:k.rows.length<=1000000):SP 56 [cF wp] [.ob (dF wp k)] (λu post=>post=[fD u k.rows,.ob (dF wp k)]):=by
 refine Enzz λW F w hS=>?_;apply cJx;delta Pc a_ bV;obtain⟨rv,hS⟩:=dF.iff.1 hS;unfold mG at hS;refine Gp ?_;refine Cc (Rn rv k.rows hn) ?_;clear hS;rintro u post rfl w hS;try simp only[app]at hS
 exact⟨_,rfl,SL.bZ (dF.put k rv hS Xp) Xi⟩
def cLc(mark id table after:Int):SP 232 [cF wp,Γ mark,Γ id,Γ table,Γ after] [.ob (dF wp k)] (λv post=>(∃q,v= .bool q)/\post=[.ob (dF wp (k.tJ mark id table after))]):=by
 refine Enzz λW F w hS=>?_;apply cGe;delta Nf aI bU cV bV cw ai bR;obtain⟨rv,hS⟩:=dF.iff.1 hS;unfold mG at hS;have fB:∀{w:Ζ},k.xT mark id table after->SL W (.pt wp [Γ k.mark,Γ k.after,Γ k.id,Γ k.table,rv,Γ k.dz,.bool k.last,Γ k.n,Γ k.state] 192::fD rv k.rows::F) w->∃post,((∃q,Value.bool false= .bool q)/\post=[.ob (dF wp (k.tJ mark id table after))])/\SL W (app post F) w:=λh hS=>by
  rw[show k.tJ mark id table after=k from zzc h];exact⟨_,⟨⟨_,rfl⟩,rfl⟩,SL.bZ (dF.put k rv hS Xp) Xi⟩
 refine Gp ?_;refine za (λh=>fB (.inl h) hS) (λh0=>?_);refine Gp ?_;refine za (λh=>fB (.inr (by omega)) hS) (λh1=>?_);refine Gp ?_;refine za (λh=>fB (.inr (by omega)) hS) (λh2=>?_);refine Gp ?_;refine za (λh=>fB (.inr (by omega)) hS) (λh3=>?_);refine Gp ?_;refine za (λh=>fB (.inr (by omega)) hS) (λh4=>?_);refine Gp ?_;refine za (λh=>fB (.inr (by omega)) hS) (λh5=>?_);refine Gp ?_;refine za (λh=>fB (.inr (by omega)) hS) (λh6=>?_);refine Gp ?_;refine za (λh=>fB (.inr (by omega)) hS) (λh7=>?_);refine Gp ?_;refine za (λh=>fB (.inr (by omega)) hS) (λh8=>?_);clear fB;have cG:¬k.xT mark id table after:=by unfold dE.xT;omega
 rw[show k.tJ mark id table after=⟨k.n,1,mark,after,id,table,[],0,false⟩ from zzb cG];refine Gp ?_;refine Ye hS Xu rfl (by simp) (by simp[Value.oneCell']) λw hS=>?_;simp only[List.take,List.drop,zzu,zzq]at hS;refine Gn λw hS=>?_;have hS:=fD.nil hS;exact⟨_,⟨⟨_,rfl⟩,rfl⟩,SL.bZ (dF.put (wp:=wp) ⟨k.n,1,mark,after,id,table,[],0,false⟩ Θ hS Xp) Xi⟩
def cLg:SP 236 [cF wp] [.ob (dF wp k)] (λv post=>(∃q,v= .bool q)/\post=[.ob (dF wp k.shut)]):=by
 refine Enzz λW F w hS=>?_;apply cGi;delta Nj aI bU cV cw ai;obtain⟨rv,hS⟩:=dF.iff.1 hS;unfold mG at hS;unfold dE.shut;refine bY (λh=>?_) (λh=>?_)
 ·rw[zzb h];exact⟨_,⟨⟨_,rfl⟩,rfl⟩,SL.bZ (dF.put k rv hS Xp) Xi⟩
 rw[zzc (by omega)];refine Gn λw hS=>?_;exact⟨_,⟨⟨_,rfl⟩,rfl⟩,SL.bZ (dF.put {k with state:=3} rv hS Xp) Xi⟩
def cK8(mark:Int):SP 226 [cF wp,Γ mark] [.ob (dF wp k)] (λv post=>(∃q,v= .bool q)/\post=[.ob (dF wp (k.low mark))]):=by
 refine Enzz λW F w hS=>?_;apply cF8;delta M9 aI bU a_ cV bV cw ai;obtain⟨rv,hS⟩:=dF.iff.1 hS;unfold mG at hS;unfold dE.low;refine bY (λh=>?_) (λh=>?_)
 ·rw[zzb (by omega)];exact⟨_,⟨⟨_,rfl⟩,rfl⟩,SL.bZ (dF.put k rv hS Xp) Xi⟩
 refine bY (λh2=>?_) (λh2=>?_)
 ·rw[zzb (by omega)];exact⟨_,⟨⟨_,rfl⟩,rfl⟩,SL.bZ (dF.put k rv hS Xp) Xi⟩
 rw[zzc (by omega)];refine Gn λw hS=>?_;exact⟨_,⟨⟨_,rfl⟩,rfl⟩,SL.bZ (dF.put {k with state:=4} rv hS Xp) Xi⟩
def qZ(x:mK):SP 106 [cF wp,agg (fm x)] [.ob (dF wp k)] (cC (.bool (k.waits x.kind x.mark)) [.ob (dF wp k)]):=by
 refine Enzz λW F w hS=>?_;apply cC5;delta Le aI bU a_ bV cw ai;obtain⟨rv,hS⟩:=dF.iff.1 hS;unfold mG at hS;refine zw hS λxb w hS=>?_;unfold fm at hS;unfold dE.waits;refine Gn λw hS=>?_;refine za (λh=>?_) (λh=>?_)
 ·refine bY (λh2=>?_) (λh2=>?_)
  ·refine bY (λh3=>?_) (λh3=>?_)
   ·rw[zzl (by omega)];exact⟨_,⟨rfl,rfl⟩,SL.bZ (dF.put k rv hS Xp) Xi⟩
   refine Gp ?_;rw[show decide (x.kind=2/\x.mark=k.mark/\(k.state=1\/k.state=2))=decide (k.state=2) by rw[yyg];omega];exact⟨_,⟨rfl,rfl⟩,SL.bZ (dF.put k rv hS Xp) Xi⟩
  rw[zzz (by omega)];exact⟨_,⟨rfl,rfl⟩,SL.bZ (dF.put k rv hS Xp) Xi⟩
 rw[zzz (by omega)];exact⟨_,⟨rfl,rfl⟩,SL.bZ (dF.put k rv hS Xp) Xi⟩
end
def Ke:∀(A B:List Row) (k:Int),nQ k (A++B)=(nQ k A && nQ (ll k A) B)
 | [],B,k=>by simp[nQ,ll]
 | r::A,B,k=>by
  have e:ll k (r::A)=ll r.key A:=by
   unfold ll;cases A with
   | nil=>rfl
   | cons y A=>rw[uug];rfl
  show (decide (k<r.key/\r.key<=1099511627776) && nQ r.key (A++B))=((decide (k<r.key/\r.key<=1099511627776) && nQ r.key A) && nQ (ll k (r::A)) B);rw[Ke A B r.key,e,Bool.and_assoc]
def b_1(a:Int)(A:List Row)(r:Row):ll a (A++[r])=r.key:=by
 unfold ll;rw[List.getLast?_append];simp
def cK5(wp:Nat)(k:dE)(H:bw)(v:Ε)(C:List Row)(hv:dx H 2 v C.length (C.map d_).flatten)(hn:C.length<=1000000):
  SP 171 [cF wp,v] [.ob (dF wp k),.mem H] (λu post=>(∃q,u= .bool q)/\post=[.ob (dF wp (k.fill C)),.mem H]):=by
 refine Enzz λW F w hS=>?_;apply cEs;delta Mh aI bU a_ cV bV cw ai cP;obtain⟨rv,hS⟩:=dF.iff.1 hS;have fB:∀{w:Ζ} {l:Β},k.wN C->SL W l w->jS [.pt wp (mG k rv) 192,fD rv k.rows,.mem H] l->True:=λ_ _ _=>trivial;clear fB;unfold mG at hS;have fB:∀{w:Ζ},k.wN C->SL W (.pt wp [Γ k.mark,Γ k.after,Γ k.id,Γ k.table,rv,Γ k.dz,.bool k.last,Γ k.n,Γ k.state] 192::fD rv k.rows::.mem H::F) w->∃post,((∃q,Value.bool false= .bool q)/\post=[.ob (dF wp (k.fill C)),.mem H])/\SL W (app post F) w:=λh hS=>by
  rw[show k.fill C=k from zzc h];exact⟨_,⟨⟨_,rfl⟩,rfl⟩,SL.bZ (dF.put k rv hS Xp) Xi⟩
 refine Gp ?_;refine za (λh=>fB (.inl h) hS) (λh1=>?_);refine zo hv ?_;refine Gp ?_;refine za (λh=>fB (.inr (.inl (by omega))) hS) (λh2=>?_);refine Gp ?_;refine zo hv ?_;refine⟨λus w=>∃i:Nat,us=[Γ (ll k.after (C.take i)),Γ i]/\i<=C.length/\nQ k.after (C.take i)=true/\SL W (.pt wp [Γ k.mark,Γ k.after,Γ k.id,Γ k.table,rv,Γ k.dz,.bool k.last,Γ k.n,Γ k.state] 192::fD rv k.rows::.mem H::F) w,
  λus _=>match us with|[_,.int _ i]=>(C.length-i).toNat|_=>0,⟨0,rfl,by omega,rfl,hS⟩,?_⟩
 clear hS;rintro v5 v29 w ⟨i,cO,hi,hr,hS⟩;cases cO;refine bY (λh=>?_) (λh=>?_)
 ·have cx:i<C.length:=by omega
  have hx:C[i]?=some C[i]:=zzd cx;have fX:C.take (i+1)=C.take i++[C[i]]:=zze cx;have eE:nQ k.after C=true->nQ k.after (C.take (i+1))=true:=λh=>by
   rw[<- yyl (i+1) C,Ke,zz9]at h;exact h.1
  have pP:nQ k.after (C.take (i+1))=decide (ll k.after (C.take i)<C[i].key/\C[i].key<=1099511627776):=by
   rw[fX,Ke,hr];unfold nQ;simp[nQ]
  refine zD hS Xh je hv hx cx ?_;generalize C[i]=r at *
  refine Gb λxb w hS=>?_;have gL:∀{w:Ζ},¬(ll k.after (C.take i)<r.key/\r.key<=1099511627776)->SL W (.pt xb (d_ r) 66::.pt wp [Γ k.mark,Γ k.after,Γ k.id,Γ k.table,rv,Γ k.dz,.bool k.last,Γ k.n,Γ k.state] 192::fD rv k.rows::.mem H::F) w->∃post,((∃q,Value.bool false= .bool q)/\post=[.ob (dF wp (k.fill C)),.mem H])/\SL W (app post F) w:=λhb hS=>by
   refine fB (.inr (.inr ?_)) (aW hS);cases hq:nQ k.after C with
   | false=>rfl
   | true=>rw[eE hq]at pP;exact absurd (zzm pP.symm) hb
  have Tx:=@gL;clear fB gL;refine za (λh=>Tx (by omega) hS) (λh3=>?_);refine Gp ?_;refine za (λh=>Tx (by omega) hS) (λh4=>?_);refine Gp ?_;refine⟨⟨i+1,?_,by omega,?_,aW hS⟩,by dsimp only;omega⟩
  ·rw[fX,b_1]
  rw[pP];exact zzl (by omega)
 have he:C.take i=C:=zz2 (by omega);rw[he]at hr
 have cG:¬k.wN C:=by
  rintro (h|h|h)
  ·exact h1 h
  ·omega
  rw[hr]at h;cases h
 rw[show k.fill C={k with state:=2,rows:=C,dz:=ll k.after C,last:=decide ((C.length:Int)<k.n)} from zzb cG];clear fB;refine Cc (Ro (λv0 w R h=>KJ v0 w R h) rfl (by decide) hv (tK ve C) (by omega) (by omega)) ?_;clear hS;rintro u post rfl w hS;try simp only[app]at hS
 have hS:SL W (fD u C::_) w:=hS;have o1:u.oneCell'=true:=bI.one hS;refine Gn λw hS=>?_;refine Cg (b_3 H v C k.after k.n hv hn) λw hS=>?_;exact⟨_,⟨⟨_,rfl⟩,rfl⟩,SL.bZ (dF.put (wp:=wp) {k with state:=2,rows:=C,dz:=ll k.after C,last:=decide ((C.length:Int)<k.n)} u hS Xp) Xi⟩
def bFe{D:List Row}{i:Nat}(hi:i<D.length)(x:Row)(rest:Ξ):((D.map d_).flatten++rest).take (0+i*2)++d_ x++((D.map d_).flatten++rest).drop (0+i*2+2)=((D.set i x).map d_).flatten++rest:=by
 have hl:((D.map d_).flatten).length=D.length*2:=oP je D;rw[yye,xxa (by omega),xxb (by omega),show i*2+2=(i+1)*2 by omega,ug je,vi je,xxc,zzc hi];simp
def YN(cb:Nat)(c:eh)(r:Row):SP 339 [agg (d_ r),cF cb] [.pt cb (fN c) 56] (cC (.bool (decide (r.key=c.key))) [.pt cb (fN c) 56]):=by
 refine Enzz λW F w hS=>?_;apply cIq;delta OC a_;refine zw hS λxb w hS=>?_;unfold d_ at hS;unfold fN at hS ⊢;refine Gp ?_;(exact cA hS)
def aWv(cb:Nat)(c:eh)(v:Ε)(C:List Row)(hn:C.length<=1000000):
  SP 338 [v,.func (.func 339) #[] #[cF cb]] [.pt cb (fN c) 56,fD v C] (λu post=>post=[.pt cb (fN c) 56,fD u (C.filter λr=>!decide (r.key=c.key))]):=by
 refine Enzz λW F w hS=>?_;apply cIp;delta OB aI cL ai cP;have hC:=Jj (t:=66) je rfl (λv0 v1 w R h=>cI8 v0 v1 w R h) (λr=>YN cb c r) v C (by omega);simp only[zzu,zzq]at hC;refine Cg (hC) λw hS=>?_;cases hf:C.findIdx? (λr=>decide (r.key=c.key)) with
 | none=>
  simp only[k_];refine za (λ_=>?_) (λh=>absurd trivial h);have e:C.filter (λr=>!decide (r.key=c.key))=C:=yy2.2 λr hr=>by
   have:=xxl.1 hf r hr;rw[this];rfl
  rw[e];exact⟨_,rfl,aW hS⟩
 | some i0=>
  obtain⟨vr,xf,ri⟩:=yyk.1 hf;have uv:(C.take (i0+1)).filter (λr=>!decide (r.key=c.key))=C.take i0:=by
   rw[zze vr,yy0,yy2.2 λr hr=>by
    obtain⟨j,hj,rfl⟩:=yyi hr;rw[zzf]at hj
    rw[uuj];have:=ri j (by omega);simpa using this]
   simp at xf;simp[xf]
  simp only[k_];refine za (λh=>by omega) (λ_=>?_);rcases bI.open (SL.bZ hS (t:=fD v C::.pt cb (fN c) 56::F) Xi) with ⟨_,h0,_⟩|⟨b,cap,rest,rfl,oU,hlen,jN,hS⟩
  ·omega
  refine Gp ?_;refine⟨λus w=>∃(i j:Nat) (D:List Row),us=[Γ i,Γ j]/\i<j/\j<=C.length/\D.length=C.length/\D.take i=(C.take j).filter (λr=>!decide (r.key=c.key))/\D.drop j=C.drop j/\SL W (.pt b ((D.map d_).flatten++rest) 66::.pt cb (fN c) 56::F) w,
   λus _=>match us with|[_,.int _ j]=>(C.length-j).toNat|_=>0,⟨i0,i0+1,C,rfl,by omega,by omega,rfl,uv.symm,rfl,aW hS⟩,?_⟩
  clear hS hf vr xf ri uv;rintro v5 v6 w ⟨i,j,D,cO,sq,hj,hD,ht,hd,hS⟩;cases cO;refine bY (λh=>?_) (λh=>?_)
  ·have gM:j<C.length:=by omega
   have TC:j<D.length:=by omega
   have hxe:D[j]=C[j]:=by
    have h1:(D.drop j)[0]?=(C.drop j)[0]?:=by rw[hd]
    rw[wwj,wwj,xxg,zzd TC,zzd gM]at h1
    simpa using h1
   have fX:C.take (j+1)=C.take j++[C[j]]:=zze gM;have E7:D.drop (j+1)=C.drop (j+1):=by
    rw[<- ww2,<- ww2,hd]
   have E4:∀q u,(d_ D[j])[q]?=some u->((D.map d_).flatten++rest)[0+j*2+q]?=some u:=λq u hu=>by
    rw[yye];have:=p' je D j q D[j] u (zzd TC) hu;rw[zzt (zzj.1 this).1];exact this
   refine zG gM ?_;refine yH hS Xh rfl E4 ?_;rw[hxe];generalize C[j]=r at *
   refine Gb λxb w hS=>?_;refine yf (args':=[agg (d_ r),cF cb]) rfl (YN cb c r) rfl hS Xp ?_;clear hS;rintro _ post ⟨rfl,rfl⟩ w hS;(try simp only[app]at hS);refine Gp ?_
   refine zu (λhq=>?_) (λhq=>?_)
   ·refine zA hS Xh rfl ?_;refine zG (show i<C.length by omega) ?_;refine Ye hS Xu rfl ?_ (ve _) λw hS=>?_
    ·rw[zza,oP je];omega
    rw[bFe (by omega)]at hS
    refine Gp ?_;refine⟨⟨i+1,j+1,D.set i r,rfl,by omega,by omega,by rw[yyh];exact hD,?_,?_,aW hS⟩,by dsimp only;omega⟩
    ·rw[fX,yy0,<- ht];have:([r].filter λr=>!decide (r.key=c.key))=[r]:=by simp[hq]
     rw[this,zze (by rw[yyh];omega),List.getElem_set_self,List.take_set_of_le (zzi _)]
    rw[List.drop_set_of_lt (by omega)];exact E7
   refine Gp ?_;refine⟨⟨i,j+1,D,rfl,by omega,by omega,hD,?_,E7,aW hS⟩,by dsimp only;omega⟩;rw[fX,yy0,<- ht];have:([r].filter λr=>!decide (r.key=c.key))=[]:=by simp[hq]
   rw[this,zzx]
  have hjc:j=C.length:=by omega
  subst hjc;rw[zz0]at ht
  rw[<- ht];have hl:((D.map d_).flatten).length=D.length*2:=oP je D;refine⟨some ⟨b,0,none⟩,C.length,cap,i,C.length,cap,rfl,rfl,rfl,⟨_,rfl⟩,by omega,by omega,by omega,?_⟩;rw[zzb (show ¬cap=i by omega)];simp only[yyf,yyb,yye];have hA:((D.map d_).flatten.take (i*2)).length=i*2:=by rw[zzf,hl];omega
  have e2:((D.map d_).flatten++rest).take (i*2)++cK [Γ 0,.string ⟨#[]⟩] (C.length-i)++((D.map d_).flatten++rest).drop (i*2+(cK [Γ 0,.string ⟨#[]⟩] (C.length-i)).length)=(D.map d_).flatten.take (i*2)++(cK [Γ 0,.string ⟨#[]⟩] (C.length-i)++rest):=by
   have:=Rp ((D.map d_).flatten.take (i*2)) ((D.map d_).flatten.drop (i*2)) (cK [Γ 0,.string ⟨#[]⟩] (C.length-i)) rest (by rw[zzr,hl,lQ];show _=(C.length-i)*2;omega);rw[hA,<- zzk ((D.map d_).flatten.take (i*2)) ((D.map d_).flatten.drop (i*2)) rest,yyl]at this
   exact this
  refine WA (tt:=66) (z:=[Γ 0,.string ⟨#[]⟩]) (zv:=.agg #[Γ 0,.string ⟨#[]⟩]) (n:=C.length-i) (o:=i*2) (cs:=(D.map d_).flatten++rest) (l':=.pt b ((D.map d_).flatten.take (i*2)++(cK [Γ 0,.string ⟨#[]⟩] (C.length-i)++rest)) 66::.pt cb (fN c) 56::F) hS ?_ xx3 (λw=>by kernel_rfl) rfl (by simp[Value.oneCell']) (by omega) (by rw[zza,hl];show i*2+(C.length-i)*2<=_;omega) ?_
  ·rw[show (C.length-i)*([Γ 0,Value.string ⟨#[]⟩]:Ξ).length=(cK [Γ 0,.string ⟨#[]⟩] (C.length-i)).length from (lQ _ _).symm,e2];exact ga.hd
  intro u w hS;refine⟨some ⟨b,0,none⟩,C.length,cap,0,i,cap,rfl,rfl,⟨_,rfl⟩,rfl,by omega,by omega,by omega,?_⟩;rw[zzb (show ¬cap=0 by omega)];simp only[yyf,yyb,uuh,xxg,www];have hS:=bI.mk (n:=i) (cap:=cap) (sz:=2) (rest:=cK [Γ 0,.string ⟨#[]⟩] (C.length-i)++rest) (by omega) hA (by rw[zza,jN,lQ];show (C.length-i)*2+_=_;omega) hS;rw[ug je]at hS
  have cx:(D.take i).length=i:=by rw[zzf];omega
  refine⟨_,rfl,?_⟩;have hS:SL W (fD (.slice (some ⟨b,0,none⟩) i cap) (D.take i)::.pt cb (fN c) 56::F) w:=by unfold fD;rw[cx];exact hS
  exact aW hS
def bR6(t:Int)(l:List eh)(i:Nat)(h:i<l.length)(r:Row):kY t (l.take (i+1)) r=(kY t (l.take i) r || decide (l[i].table=t/\l[i].key=r.key)):=by
 unfold kY;rw[zze h,List.any_append];simp
def cLf(wp:Nat)(k:dE)(H:bw)(v:Ε)(l:List eh)(hv:dx H 4 v l.length (l.map fN).flatten)(hn:k.rows.length<=1000000)(hl:l.length<=140737488351232):
  SP 293 [cF wp,v] [.ob (dF wp k),.mem H] (λu post=>(∃q,u= Γ q)/\post=[.ob (dF wp (k.rH l)),.mem H]):=by
 refine Enzz λW F w hS=>?_;apply cHp;delta N2 aI bU a_ bV ai cP;obtain⟨rv,hS⟩:=dF.iff.1 hS;unfold mG at hS;unfold dE.rH;refine bY (λh=>?_) (λh=>?_)
 ·rw[zzb h];exact⟨_,⟨⟨_,rfl⟩,rfl⟩,SL.bZ (dF.put k rv hS Xp) Xi⟩
 rw[zzc (by omega)];refine Gp ?_;refine zt hS (v:=rv) (t:=66) (sz:=2) (n:=k.rows.length) (cells:=(k.rows.map d_).flatten) Xh ?_;refine zo hv ?_;refine⟨λus w=>∃(i:Nat) (ru:Ε),us=[Γ i]/\i<=l.length/\SL W (.pt wp [Γ k.mark,Γ k.after,Γ k.id,Γ k.table,ru,Γ k.dz,.bool k.last,Γ k.n,Γ k.state] 192::fD ru (k.rows.filter λr=>!kY k.table (l.take i) r)::.mem H::F) w,
  λus _=>match us with|[.int _ i]=>(l.length-i).toNat|_=>0,⟨0,rv,rfl,by omega,?_⟩,?_⟩
 ·have:(k.rows.filter λr=>!kY k.table (l.take 0) r)=k.rows:=yy2.2 λr _=>by simp[kY]
  rw[this];exact aW hS
 clear hS;rintro v21 w ⟨i,ru,cO,hi,hS⟩;cases cO;refine bY (λh=>?_) (λh=>?_)
 ·have cx:i<l.length:=by omega
  have hx:l[i]?=some l[i]:=zzd cx;have mT:(k.rows.filter λr=>!kY k.table (l.take i) r).length<=k.rows.length:=yym _ _;refine zD hS Xh s3 hv hx cx ?_;have kZ:∀r,kY k.table (l.take (i+1)) r=(kY k.table (l.take i) r || decide (l[i].table=k.table/\l[i].key=r.key)):=bR6 k.table l i cx;generalize l[i]=c at *
  refine Gb λxb w hS=>?_;refine za (λh2=>?_) (λh2=>?_)
  ·refine Gp ?_;refine Cc (aWv xb c ru (k.rows.filter λr=>!kY k.table (l.take i) r) (by omega)) ?_;clear hS;rintro u post rfl w hS;try simp only[app]at hS
   have hS:SL W (fD u ((k.rows.filter λr=>!kY k.table (l.take i) r).filter λr=>!decide (r.key=c.key))::.pt xb (fN c) 56::.pt wp [Γ k.mark,Γ k.after,Γ k.id,Γ k.table,ru,Γ k.dz,.bool k.last,Γ k.n,Γ k.state] 192::.mem H::F) w:=aW hS;have o1:u.oneCell'=true:=bI.one hS;refine Gn λw hS=>?_;refine⟨⟨i+1,u,rfl,by omega,?_⟩,by dsimp only;omega⟩;have e:(k.rows.filter λr=>!kY k.table (l.take (i+1)) r)=((k.rows.filter λr=>!kY k.table (l.take i) r).filter λr=>!decide (r.key=c.key)):=by
    rw[List.filter_filter];refine uun λr _=>?_;rw[kZ r];have:decide (c.table=k.table/\c.key=r.key)=decide (r.key=c.key):=by rw[yyg];omega
    rw[this];cases kY k.table (l.take i) r<;>cases decide (r.key=c.key)<;>rfl
   rw[e];exact aW hS
  refine Gp ?_;refine⟨⟨i+1,ru,rfl,by omega,?_⟩,by dsimp only;omega⟩;have e:(k.rows.filter λr=>!kY k.table (l.take (i+1)) r)=(k.rows.filter λr=>!kY k.table (l.take i) r):=by
   refine uun λr _=>?_;rw[kZ r,zzz (by omega),Bool.or_false]
  rw[e];exact aW hS
 have:l.take i=l:=zz2 (by omega);rw[this]at hS
 have mT:(k.rows.filter λr=>!kY k.table l r).length<=k.rows.length:=yym _ _;refine Gp ?_;refine zt hS (v:=ru) (t:=66) (sz:=2) (n:=(k.rows.filter λr=>!kY k.table l r).length) (cells:=((k.rows.filter λr=>!kY k.table l r).map d_).flatten) Xh ?_;refine Gp ?_;exact⟨_,⟨⟨_,rfl⟩,rfl⟩,SL.bZ (dF.put {k with rows:=k.rows.filter λr=>!kY k.table l r} ru hS Xp) Xi⟩
abbrev uI:iA:=⟨0,Θ,Θ⟩
def vY(wp:Nat)(k:dE)(H:bw)(mark aw:Int)(u:Ε)(post:Β):Prop:=match (k.high mark aw).2 with
 | none=>u= .tuple #[agg (eJ uI),.bool false]/\post=[.ob (dF wp k),.mem H]
 | some t=>∃(x:iA) (H':bw),H.le H'/\u= .tuple #[agg (eJ x),.bool true]/\gZ H' x t/\post=[.ob (dF wp (mH k.n)),.mem H']
def JR{a:Int}{u v:Ε}(h1:u.oneCell'=true)(h2:v.oneCell'=true):∀x∈[Γ a,u,v],x.oneCell'=true:=by
 intro x hx;simp only[zz8,xxj,vvw]at hx;rcases hx with rfl|rfl|rfl
 ·rfl
 ·exact h1
 exact h2
def Yk(wp:Nat)(k:dE)(H:bw)(mark aw:Int)(hn:k.rows.length<=1000000):SP 294 [cF wp,Γ mark,Γ aw] [.ob (dF wp k),.mem H] (vY wp k H mark aw):=by
 refine Enzz λW F w hS=>?_;apply cHq;delta N3 aI bU a_ cV aR bV B0 ai cP bR;obtain⟨rv,hS⟩:=dF.iff.1 hS;have fB:∀{w:Ζ} {rb:Nat},k.uy mark aw->SL W (.pt rb [Γ 0,Θ,Θ] 214::.pt wp (mG k rv) 192::fD rv k.rows::.mem H::F) w->∃post,vY wp k H mark aw (.tuple #[agg (eJ uI),.bool false]) post/\SL W (app post F) w:=λh hS=>by
  have e:(k.high mark aw).2=none:=by unfold dE.high;rw[zzc h]
  refine⟨[.ob (dF wp k),.mem H],?_,SL.bZ (dF.put k rv hS Xp) Xi⟩;unfold vY;rw[e];exact⟨rfl,rfl⟩
 refine Gb λrb w hS=>?_;refine za (λh=>?_) (λh1=>?_)
 ·refine Gn λw hS=>?_;exact fB (.inl h) hS
 refine bY (λh=>?_) (λh2=>?_)
 ·refine Gn λw hS=>?_;exact fB (.inr (.inl h)) hS
 refine bY (λh=>?_) (λh3=>?_)
 ·refine Gn λw hS=>?_;exact fB (.inr (.inr (by omega))) hS
 refine bY (λh=>?_) (λh4=>?_)
 ·refine Gn λw hS=>?_;exact fB (.inr (.inr (by omega))) hS
 clear fB;have cG:¬k.uy mark aw:=by unfold dE.uy;omega
 have e:(k.high mark aw).2=some ⟨aw,j7 k aw,[rC k]⟩:=by unfold dE.high;rw[zzb cG]
 refine⟨λus w=>∃(b nb:Nat),us=[cF b]/\SL W (.pt b [Γ aw,Θ,.slice (some ⟨nb,0,none⟩) 1 1] 214::.pt nb [Γ 2,Γ k.id,Γ 0,Γ 0,Γ 0,Γ k.dz,.bool k.last] 393::.pt rb [Γ 0,Θ,Θ] 214::.pt wp (mG k rv) 192::fD rv k.rows::.mem H::F) w,?_,?_⟩
 ·refine Gn λw hS=>?_;refine⟨?_,?_⟩
  ·refine Gb λnb w hS=>?_;refine Gb λb w hS=>?_;exact⟨b,nb,rfl,aW hS⟩
  refine Gb λb w hS=>?_;refine Gb λnb w hS=>?_;exact⟨b,nb,rfl,aW hS⟩
 clear hS;rintro v8 w ⟨b,nb,cO,hS⟩;cases cO;refine Gp ?_;refine zt hS (v:=rv) (t:=66) (sz:=2) (n:=k.rows.length) (cells:=(k.rows.map d_).flatten) Xh ?_;have xt:(j7 k aw).length=k.rows.length:=zzn ..;have hS:SL W (.ob (bI Θ 390 5 ((j7 k aw).take 0).length (((j7 k aw).take 0).map jB).flatten)::_) w:=bI.nil hS;refine⟨λus w=>∃(i:Nat) (ov:Ε),us=[Γ i]/\i<=k.rows.length/\SL W (.ob (bI ov 390 5 ((j7 k aw).take i).length (((j7 k aw).take i).map jB).flatten)::.pt b [Γ aw,ov,.slice (some ⟨nb,0,none⟩) 1 1] 214::.pt nb [Γ 2,Γ k.id,Γ 0,Γ 0,Γ 0,Γ k.dz,.bool k.last] 393::.pt rb [Γ 0,Θ,Θ] 214::.pt wp (mG k rv) 192::fD rv k.rows::.mem H::F) w,
  λus _=>match us with|[.int _ i]=>(k.rows.length-i).toNat|_=>0,⟨0,Θ,rfl,by omega,aW hS⟩,?_⟩
 clear hS;rintro v59 w ⟨i,ov,cO,hi,hS⟩;cases cO;refine bY (λh=>?_) (λh=>?_)
 ·have cx:i<k.rows.length:=by omega
  have hx:k.rows[i]?=some k.rows[i]:=zzd cx;have eY:(j7 k aw)[i]'(by omega)=⟨aw,k.table,k.rows[i].key,false,k.rows[i].val⟩:=by unfold j7;rw[xxy]
  have fX:(j7 k aw).take (i+1)=(j7 k aw).take i++[⟨aw,k.table,k.rows[i].key,false,k.rows[i].val⟩]:=by rw[zze (by omega),eY]
  have IA:((j7 k aw).take i).length=i:=by rw[zzf];omega
  refine zT hS (v:=rv) (t:=66) Xh je hx cx ?_;generalize k.rows[i]=r at *
  refine Gb λxb w hS=>?_;refine Gb λyb w hS=>?_;refine yy (n:=((j7 k aw).take i).length) (xs:=(j7 k aw).take i) (y:=⟨aw,k.table,r.key,false,r.val⟩) (enc:=jB) hS Xr Xh wJ (λx=>Cd x) rfl (by omega) (by omega) λv2 w hS=>?_;have hS:=hS.pY (x:=(⟨aw,k.table,r.key,false,r.val⟩:gl));rw[<- fX]at hS
  have o1:v2.oneCell'=true:=bI.one hS;refine Gn λw hS=>?_;exact⟨⟨i+1,v2,rfl,by omega,aW hS⟩,by dsimp only;omega⟩
 have he:(j7 k aw).take i=j7 k aw:=zz2 (by omega);rw[he]at hS
 have o1:ov.oneCell'=true:=bI.one hS;refine Gp ?_;refine Ye hS Xu rfl (by simp) (by simp[Value.oneCell']) λw hS=>?_;simp only[List.take,List.drop,zzu,zzq]at hS;refine Gn λw hS=>?_;refine zr (vs:=[Γ aw,ov,.slice (some ⟨nb,0,none⟩) 1 1]) hS Xu rfl rfl (JR o1 rfl) λw hS=>?_;refine Gp ?_;obtain⟨H1,dj,jC,hS⟩:=zz (H:=H) (v:=ov) hS Xp;obtain⟨H2,dQ,pH,hS⟩:=SL.Kd (sz:=7) (H:=H1) (b:=nb) hS Xp rfl;have hS:=fD.nil hS;have hS:=dF.put (wp:=wp) (mH k.n) Θ hS Xp;refine⟨[.ob (dF wp (mH k.n)),.mem H2],?_,aW hS⟩;unfold vY;rw[e];exact⟨⟨aw,ov,.slice (some ⟨nb,0,none⟩) 1 1⟩,H2,bw.le_trans dj dQ,rfl,⟨rfl,jC.mono dQ,pH⟩,rfl⟩
abbrev btc(e u l:Int):Ξ:=[Γ e,Γ u,Γ l]
abbrev jb(p:Nat)(e u l:Int):Μ:=.pt p (btc e u l) 201
def ZC(p:Nat)(e u l now:Int)(he:1<=e/\e<=1073741824):SP 204 [Δ p,Γ now] [jb p e u l] (cC (.tuple #[]) [jb p e (jo e now) l]):=by
 refine Enzz λW F w hS=>?_;apply cFm;delta ML bU cV ai;have e1:min (max now 0) 1125899906842624+e=jo e now:=rfl;refine Gn λw hS=>?_;rw[e1]at hS
 (exact cA hS)
def aId(e now aw:Int)(he:1<=e/\e<=1073741824)(hn:0<=now/\now<=1125899906842624)(hl:0<=aw/\aw<=1099511627776):SP 147 [Γ e,Γ now,Γ aw] [] (λv post=>∃p:Nat,v= .tuple #[Δ p,Γ 0]/\post=[jb p e (jo e now) aw]):=by
 refine Enzz λW F w hS=>?_;apply cD2;delta LM aI bV ai cT;refine Gp ?_;refine za (λh=>by omega) (λ_=>?_);refine Gp ?_;refine za (λh=>by omega) (λ_=>?_);refine Gp ?_;refine za (λh=>by omega) (λ_=>?_);refine Gp ?_;refine za (λh=>by omega) (λ_=>?_);refine Gp ?_;refine za (λh=>by omega) (λ_=>?_);refine Gp ?_;refine za (λh=>by omega) (λ_=>?_);refine Gp ?_;refine⟨_,rfl,zE hS λp w hS=>?_⟩;refine Gp ?_;refine Cg (ZC p e 0 aw now he) λw hS=>?_;exact⟨_,⟨p,rfl,rfl⟩,aW hS⟩
def Yl(p:Nat)(e u l x:Int):SP 169 [Δ p,Γ x] [jb p e u l] (cC (.tuple #[]) [jb p e u (max l x)]):=by
 refine Enzz λW F w hS=>?_;apply cEp;delta Me bU cV;refine Gn λw hS=>?_;(exact cA hS)
def Zh(p:Nat)(e u l now at_ cr:Int):SP 66 [Δ p,Γ now,Γ at_,Γ cr] [jb p e u l] (cC (.bool (decide (u<=now/\(at_<=l\/0<cr)))) [jb p e u l]):=by
 refine Enzz λW F w hS=>?_;apply cJ6;delta Pn aI bU a_ bV cw ai;refine bY (λh1=>?_) (λh1=>?_)
 ·refine bY (λh2=>?_) (λh2=>?_)
  ·rw[zzl (p:=u<=now/\(at_<=l\/0<cr)) ⟨by omega,.inl (by omega)⟩];(exact cA hS)
  refine Gp ?_;rw[show decide (u<=now/\(at_<=l\/0<cr))=decide (0<cr) from yyg.2 ⟨λh=>by omega,λh=>by omega⟩];(exact cA hS)
 rw[zzz (p:=u<=now/\(at_<=l\/0<cr)) (by omega)];(exact cA hS)
def q6(p:Nat)(e u l:Int):SP 59 [Δ p] [jb p e u l] (cC (Γ u) [jb p e u l]):=by
 refine Enzz λW F w hS=>?_;apply cJ0;delta Pf a_ bV;refine Gp ?_;(exact cA hS)
def qc(p:Nat)(e u l:Int):SP 71 [Δ p] [jb p e u l] (cC (Γ l) [jb p e u l]):=by
 refine Enzz λW F w hS=>?_;apply cKb;delta Ps bU;refine Gp ?_;(exact cA hS)
def yi(p:Nat)(e u l now at_ cr:Int)(he:1<=e/\e<=1073741824)(hr:u<=now/\(at_<=l\/0<cr)):SP 177 [Δ p,Γ now,Γ at_,Γ cr] [jb p e u l]
  (λv post=>if at_<=l then v= .tuple #[agg (eJ uI),Γ 9]/\post=[jb p e (jo e now) l] else v= .tuple #[agg (eJ ⟨at_,Θ,Θ⟩),Γ 8]/\post=[jb p e (jo e now) at_]):=by
 refine Enzz λW F w hS=>?_;apply cEy;delta Mn aI bU cV bV cL ai bR;refine Gb λxb w hS=>?_;refine Cg (Zh p e u l now at_ cr) λw hS=>?_;refine zu (λh=>by rw[zzl hr]at h;cases h) (λ_=>?_);refine Gp ?_;refine Cg (ZC p e u l now he) λw hS=>?_;refine za (λh=>?_) (λh=>?_)
 ·refine Gn λw hS=>?_;exact⟨_,(zzc h).mpr ⟨rfl,rfl⟩,aW hS⟩
 refine Gn λw hS=>?_;exact⟨_,(zzb h).mpr ⟨rfl,rfl⟩,aW hS⟩

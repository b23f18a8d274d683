/- Part. -/
import Derived.Test.YtmkllimamejcgaaGreatJ10
import Derived.Test.YtmkllimamejcgaaGreatQVcW
import Derived.Test.YtmkllimamejcgaaGreatQVcK
namespace Go.Proofs.YtmkllimamejcgaaGreat
set_option linter.all false
open Go.RowKit
def uuo:=@List.filter_congr
structure CC(c:dF)(k:dM)(n:Nat):Prop where
 n1:1<=n
 n8:n<=8
 tables:c.tables=n
 Va:0<=c.late
 Vb:c.late<2 ^ n
 s0:64<=c.size
 s1:c.size<=65536
 queue:c.queue=k.cap
 q1:1<=k.cap
 DO:k.cap<=64
 c1:1<=c.chunk
 wF:c.chunk<=64
 batch:c.batch=k.cJ
 b1:1<=k.cJ
 Hz:k.cJ<=64
 base:c.base=k.b
 cm:c.cJ=k.m
 U0:c.sI=k.j
 may:p' k.b k.m k.j
 e1:1<=c.every
 e2:c.every<=1073741824
structure bW where
 s:eX
 k:cN
 m:dD
 dr:dB
 q:List cF
 pos:Int
 due:Int
 last:Int
 dy:Ω
 now:Int
def bW.src(c:bW):cN:={c.k with d:=c.s.k.d}
def bW.jI(c:bW)(k:cN):bW:={c with k:=k,s:={c.s with k:={c.s.k with d:=k.d}}}
def bW.lA(cf:dF)(c:bW):eW:=⟨c.src,c.m,c.dr,cf.chunk⟩
def bW.GB(c:bW)(p:eW):bW:={c.jI p.k with m:=p.m,dr:=p.d}
def bW.jV(kc:dM)(c:bW):Nat:=kc.cap-c.s.L.length-c.s.out
def bW.head(c:bW):Int:=cI c.k.g.bF
def bW.en(kc:dM)(c:bW)(comp:Int):Bool:=
 if c.s.k.d.off=true then false
 else if comp=0 then decide (c.pos<c.head/\c.q.length<kc.cap)
 else if comp=1 then (match c.q with
  | []=>false
  | t::_=>decide (0<c.jV kc) && !(c.m.cB.waits t.kind t.mark))
 else if comp=2 then DP c.m
 else if comp=3 then c.s.ready c.now
 else if comp=4 then decide (c.due<=c.now/\(c.m.at_<=c.last\/0<c.jV kc))
 else false
structure oM where
 err:Int
 aw:Int
 td:Int
deriving DecidableEq
def wW(t:oM):Ξ:=[Γ t.err,Γ t.aw,Γ t.td]
def bW.put(c:bW)(x:cD):bW:={c with s:={c.s with L:=c.s.L++[x]}}
def bW.read(c:bW):bW × oM:=match c.src.gX (c.pos+1) with
 | .error e=>(c,⟨e,0,0⟩)
 | .ok t=>({c with q:=c.q++[t],pos:=c.pos+1},⟨0,0,1⟩)
def bW.Ad(c:bW)(x:cD):bW:=if 0<x.ops.length+x.notes.length then {c.put x with last:=max c.last x.aw} else c
def bW.take(c:bW):bW × oM:=match c.q with
 | []=>(c,⟨0,0,0⟩)
 | t::q=>let r:=c.m.take t;(({c with q:=q,m:=r.1}:bW).Ad r.2.1,⟨0,0,2⟩)
def bW.draw(c:bW):Int:=c.dy.headD 0
def bW.write(kc:dM)(c:bW):bW × oM:=
 let r:=c.s.step kc c.now c.draw
 ({c with s:=r.1,dy:=if r.2.1=7 then c.dy.tail else c.dy},⟨r.2.2,0,r.2.1⟩)
def jf(every now:Int):Int:=min (max now 0) 1125899906842624+every
def bW.tell(cf:dF)(c:bW):bW × oM:=
 if c.m.at_<=c.last then ({c with due:=jf cf.every c.now},⟨0,0,9⟩)
 else ({c.put ⟨c.m.at_,[],[]⟩ with due:=jf cf.every c.now,last:=c.m.at_},⟨0,0,8⟩)
def bW.snap(cf:dF)(c:bW):bW × oM:=let r:=(c.lA cf).step;(c.GB r.1,⟨r.2.2,0,r.2.1⟩)
def bW.pick(cf:dF)(kc:dM)(c:bW)(comp:Int):bW × oM:=
 if comp<0\/5<=comp then (c,⟨1,0,0⟩)
 else if c.en kc comp=false then (c,⟨0,0,0⟩)
 else if comp=0 then c.read
 else if comp=1 then c.take
 else if comp=2 then c.snap cf
 else if comp=3 then c.write kc
 else c.tell cf
def bW.fault(c:bW)(f:fT):bW × Int:=
 if jc f=false then (c,1)
 else if 1024<=c.s.k.plan.length then (c,7)
 else ({c with s:={c.s with k:={c.s.k with plan:=c.s.k.plan++[f]}}},0)
def bW.tick(c:bW)(n:Int):bW × Int:=
 if n<1\/1073741824<n then (c,1) else if 1125899906842624<c.now+n then (c,7) else ({c with now:=c.now+n},0)
def bW.drawn(c:bW)(x:Int):bW × Int:=
 if x<0\/1125899906842624<x then (c,1) else if 1024<=c.dy.length then (c,7) else ({c with dy:=c.dy++[x]},0)
def bW.re(c:bW)(x:Int):bW × Int:=
 if x<0\/1073741824<x then (c,1) else ({c with s:={c.s with k:={c.s.k with d:=c.s.k.d.oh x}}},0)
def bW.trim(c:bW):bW × Int:=let r:=c.src.gZ c.s.k.aw;(c.jI r.1,r.2)
def bW.start(cf:dF)(k:cN)(sk:cM)(now:Int):bW:=
 ⟨⟨sk,[],0,0,0,nR,0⟩,k,⟨cf.tables,cf.late,sk.aw,sk.reqs,mR cf.chunk⟩,wP,[],sk.aw,jf cf.every now,sk.aw,[],now⟩
def V7(cf:dF)(d:DS)(now:Int):DS × Except Int bW:=match kH d cf.tables cf.size with
 | (d1,.error e)=>(d1,.error e)
 | (_,.ok k)=>match kG k.d cf.tables cf.size with
  | (d2,.error e)=>(d2,.error e)
  | (_,.ok sk)=>(sk.d,.ok (bW.start cf k sk now))
def bW.ed(cf:dF)(c:bW)(keep:Ω):bW:=match V7 cf (c.s.k.d.ed keep) c.now with
 | (_,.ok c')=>c'
 | (_,.error _)=>c
def bW.other(cf:dF)(c:bW)(s:gB):bW × Int:=
 if s.kind=3 then c.fault s.ft
 else if s.kind=4 then c.tick s.n
 else if s.kind=5 then c.drawn s.n
 else if s.kind=6 then c.trim
 else if s.kind=7 then c.re s.n
 else if s.kind=8 then (c.ed cf s.keep,0)
 else (c,1)
def bW.lG(c:bW)(s:gB):bW × oM:=let r:=c.src.kx s.sg s.l;(c.jI r.1,⟨r.2.2,r.2.1,0⟩)
def bW.gv(cf:dF)(kc:dM)(c:bW)(s:gB):bW × oM:=
 if c.s.k.d.off=true/\s.kind≠8 then (c,⟨8,0,0⟩)
 else if s.kind=1 then c.lG s
 else if s.kind=2 then c.pick cf kc s.n
 else ((c.other cf s).1,⟨(c.other cf s).2,0,0⟩)
structure D_ where
 aw:Int
 head:Int
 low:Int
 clock:Int
 at_:Int
 pos:Int
 read:Int
 Aa:Int
 held:Int
 jV:Int
 cB:Int
 rows:Int
 fL:Int
 eI:Int
 due:Int
 down:Bool
deriving DecidableEq
def wT(l:D_):Ξ:=[Γ l.aw,Γ l.head,Γ l.low,Γ l.clock,Γ l.at_,Γ l.pos,Γ l.read,Γ l.Aa,Γ l.held,Γ l.jV,Γ l.cB,Γ l.rows,Γ l.fL,Γ l.eI,Γ l.due,.bool l.down]
def bW.look(kc:dM)(c:bW):D_:=
 ⟨c.s.k.aw,c.head,fj c.k.g.bF,c.now,c.m.at_,c.pos,c.q.length,c.s.L.length,c.s.out,(c.jV kc:Nat),c.m.cB.state,c.m.cB.rows.length,c.s.fL,c.s.eI,c.due,c.s.k.d.off⟩
def j_(l:List cD):List ix:=(l.map (·.notes)).flatten
def b_y(l l':List cD):j_ (l++l')=j_ l++j_ l':=by simp[j_]
def U9(l:List cD):(j8 l).notes=j_ l:=by
 suffices h:∀(l:List cD) (a:cD),(l.foldl jn a).notes=a.notes++j_ l from h l nR
 intro l;induction l with
 | nil=>intro a;simp[j_]
 | cons x l ih=>intro a;rw[xxo,ih];simp[jn,j_]
def U_{l:List cD}(h:l≠[])(b b':Int):iR b l=iR b' l:=by
 cases l with
 | nil=>exact absurd rfl h
 | cons x l=>rfl
structure tW(n:Nat)(x:cD):Prop where
 w:vd n x
 nt:∀m∈x.notes,m.kind≠2->m.table<(n:Int)
structure jL(kc:dM)(n:Nat)(s:eX)(hd:List cD)(last:Int)(R:List Rq)(f:Nat):Prop where
 it:∀x∈hd++s.L,tW n x
 jR:fK 0 (hd++s.L)
 le:iR 0 (hd++s.L)<=last
 hn:hd.length=s.n
 held:s.held=j8 hd
 room:s.L.length+s.out<=kc.cap
 out:s.out=s.n
 l0:0<=s.k.aw
 aw:s.k.aw<=last
 st:(fK s.k.aw (hd++s.L)/\fY s.k.reqs (j_ (hd++s.L))=some R)\/(hd≠[]/\s.k.aw=iR 0 hd/\fY s.k.reqs (j_ s.L)=some R)
 f0:0<=s.fL
 f1:s.fL<=f
def jL.mono{kc:dM}{n:Nat}{s:eX}{hd:List cD}{last:Int}{R:List Rq}{f f':Nat}(h:jL kc n s hd last R f)(hf:f<=f'):jL kc n s hd last R f':=⟨h.it,h.jR,h.le,h.hn,h.held,h.room,h.out,h.l0,h.aw,h.st,h.f0,by have:=h.f1;omega⟩
def jL.inv{kc:dM}{n:Nat}{s:eX}{hd:List cD}{last:Int}{R:List Rq}{f:Nat}(h:jL kc n s hd last R f){cf:dF}(hc:CC cf kc n):pC kc n s f:=by
 have h1:=fK.append.1 h.jR;refine⟨hc.q1,hc.DO,hc.b1,hc.Hz,λx hx=>(h.it x (xxl _ hx)).w,h1.2.mono h1.1.last,h.room,h.out,?_,h.f0,h.f1⟩;have hn:=h.hn;by_cases h0:s.n=0
 ·have:hd=[]:=wwh.1 (by omega);subst this;exact .inl ⟨h0,h.held⟩
 have:=Dy (n:=n) (l:=hd) (λx hx=>(h.it x (yyo _ hx)).w) h1.1;rw[hn,<- h.held]at this
 exact .inr ⟨by omega,this⟩
def jL.put{kc:dM}{n:Nat}{s:eX}{hd:List cD}{last:Int}{R R':List Rq}{f:Nat}(h:jL kc n s hd last R f){x:cD}(hx:tW n x)(hl:last<x.aw)(hR:fY R x.notes=some R')(hr:s.L.length+s.out<kc.cap):jL kc n {s with L:=s.L++[x]} hd x.aw R' f:=by
 have hle:=h.le;have kB:=h.aw;have T6:∀A:List cD,j_ (A++[x])=j_ A++x.notes:=λA=>by simp[j_]
 have e:hd++(s.L++[x])=(hd++s.L)++[x]:=(zzk _ _ _).symm;refine⟨λy hy=>?_,?_,?_,h.hn,h.held,?_,h.out,h.l0,by show s.k.aw<=x.aw;omega,?_,h.f0,h.f1⟩
 ·have hy:y∈hd++(s.L++[x]):=hy;rw[e]at hy
  rcases zz5.1 hy with hy|hy
  ·exact h.it y hy
  rw[zz7.1 hy];exact hx
 ·show fK 0 (hd++(s.L++[x]));rw[e];exact h.jR.snoc (by omega)
 ·show iR 0 (hd++(s.L++[x]))<=x.aw;rw[e,bYp];exact yyf _
 ·show (s.L++[x]).length+s.out<=kc.cap;rw[zza,yya];omega
 rcases h.st with ⟨a,b⟩|⟨a,b,c⟩
 ·refine .inl ⟨?_,?_⟩
  ·show fK s.k.aw (hd++(s.L++[x]));rw[e];refine a.snoc ?_;by_cases hn:hd++s.L=[]
   ·rw[hn];show s.k.aw<x.aw;omega
   rw[U_ hn _ 0];omega
  show fY s.k.reqs (j_ (hd++(s.L++[x])))=some R';rw[e,T6,DH,b];exact hR
 refine .inr ⟨a,b,?_⟩;show fY s.k.reqs (j_ (s.L++[x]))=some R';rw[T6,DH,c];exact hR
def jL.hold{kc:dM}{n:Nat}{s:eX}{hd:List cD}{last:Int}{R:List Rq}{f:Nat}(h:jL kc n s hd last R f)(h1:1<=kc.cJ){now:Int}(hr:s.ready now=true):
  ∃mG,jL kc n (s.hold kc.cJ) mG last R f/\mG≠[]/\(s.hold kc.cJ).k=s.k/\(s.hold kc.cJ).fL=s.fL/\(s.hold kc.cJ).eI=s.eI:=by
 have hn:=h.hn;have Ji:=h.room;have Ub:=h.out;unfold eX.ready at hr;unfold eX.hold;by_cases h0:s.n=0
 ·rw[zzd h0];rw[zzb (by omega),zzw]at hr
  have nM:hd=[]:=wwh.1 (by omega);subst nM;have e:s.L.take kc.cJ++s.L.drop kc.cJ=[]++s.L:=by simp
  refine⟨s.L.take kc.cJ,⟨by show ∀x∈s.L.take kc.cJ++s.L.drop kc.cJ,_;rw[e];exact h.it,by show fK 0 (s.L.take kc.cJ++s.L.drop kc.cJ);rw[e];exact h.jR,by show iR 0 (s.L.take kc.cJ++s.L.drop kc.cJ)<=last;rw[e];exact h.le,by show (s.L.take kc.cJ).length=min kc.cJ s.L.length;rw[zzg],rfl,?_,?_,h.l0,h.aw,.inl ?_,h.f0,h.f1⟩,λhh=>?_,rfl,rfl,rfl⟩
  ·show (s.L.drop kc.cJ).length+(s.out+min kc.cJ s.L.length)<=kc.cap;rw[zzq];omega
  ·show s.out+min kc.cJ s.L.length=min kc.cJ s.L.length;omega
  ·show fK s.k.aw (s.L.take kc.cJ++s.L.drop kc.cJ)/\fY s.k.reqs (j_ (s.L.take kc.cJ++s.L.drop kc.cJ))=some R;rw[e];rcases h.st with a|⟨a,_⟩
   ·exact a
   exact absurd rfl a
  have:=yyt List.length hh;rw[zzg,yym]at this
  omega
 rw[zzb h0];exact⟨hd,h,λhh=>by rw[hh]at hn;exact h0 (by rw[<- hn];rfl),rfl,rfl,rfl⟩
def jL.fits{kc:dM}{n:Nat}{s:eX}{hd:List cD}{last:Int}{R:List Rq}{f:Nat}(h:jL kc n s hd last R f){cf:dF}(hc:CC cf kc n)(dQ:hd≠[]):
  eC s.held=true/\s.held.aw=iR 0 hd/\∃L,(s.k.aw<s.held.aw->gb n s.k.reqs s.held=some L/\fY L (j_ s.L)=some R)/\(¬s.k.aw<s.held.aw->s.k.aw=iR 0 hd/\fY s.k.reqs (j_ s.L)=some R):=by
 have h1:=fK.append.1 h.jR;have hJ:=Dy (n:=n) (l:=hd) (λx hx=>(h.it x (yyo _ hx)).w) h1.1;have hp:0<hd.length:=xx9.2 dQ;have hn:=h.hn;have Ji:=h.room;have Ub:=h.out;have hq:=hc.DO;obtain⟨hm,ht⟩:=hJ.may hp (by omega);have hl:s.held.aw=iR 0 hd:=by rw[h.held,U8]
 rw[<- h.held]at hm ht
 refine⟨hm,hl,?_⟩;rcases h.st with ⟨a,b⟩|⟨_,a,b⟩
 ·rw[b_y]at b
  obtain⟨L,b1,b2⟩:=b_z b;have de:s.k.aw<s.held.aw:=by
   rw[hl];have:=(fK.append.1 a).1;cases hd with
   | nil=>exact absurd rfl dQ
   | cons x l=>have h2:=this.2.last;have h3:=this.1;show s.k.aw<iR x.aw l;omega
  refine⟨L,λ_=>⟨?_,b2⟩,λhh=>absurd de hh⟩;unfold gb;rw[zzd ⟨hm,ht⟩,h.held,U9];exact b1
 exact⟨R,λhh=>by omega,λ_=>⟨a,b⟩⟩
def jL.done{kc:dM}{n:Nat}{s:eX}{hd:List cD}{last:Int}{R:List Rq}{f:Nat}(h:jL kc n s hd last R f){k':cM}(hl:k'.aw=iR 0 hd)(hR:fY k'.reqs (j_ s.L)=some R):jL kc n {s with k:=k',out:=s.out-oy s.n s.out,fL:=0,eI:=0,held:=nR,n:=0} [] last R f:=by
 have h1:=fK.append.1 h.jR;have hle:=h.le;have kB:=h.aw;have rr:=h.l0;have Ji:=h.room;have Ub:=h.out;have h2:=h1.1.last;have h3:=h1.2.last;rw[JJ]at hle
 have hg:oy s.n s.out=s.n:=by unfold oy;omega
 have nc:iR 0 ([]++s.L)<=last:=by
  rw[zzr];by_cases hL:s.L=[]
  ·rw[hL];show (0:Int)<=last;omega
  rw[U_ hL 0 (iR 0 hd)];exact hle
 refine⟨λx hx=>h.it x (xxl _ hx),h1.2.mono h2,nc,rfl,rfl,?_,?_,?_,?_,.inl ⟨?_,hR⟩,yyf _,by show (0:Int)<=(f:Int);omega⟩
 ·show s.L.length+(s.out-oy s.n s.out)<=kc.cap;omega
 ·show s.out-oy s.n s.out=0;omega
 ·show 0<=k'.aw;rw[hl];exact h2
 ·show k'.aw<=last;rw[hl];omega
 show fK k'.aw s.L;rw[hl];exact h1.2
def jL.again{kc:dM}{n:Nat}{s:eX}{hd:List cD}{last:Int}{R:List Rq}{f:Nat}(h:jL kc n s hd last R f)(dQ:hd≠[]){k':cM}(hk:(k'.aw=s.k.aw/\k'.reqs=s.k.reqs)\/(k'.aw=iR 0 hd/\fY k'.reqs (j_ s.L)=some R))(eI:Int):jL kc n {s with k:=k',fL:=s.fL+1,eI:=eI} hd last R (f+1):=by
 have h1:=fK.append.1 h.jR;have hle:=h.le;have h2:=h1.1.last;have h3:=h1.2.last;have uA:=h.f0;have A0:=h.f1;rw[JJ]at hle
 refine⟨h.it,h.jR,h.le,h.hn,h.held,h.room,h.out,?_,?_,?_,by show 0<=s.fL+1;omega,by show s.fL+1<=((f+1:Nat):Int);omega⟩
 ·show 0<=k'.aw;rcases hk with ⟨e,_⟩|⟨e,_⟩
  ·rw[e];exact h.l0
  rw[e];exact h2
 ·show k'.aw<=last;rcases hk with ⟨e,_⟩|⟨e,_⟩
  ·rw[e];exact h.aw
  rw[e];omega
 show (fK k'.aw (hd++s.L)/\fY k'.reqs (j_ (hd++s.L))=some R)\/(hd≠[]/\k'.aw=iR 0 hd/\fY k'.reqs (j_ s.L)=some R);rcases hk with ⟨e1,e2⟩|⟨e1,e2⟩
 ·rw[e1,e2];exact h.st
 exact .inr ⟨dQ,e1,e2⟩
structure jM(n:Nat)(ch:Int)(w:dG):Prop where
 nn:w.n=ch
 st:0<=w.state/\w.state<=4
 rows:∀r∈w.rows,sQ r
 len:w.rows.length<=64
 after:0<=w.after/\w.after<=1099511627776
 cur:0<=w.dA/\w.dA<=1099511627776
 id:0<=w.id/\w.id<=64
 live:w.state≠0->(0<=w.table/\w.table<(n:Int))/\1<=w.id/\1<=w.mark/\w.mark<=1099511627776
def jM.mR(n:Nat)(ch:Int):jM n ch (mR ch):=⟨rfl,⟨yyf _,show (0:Int)<=4 by decide⟩,λr hr=>(by cases hr),zz9 _,⟨yyf _,show (0:Int)<=1099511627776 by decide⟩,⟨yyf _,show (0:Int)<=1099511627776 by decide⟩,⟨yyf _,show (0:Int)<=64 by decide⟩,λh=>absurd rfl h⟩
def jM.tQ{n:Nat}{ch:Int}{w:dG}(h:jM n ch w){mark id table after:Int}(ht:table<(n:Int)):jM n ch (w.tQ mark id table after):=by
 unfold dG.tQ;split
 ·exact h
 rename_i hb;unfold dG.y_ at hb;exact⟨h.nn,⟨show (0:Int)<=1 by decide,show (1:Int)<=4 by decide⟩,λr hr=>(by cases hr),zz9 _,⟨by show 0<=after;omega,by show after<=_;omega⟩,⟨yyf _,show (0:Int)<=1099511627776 by decide⟩,⟨by show 0<=id;omega,by show id<=64;omega⟩,λ_=>⟨⟨by show 0<=table;omega,ht⟩,by show 1<=id;omega,by show 1<=mark;omega,by show mark<=_;omega⟩⟩
def cwi{after:Int}{C:List Row}(ha:0<=after/\after<=1099511627776)(h:∀r∈C,sQ r):0<=ly after C/\ly after C<=1099511627776:=by
 unfold ly;cases hl:C.getLast? with
 | none=>exact ha
 | some r=>
  have:=h r (xx1 hl);unfold sQ at this;show 0<=r.key/\r.key<=_;omega
def jM.fill{n:Nat}{ch:Int}{w:dG}(h:jM n ch w)(Is:ch<=64){C:List Row}(hC:∀r∈C,sQ r):jM n ch (w.fill C):=by
 unfold dG.fill;split
 ·exact h
 rename_i hb;unfold dG.w8 at hb;have hn:=h.nn;exact⟨h.nn,⟨show (0:Int)<=2 by decide,show (2:Int)<=4 by decide⟩,hC,by show C.length<=64;omega,h.after,cwi h.after hC,h.id,λ_=>h.live (by omega)⟩
def jM.shut{n:Nat}{ch:Int}{w:dG}(h:jM n ch w):jM n ch w.shut:=by
 unfold dG.shut;split
 ·exact⟨h.nn,⟨show (0:Int)<=3 by decide,show (3:Int)<=4 by decide⟩,h.rows,h.len,h.after,h.cur,h.id,λ_=>h.live (by omega)⟩
 exact h
def jM.low{n:Nat}{ch:Int}{w:dG}(h:jM n ch w)(mark:Int):jM n ch (w.low mark):=by
 unfold dG.low;split
 ·rename_i hs;exact⟨h.nn,⟨show (0:Int)<=4 by decide,yyf _⟩,h.rows,h.len,h.after,h.cur,h.id,λ_=>h.live (by omega)⟩
 exact h
def jM.rP{n:Nat}{ch:Int}{w:dG}(h:jM n ch w)(l:List ep):jM n ch (w.rP l):=by
 unfold dG.rP;split
 ·exact⟨h.nn,h.st,λr hr=>h.rows r (yyz.1 hr).1,yy2 (yyp _ _) h.len,h.after,h.cur,h.id,h.live⟩
 exact h
structure An(n:Nat)(ch:Int)(m:dD):Prop where
 mP:m.tables=n
 l4:0<=m.at_
 oP:m.at_<=1099511627776
 may:gk m.reqs
 rq:∀r∈m.reqs,r.table<(n:Int)/\r.at_<=m.at_
 cB:jM n ch m.cB
def P8{L L':List Rq}{t w a:Int}(h:pD L t w a=some L'):L'=L++[x_ L t w a]/\1<=L'.length/\L'.length<=64/\0<=t/\t<8/\1<=w/\w<=8/\1<=a:=by
 have hM:=Cj h;have he:L'=L++[x_ L t w a]:=by
  unfold pD at h;split at h
  ·cases h;rfl
  cases h
 have hl:L'.length=L.length+1:=by rw[he];simp
 have h1:=(hM.2 L.length (by omega)).1;have e:L'[L.length]=x_ L t w a:=by simp[he]
 rw[e]at h1
 unfold vZ x_ at h1;exact⟨he,by omega,hM.1,h1.2.1,h1.2.2.1,h1.2.2.2.1,h1.2.2.2.2.1,h1.2.2.2.2.2.1⟩
def RG{L L':List Rq}{id c:Int}{dn:Bool}(h:l6 L id c dn=some L'):∀r∈L',∃r0∈L,r.table=r0.table/\r.at_=r0.at_:=by
 unfold l6 at h;split at h
 ·split at h
  ·rename_i r0 tI;split at h
   ·cases h
   cases h;intro r hr;obtain⟨j,hj,rfl⟩:=yyl hr;rw[xxp];obtain⟨tC,e0⟩:=zzf.1 tI;split
   ·exact⟨r0,by rw[<- e0];exact zzh _,rfl,rfl⟩
   rw[yyj]at hj
   exact⟨_,zzh hj,rfl,rfl⟩
  cases h
 cases h
def aF2{m:dD}{n:Nat}(ht:m.tables=n){aw:Int}(l1:1<=aw)(s:Η):
  fY m.reqs (m.accept s aw).2=some (m.accept s aw).1/\(m.accept s aw).2.length<=1/\(∀x∈(m.accept s aw).2,jm x aw=true/\x.table<(n:Int))/\∀r∈(m.accept s aw).1,r∈m.reqs\/(r.table<(n:Int)/\r.at_=aw):=by
 unfold dD.accept;split
 ·exact⟨rfl,zz9 _,λx hx=>(by cases hx),λr hr=>.inl hr⟩
 split
 ·exact⟨rfl,zz9 _,λx hx=>(by cases hx),λr hr=>.inl hr⟩
 split
 ·exact⟨rfl,zz9 _,λx hx=>(by cases hx),λr hr=>.inl hr⟩
 rename_i g _ vR _ L hL;obtain⟨e,a1,a2,a3,a4,a5,a6,a7⟩:=P8 hL;refine⟨?_,zzj _,λx hx=>?_,λr hr=>?_⟩
 ·simp only;unfold fY fY oG;rw[zzb (show ¬(1:Int)=2 by decide)];simp only[hL];rw[zzd trivial]
 ·rw[zz7.1 hx];refine⟨DA.2 ⟨by show (1:Int)<=L.length;omega,by show (L.length:Int)<=64;omega,.inl ⟨rfl,a3,a4,a5,a6,l1,yyf _,rfl,rfl⟩⟩,by show g.1<(n:Int);omega⟩
 simp only at hr;rw[e]at hr
 rcases zz5.1 hr with hr|hr
 ·exact .inl hr
 rw[zz7.1 hr];exact .inr ⟨by show g.1<(n:Int);omega,rfl⟩
def P'{n:Nat}{aw:Int}(l1:1<=aw):∀(sg:Ψ) {m:dD},m.tables=n ->
  fY m.reqs (m.fo aw sg).2=some (m.fo aw sg).1.reqs/\(m.fo aw sg).2.length<=sg.length/\(∀x∈(m.fo aw sg).2,jm x aw=true/\x.table<(n:Int))/\∀r∈(m.fo aw sg).1.reqs,r∈m.reqs\/(r.table<(n:Int)/\r.at_=aw)
 | [],m,_=>⟨rfl,zzj _,λx hx=>(by cases hx),λr hr=>.inl hr⟩
 | s::sg,m,ht=>by
  obtain⟨a1,a2,a3,a4⟩:=aF2 ht l1 s;obtain⟨b1,b2,b3,b4⟩:=P' l1 sg (m:={m with reqs:=(m.accept s aw).1}) ht;have e:m.fo aw (s::sg)=((dD.fo {m with reqs:=(m.accept s aw).1} aw sg).1,(m.accept s aw).2++(dD.fo {m with reqs:=(m.accept s aw).1} aw sg).2):=rfl;rw[e];refine⟨?_,?_,λx hx=>?_,λr hr=>?_⟩
  ·simp only;rw[DH,a1];exact b1
  ·simp only;rw[zza,zzi];omega
  ·rcases zz5.1 hx with hx|hx
   ·exact a3 x hx
   exact b3 x hx
  rcases b4 r hr with h|h
  ·exact a4 r h
  exact .inr h
def F9{aw:Int}{ops:List gr}{notes:List ix}(h1:1<=aw/\aw<=1099511627776)(h2:ops.length<=64)(h3:notes.length<=4)(ho:∀o∈ops,kU o aw=true)(hn:∀m∈notes,jm m aw=true):eC ⟨aw,ops,notes⟩=true:=
 oF.2 ⟨⟨h1.1,h1.2,by show ops.length<=4096;omega,by show notes.length<=256;omega⟩,ho,hn⟩
def KT{n:Nat}{x:cD}(h:∀o∈x.ops,o.table<(n:Int)):sS n x=true:=by
 unfold sS;rw[zz3];exact λo ho=>zzm (h o ho)
def tW.empty{n:Nat}{aw:Int}(h:1<=aw/\aw<=1099511627776):tW n ⟨aw,[],[]⟩:=⟨⟨F9 h (zz9 _) (zz9 _) (λo ho=>by cases ho) (λo ho=>by cases ho),rfl,zz9 _,zz9 _⟩,λm hm=>by cases hm⟩
structure TkM(n:Nat)(ch:Int)(m:dD)(t:cF)(m':dD)(x:cD):Prop where
 ok:An n ch m'
 at_:m'.at_=t.aw
 late:m'.late=m.late
 aw:x.aw=t.aw
 it:tW n x
 nr:fY m.reqs x.notes=some m'.reqs
def An.take{n:Nat}{ch:Int}{m:dD}(h:An n ch m){t:cF}(hm:eg t=true)(hl:t.aw=m.at_+1)(hw:m.cB.waits t.kind t.mark=false)(n8:n<=8):(m.take t).2.2=0/\TkM n ch m t (m.take t).1 (m.take t).2.1:=by
 obtain⟨h1,h2,h3,h4,h5,h6,h7⟩:=mj hm;have il:=h.l4;unfold dD.take;rw[zzb (by rw[hm];decide),zzb (by rw[hw];rintro (h|h);exact h hl;cases h)];have lK:∀r∈m.reqs,r.table<(n:Int)/\r.at_<=t.aw:=λr hr=>by have:=h.rq r hr;exact⟨this.1,by omega⟩
 split
 ·refine⟨rfl,?_⟩;simp only;unfold dD.Az;simp only;obtain⟨_,a2,a3,a4,a5,a6⟩:=Hs t.aw t.signals {m with at_:=t.aw};obtain⟨b1,b2,b3,b4⟩:=P' (n:=n) h1.1 t.signals (m:={m with at_:=t.aw}) h.mP;generalize ({m with at_:=t.aw}:dD).fo t.aw t.signals=y at *
  refine⟨⟨a4.trans h.mP,by rw[a6];exact (by omega:0<=t.aw),by rw[a6];exact h1.2,a2 h.may,λr hr=>?_,?_⟩,a6,a5,rfl,⟨⟨?_,?_,?_,?_⟩,λx hx _=>(b3 x hx).2⟩,b1⟩
  ·rw[a6];rcases b4 r hr with hr|⟨c1,c2⟩
   ·exact lK r hr
   exact⟨c1,by rw[c2];exact yyf _⟩
  ·show jM n ch (y.1.cB.rP t.changes);rw[a3];exact h.cB.rP _
  ·have fh:(mn y.1 t.aw t.changes).length<=16:=by
    unfold mn;rw[zzn];exact yy2 (yyp _ _) h4
   refine F9 h1 (by omega) (by omega) (λo ho=>?_) λx hx=>(b3 x hx).1;unfold mn at ho;obtain⟨c,hc,rfl⟩:=zzx.1 ho;have:=xZ.1 (h6 c (yyz.1 hc).1);exact DB.2 ⟨h1.1,yyf _,this⟩
  ·refine KT λo ho=>?_;have ho:o∈mn y.1 t.aw t.changes:=ho;unfold mn at ho;obtain⟨c,hc,rfl⟩:=zzx.1 ho;have o_:=(yyz.1 hc).2;unfold dD.captured at o_;rw[zzu,zzw,a4]at o_
   have IK:c.table<m.tables:=o_.1.2;have ht:=h.mP;show c.table<(n:Int);omega
  ·show (mn y.1 t.aw t.changes).length<=64;unfold mn;rw[zzn];have:=yyp (λc=>y.1.captured c.table) t.changes;omega
  show y.2.length<=4;omega
 split
 ·refine⟨rfl,?_⟩;simp only;unfold dD.high;simp only;unfold dG.high;split
  ·rename_i hx;split at hx
   ·cases hx;exact⟨⟨h.mP,by show 0<=t.aw;omega,h1.2,h.may,lK,h.cB⟩,rfl,rfl,rfl,tW.empty h1,rfl⟩
   cases hx
  rename_i w x hx;split at hx
  ·cases hx
  rename_i hb;cases hx;unfold dG.uD at hb;have hs:m.cB.state=4:=by omega
  obtain⟨⟨v1,v2⟩,v3,v4,v5⟩:=h.cB.live (by omega);have hid:=h.cB.id;have TB:=h.cB.cur;have hlen:=h.cB.len;have dV:∀o∈ka m.cB t.aw,kU o t.aw=true/\o.table<(n:Int):=λo ho=>by
   unfold ka at ho;obtain⟨r,hr,rfl⟩:=zzx.1 ho;have:=h.cB.rows r hr;unfold sQ at this;exact⟨DB.2 ⟨h1.1,yyf _,v1,by show m.cB.table<8;omega,this.1,this.2.1,this.2.2,λhh=>by cases hh⟩,v2⟩
  have xI:(ka m.cB t.aw).length<=64:=by unfold ka;rw[zzn];exact hlen
  have hn:jm (rK m.cB) t.aw=true:=DA.2 ⟨v3,hid.2,.inr ⟨rfl,rfl,rfl,rfl,TB.1,TB.2⟩⟩;have Ux:jM n ch (mR m.cB.n):=by rw[h.cB.nn];exact jM.mR n ch
  split
  ·refine⟨⟨h.mP,by show 0<=t.aw;omega,h1.2,h.may,lK,Ux⟩,rfl,rfl,rfl,⟨⟨F9 h1 xI (zz9 _) (λo ho=>(dV o ho).1) (λo ho=>by cases ho),KT λo ho=>(dV o ho).2,xI,zz9 _⟩,λx hx=>by cases hx⟩,rfl⟩
  rename_i L hL;refine⟨⟨h.mP,by show 0<=t.aw;omega,h1.2,EA hL,λr hr=>?_,Ux⟩,rfl,rfl,rfl,⟨⟨F9 h1 xI (by show 1<=4;decide) (λo ho=>(dV o ho).1) (λo ho=>by rw[zz7.1 ho];exact hn),KT λo ho=>(dV o ho).2,xI,by show 1<=4;decide⟩,λx hx hk=>?_⟩,?_⟩
  ·obtain⟨r0,tI,e1,e2⟩:=RG hL r hr;have:=lK r0 tI;rw[e1,e2];exact this
  ·rw[zz7.1 hx]at hk
   exact absurd rfl hk
  show fY m.reqs [rK m.cB]=some L;unfold fY fY oG;rw[zzd (show (rK m.cB).kind=2 from rfl)];have hL:l6 m.reqs (rK m.cB).id (rK m.cB).dA (rK m.cB).done=some L:=hL;rw[hL]
 refine⟨rfl,⟨h.mP,by show 0<=t.aw;omega,h1.2,h.may,lK,h.cB.low _⟩,rfl,rfl,rfl,tW.empty h1,rfl⟩
abbrev nJ(j:Nat):Nat:=400000*(j+1)
structure CB(cf:dF)(kc:dM)(n j:Nat)(AL:List cF)(xs:List cD)(c:bW):Prop where
 dk:c.s.k.d.Ok (nJ j)
 ops:c.s.k.d.ops<=250*(j+1)
 al:AL.length<=j
 sg:iu c.k.g (nJ j)
 st1:∀C∈c.k.ts,nE C
 st2:∀C∈c.k.ts,C.length<=1000
 lU:c.k.ts.length=n
 kg:iu c.s.k.g (nJ j)
 run:runT n xs (rQ n)=some c.s.k.tr
 xl:xs.length<=j
 pl:c.s.k.plan.length<=1024
 mL:∀f∈c.s.k.plan,jc f=true
 wt:pC kc n c.s j
 eI:0<=c.s.eI/\c.s.eI<=4503599627370496
 mx:An n cf.chunk c.m
 late:c.m.late=cf.late
 dr:c.dr.Ok
 ids:∀m∈c.dr.l,m.1<=c.m.reqs.length
 q:∀t∈c.q,eg t=true
 ql:c.q.length<=kc.cap
 pos:0<=c.pos/\c.pos<=1099511627776
 last:0<=c.last/\c.last<=1099511627776
 due:0<=c.due/\c.due<=4503599627370496
 now:0<=c.now/\c.now<=1125899906842624
 dl:c.dy.length<=1024
 dw:∀x∈c.dy,0<=x/\x<=1125899906842624
def bW.kS(c:bW)(RS:List PF):cN:={c.k with d:={c.s.k.d with R:=RS}}
def bW.kK(c:bW)(RK:List PF):cM:={c.s.k with d:={c.s.k.d with R:=RK}}
structure CA(cf:dF)(kc:dM)(n j:Nat)(AL:List cF)(tr:Nat)(xs hd:List cD)(RS RK:List PF)(c:bW):Prop where
 off:c.s.k.d.off=false
 dR:c.s.k.d.R=RS++RK
 kv:KV n tr (nJ j) AL (c.kS RS)
 si:iX n (c.kK RK) xs none
 kw:rX RS (c.kK RK)
 kV:jL kc n c.s hd c.last c.m.reqs j
 mq:∀r∈c.s.k.reqs,r.table<(n:Int)/\r.at_<=c.s.k.aw
 tl:(tr:Int)<=c.s.k.aw
 la:c.last<=c.m.at_
 qp:c.pos=c.m.at_+c.q.length
 pl:c.pos<=AL.length
 qq:∀i (h:i<c.q.length),AL[c.m.at_.toNat+i]?=some c.q[i]
structure CD(n j:Nat)(AL:List cF)(t:Option cF)(tr:Nat)(xs:List cD)(m:Option cD)(RS RK:List PF)(c:bW):Prop where
 dR:c.s.k.d.R=RS++RK
 kd:KD n tr (nJ j) AL t {c.s.k.d with R:=RS}
 sd:∃o,iX n {c.s.k with d:={c.s.k.d with R:=RK,off:=o}} xs m
 kb:∀x∈RK,8192<=x.id/\x.id<12288
 nx:∀t',(t'=c.s.k.tr\/∃x,m=some x/\stepT n c.s.k.tr x=some t')->(∀r∈t'.2.1,r.table<(n:Int)/\r.at_<=t'.2.2)/\(tr:Int)<=t'.2.2/\t'.2.2<=AL.length
def eG(cf:dF)(kc:dM)(n j:Nat)(AL:List cF)(c:bW):Prop:=∃tr xs hd RS RK,CB cf kc n j AL xs c/\CA cf kc n j AL tr xs hd RS RK c
def mw(cf:dF)(kc:dM)(n j:Nat)(AL:List cF)(c:bW):Prop:=c.s.k.d.off=true/\∃tr xs t m RS RK,CB cf kc n j AL xs c/\CD n j AL t tr xs m RS RK c
def CS(cf:dF)(kc:dM)(n j:Nat)(AL:List cF)(c:bW):Prop:=eG cf kc n j AL c\/mw cf kc n j AL c
section
variable {cf:dF} {kc:dM} {n j:Nat} {AL:List cF} {tr:Nat} {xs hd:List cD} {RS RK:List PF} {c:bW}
def Bx(j:Nat):nJ j<=nJ (j+1):=uu0 _ (by omega)
def vX(j:Nat):nJ j=400000*j+400000:=by show 400000*(j+1)=_;omega
def JX(j:Nat):nJ (j+1)=nJ j+400000:=by show 400000*(j+1+1)=400000*(j+1)+400000;omega
def CB.mono(h:CB cf kc n j AL xs c):CB cf kc n (j+1) AL xs c:=
 ⟨h.dk.mono (Bx j),by have:=h.ops;omega,by have:=h.al;omega,h.sg.mono (Bx j),h.st1,h.st2,h.lU,h.kg.mono (Bx j),h.run,by have:=h.xl;omega,h.pl,h.mL,h.wt.mono (by omega),h.eI,h.mx,h.late,h.dr,h.ids,h.q,h.ql,h.pos,h.last,h.due,h.now,h.dl,h.dw⟩
def CA.mono(h:CA cf kc n j AL tr xs hd RS RK c):CA cf kc n (j+1) AL tr xs hd RS RK c:=
 ⟨h.off,h.dR,h.kv.mono (Bx j),h.si,h.kw,h.kV.mono (by omega),h.mq,h.tl,h.la,h.qp,h.pl,h.qq⟩
def CD.mono{t:Option cF}{m:Option cD}(h:CD n j AL t tr xs m RS RK c):CD n (j+1) AL t tr xs m RS RK c:=⟨h.dR,h.kd.mono (Bx j),h.sd,h.kb,h.nx⟩
def eG.mono(h:eG cf kc n j AL c):eG cf kc n (j+1) AL c:=by
 obtain⟨tr,xs,hd,RS,RK,hb,ha⟩:=h;exact⟨tr,xs,hd,RS,RK,hb.mono,ha.mono⟩
def mw.mono(h:mw cf kc n j AL c):mw cf kc n (j+1) AL c:=by
 obtain⟨ho,tr,xs,t,m,RS,RK,hb,hd⟩:=h;exact⟨ho,tr,xs,t,m,RS,RK,hb.mono,hd.mono⟩
def CS.mono(h:CS cf kc n j AL c):CS cf kc n (j+1) AL c:=h.imp eG.mono mw.mono
def DS.split{d:DS}{A B:List PF}(h:d.R=A++B):d={d with R:=A++B}:=by
 cases d;simp only at h;subst h;rfl
def CA.KC(h:CA cf kc n j AL tr xs hd RS RK c):c.src=(c.kS RS).fe RK:=by
 unfold bW.src bW.kS cN.fe dh;simp only[zzr];rw[<- DS.split h.dR]
def CA.cBr(h:CA cf kc n j AL tr xs hd RS RK c):c.s.k=(c.kK RK).fe RS:=by
 unfold bW.kK cM.fe dh;simp only[zz1];rw[<- DS.split h.dR]
def CA.hB(h:CA cf kc n j AL tr xs hd RS RK c):∀x∈RK,8192<=x.id:=λx hx=>(h.kw.w.m x hx).1
def WE{xs:List cD}{t:Tr}(h:runT n xs (rQ n)=some t)(hl:xs.length<=240):TX t n 4:=by
 have:=TX.run (n:=n) xs (rQ n) t (244-xs.length) (by rw[show 244-xs.length+xs.length=244 by omega];exact TX.zero n 244 (by decide)) h;exact⟨⟨this.k.len,this.k.ok,W6 this.k.room (by omega),this.k.rq⟩,this.l0,this.l1,this.rq⟩
def CB.kok(h:CB cf kc n j AL xs c)(hj:j<=190)(n8:n<=8):B5 c.s.k (nJ j) 4:=by
 have ht:=WE h.run (by have:=h.xl;omega);have ho:=h.ops;have gM:c.s.k.ts.length=n:=ht.k.len;have Ba:=vX j;exact⟨h.kg,h.dk,by omega,by omega,h.pl,h.mL,by omega,ht.k.ok,ht.k.room,ht.k.rq⟩
def CB.DW(h:CB cf kc n j AL xs c)(n1:1<=n)(n8:n<=8):jy c.src (nJ j):=⟨h.sg,h.dk,h.st1,h.st2,by rw[show c.src.ts=c.k.ts from rfl,h.lU];exact n1,by rw[show c.src.ts=c.k.ts from rfl,h.lU];exact n8⟩
def CB.S6(h:CB cf kc n j AL xs c)(hc:CC cf kc n):(c.lA cf).Good (nJ j):=by
 have hm:=h.mx;have Is:=hc.wF;have hn:=hm.cB.nn;have ht:=hm.mP;have h1:=hc.n1;have h8:=hc.n8;exact⟨hm.may,⟨by show 1<=c.m.tables;omega,by show c.m.tables<=8;omega⟩,⟨hm.l4,hm.oP⟩,by show c.m.cB.n<=64;omega,hm.cB.len,hm.cB.id,h.dr,h.ids,⟨hc.c1,hc.wF⟩,h.DW hc.n1 hc.n8⟩
def CA.nx(h:CA cf kc n j AL tr xs hd RS RK c):(∀r∈c.s.k.reqs,r.table<(n:Int)/\r.at_<=c.s.k.aw)/\(tr:Int)<=c.s.k.aw/\c.s.k.aw<=AL.length:=by
 have h1:=h.kV.aw;have h2:=h.la;have h3:=h.qp;have h4:=h.pl;exact⟨h.mq,h.tl,by omega⟩
def CA.dead(h:CA cf kc n j AL tr xs hd RS RK c):CD n j AL none tr xs none RS RK c:=by
 refine⟨h.dR,h.kv.dead,⟨false,h.si.wd rfl ?_⟩,λx hx=>h.kw.w.m x hx,λt' ht=>?_⟩
 ·show false=c.s.k.d.off;rw[h.off]
 rcases ht with rfl|⟨x,hx,_⟩
 ·exact h.nx
 cases hx
def KV.ids{n tr N:Nat}{AL:List cF}{k:cN}(h:KV n tr N AL k):∀x∈k.d.R,x.id<8192:=λx hx=>((h.BP (B:=[]) (λx hx=>by cases hx)).w.m x hx).2
def CA.jI(h:CA cf kc n j AL tr xs hd RS RK c){k':cN}{eT:List cF}{Ae:Nat}(hk:KV n Ae (nJ (j+1)) eT k')(mh:(Ae:Int)<=c.s.k.aw)(hA:eT=AL\/∃x,eT=AL++[x]):CA cf kc n (j+1) eT Ae xs hd k'.d.R RK (c.jI (k'.fe RK)):=by
 have hid:=hk.ids;have pX:∀(i:Nat) (t:cF),AL[i]?=some t->eT[i]?=some t:=λi t e=>by
  rcases hA with rfl|⟨x,rfl⟩
  ·exact e
  rw[zzs (zzf.1 e).1];exact e
 have hlen:AL.length<=eT.length:=by
  rcases hA with rfl|⟨x,rfl⟩
  ·exact zzj _
  rw[zza];omega
 refine⟨hk.off,rfl,hk,h.si.wd rfl (hk.off.trans h.off.symm),⟨⟨hid,h.kw.w.m,λx hx=>(by cases hx)⟩,h.kw.g⟩,?_,h.mq,mh,h.la,h.qp,by have:=h.pl;show c.pos<=_;omega,λi hi=>pX _ _ (h.qq i hi)⟩;have hp:=h.kV;exact⟨hp.it,hp.jR,hp.le,hp.hn,hp.held,hp.room,hp.out,hp.l0,hp.aw,hp.st,hp.f0,by have:=hp.f1;show c.s.fL<=_;omega⟩
def CA.W4(h:CA cf kc n j AL tr xs hd RS RK c){k':cN}{t:Option cF}{Ae:Nat}(hk:KD n Ae (nJ (j+1)) AL t k'.d)(mh:(Ae:Int)<=c.s.k.aw):CD n (j+1) AL t Ae xs none k'.d.R RK (c.jI (k'.fe RK)):=by
 refine⟨rfl,hk,⟨false,?_⟩,λx hx=>h.kw.w.m x hx,λt' ht=>?_⟩
 ·exact h.si.wd (d':={dh [] RK k'.d with R:=RK,off:=false}) rfl h.off.symm
 rcases ht with rfl|⟨x,hx,_⟩
 ·exact⟨h.mq,mh,h.nx.2.2⟩
 cases hx
def CB.jI(h:CB cf kc n j AL xs c){k':cN}{eT:List cF}(hs:jy k' (nJ (j+1)))(gM:k'.ts.length=n)(dV:k'.d.ops<=250*(j+2))(hA:eT.length<=j+1):CB cf kc n (j+1) eT xs (c.jI k'):=by
 have hm:=h.mono;have hw:=hm.wt;exact⟨hs.d,dV,hA,hs.g,hs.rows,hs.len,gM,hm.kg,hm.run,hm.xl,hm.pl,hm.mL,⟨hw.Ax,hw.cap,hw.vW,hw.cJ,hw.it,hw.jR,hw.room,hw.out,hw.held,hw.f0,hw.f1⟩,hm.eI,hm.mx,hm.late,hm.dr,hm.ids,hm.q,hm.ql,hm.pos,hm.last,hm.due,hm.now,hm.dl,hm.dw⟩
def aF3(k:cN)(t:cF):(k.fU t).1.ts.length=k.ts.length:=by
 unfold cN.fU;split
 ·rfl
 split
 ·rfl
 simp only;split
 ·exact ud _ _
 rfl
def eG.fU(h:eG cf kc n j AL c)(hc:CC cf kc n)(hj:j<=190){t:cF}(hm:eg t=true)(l_:∀x∈t.changes,ij n x=true):
  (∃k',c.src.fU t=(k',((AL.length:Int)+1,0))/\eG cf kc n (j+1) (AL++[mB t AL.length]) (c.jI k')) \/
  (∃k',c.src.fU t=(k',(0,8))/\mw cf kc n (j+1) AL (c.jI k')) \/
  (c.src.fU t=(c.src,(0,7))/\k_ (fB n AL) t.changes=false):=by
 obtain⟨tr,xs,hd,RS,RK,hb,ha⟩:=h;have hw:=Q_ (ha.kv.BP ha.hB) t;have vA:=hb.al;have fh:=hb.ops;have T7:=JX j;have ng:=(hb.DW hc.n1 hc.n8).add hm;have gM:=aF3 c.src t;have gM:(c.src.fU t).1.ts.length=n:=gM.trans hb.lU;rw[ha.KC]at ng gM ⊢
 rcases ha.kv.add (by omega) hm l_ with ⟨k',e,hk,_,ho⟩|⟨k',e,ho,hk,_,vO⟩|⟨e,hf⟩
 ·rw[e]at hw
  rw[hw.1]at ng gM ⊢
  have ho:k'.d.ops<=c.s.k.d.ops+2:=ho;refine .inl ⟨_,rfl,tr,xs,hd,_,RK,?_,ha.jI (hk.mono (by omega)) ha.tl (.inr ⟨_,rfl⟩)⟩;exact hb.jI (ng.mono (by omega)) gM (by show k'.d.ops<=_;omega) (by rw[zza,yya];omega)
 ·rw[e]at hw
  rw[hw.1]at ng gM ⊢
  have vO:k'.d.ops<=c.s.k.d.ops+2:=vO;refine .inr (.inl ⟨_,rfl,ho,tr,xs,some (mB t AL.length),none,_,RK,?_,ha.W4 (hk.mono (by omega)) ha.tl⟩);exact hb.jI (ng.mono (by omega)) gM (by show k'.d.ops<=_;omega) (by omega)
 rw[e]at hw
 exact .inr (.inr ⟨hw.1,hf⟩)
def bwr(k:cN):k.gR.1.ts=k.ts:=by
 unfold cN.gR;simp only;split<;>rfl
def cDs(k:cN)(aw:Int):(k.gZ aw).1.ts=k.ts:=by
 unfold cN.gZ;split
 ·rfl
 split
 ·rfl
 have:(if k.image<aw then k.gR else (k,0)).1.ts=k.ts:=by
  split
  ·exact bwr k
  rfl
 simp only;generalize (if k.image<aw then k.gR else (k,0))=r at *
 split
 ·exact this
 exact this
def eG.trim(h:eG cf kc n j AL c)(hc:CC cf kc n)(hj:j<=190):(c.trim.2=0/\eG cf kc n (j+1) AL c.trim.1)\/(c.trim.2≠0/\mw cf kc n (j+1) AL c.trim.1):=by
 obtain⟨tr,xs,hd,RS,RK,hb,ha⟩:=h;obtain⟨aw,hl⟩:=wwg ha.kV.l0;have hle:aw<=AL.length:=by have:=ha.nx.2.2;omega
 have mh:=ha.tl;have hw:=cDt (ha.kv.BP ha.hB) (aw:Int);have vA:=hb.al;have fh:=hb.ops;have T7:=JX j;have ng:=(hb.DW hc.n1 hc.n8).trim (aw:Int);have gM:(c.src.gZ aw).1.ts.length=n:=by rw[cDs];exact hb.lU
 unfold bW.trim;rw[hl];rw[ha.KC]at ng gM ⊢
 rcases ha.kv.trim hc.n1 hc.n8 hle with ⟨k',e,hk,_,ho⟩|⟨k',e',e,he,ho,hk,_,vO⟩
 ·rw[e]at hw
  rw[hw.1]at ng gM ⊢
  have ho:k'.d.ops<=c.s.k.d.ops+(AL.length+5):=ho;refine .inl ⟨rfl,max tr aw,xs,hd,_,RK,?_,ha.jI (hk.mono (by omega)) (by rw[hl];omega) (.inl rfl)⟩;exact hb.jI (ng.mono (by omega)) gM (by show k'.d.ops<=_;omega) (by omega)
 rw[e]at hw
 rw[hw.1]at ng gM ⊢
 have vO:k'.d.ops<=c.s.k.d.ops+(AL.length+5):=vO;refine .inr ⟨he,ho,max tr aw,xs,none,none,_,RK,?_,ha.W4 (hk.mono (by omega)) (by rw[hl];omega)⟩;exact hb.jI (ng.mono (by omega)) gM (by show k'.d.ops<=_;omega) (by omega)
end
section
variable {cf:dF} {kc:dM} {n j:Nat} {AL:List cF} {tr:Nat} {xs hd:List cD} {RS RK:List PF} {c:bW}
def CA.head(h:CA cf kc n j AL tr xs hd RS RK c):c.head=AL.length:=h.kv.head
def CA.ord(h:CA cf kc n j AL tr xs hd RS RK c):(tr:Int)<=c.s.k.aw/\c.s.k.aw<=c.last/\c.last<=c.m.at_/\c.m.at_<=c.pos/\c.pos<=AL.length/\0<=c.s.k.aw:=by
 have:=h.kV.aw;have:=h.qp;exact⟨h.tl,h.kV.aw,h.la,by omega,h.pl,h.kV.l0⟩
def wQ{comp:Int}(h:c.en kc comp=true):c.s.k.d.off=false:=by
 unfold bW.en at h;split at h
 ·cases h
 rename_i h1;simpa using h1
def eG.read(h:eG cf kc n j AL c)(he:c.en kc 0=true):∃t,c.src.gX (c.pos+1)= .ok t/\eg t=true/\c.read=({c with q:=c.q++[t],pos:=c.pos+1},⟨0,0,1⟩)/\eG cf kc n (j+1) AL c.read.1:=by
 obtain⟨tr,xs,hd,RS,RK,hb,ha⟩:=h;have ho:=wQ he;unfold bW.en at he;rw[zzb (by rw[ho];decide),zzd rfl,zzw,ha.head]at he
 obtain⟨o1,o2,o3,o4,o5,o6⟩:=ha.ord;obtain⟨p,hp⟩:=wwg hb.pos.1;have dW:p<AL.length:=by omega
 have hr:c.src.gX (c.pos+1)= .ok AL[p]:=by
  rw[hp];exact ha.kv.read (j:=p) (by omega) dW
 have j6:=ha.kv.lI.ok.may _ (zzh dW);have vA:=hb.al;have dJ:c.read=({c with q:=c.q++[AL[p]],pos:=c.pos+1},⟨0,0,1⟩):=by unfold bW.read;rw[hr]
 refine⟨AL[p],hr,j6,dJ,?_⟩;rw[dJ];have hm:=hb.mono;have fG:=ha.mono;have hlen:=ha.kv.lI.len;refine⟨tr,xs,hd,RS,RK,⟨hm.dk,hm.ops,hm.al,hm.sg,hm.st1,hm.st2,hm.lU,hm.kg,hm.run,hm.xl,hm.pl,hm.mL,hm.wt,hm.eI,hm.mx,hm.late,hm.dr,hm.ids,λt ht=>?_,?_,?_,hm.last,hm.due,hm.now,hm.dl,hm.dw⟩,⟨fG.off,fG.dR,fG.kv,fG.si,fG.kw,fG.kV,fG.mq,fG.tl,fG.la,?_,?_,λi hi=>?_⟩⟩
 ·rcases zz5.1 ht with ht|ht
  ·exact hm.q t ht
  rw[zz7.1 ht];exact j6
 ·show (c.q++[AL[p]]).length<=kc.cap;rw[zza,yya];omega
 ·show 0<=c.pos+1/\c.pos+1<=_;omega
 ·show c.pos+1=c.m.at_+((c.q++[AL[p]]).length:Nat);rw[zza,yya];have:=ha.qp;omega
 ·show c.pos+1<=(AL.length:Int);omega
 show AL[c.m.at_.toNat+i]?=some (c.q++[AL[p]])[i];have hi:i<(c.q++[AL[p]]).length:=hi;rw[zza,yya]at hi
 have hq:=ha.qp;by_cases h1:i<c.q.length
 ·rw[www h1];exact ha.qq i h1
 have:i=c.q.length:=by omega
 subst this;rw[vvd (zzj _)];simp only[Nat.sub_self,List.getElem_singleton];rw[show c.m.at_.toNat+c.q.length=p by omega,zzc dW]
def bw8(he:c.en kc 1=true):∃t q,c.q=t::q/\0<c.jV kc/\c.m.cB.waits t.kind t.mark=false:=by
 have ho:=wQ he;unfold bW.en at he;rw[zzb (by rw[ho];decide),zzb (by decide),zzd rfl]at he
 cases hq:c.q with
 | nil=>rw[hq]at he;cases he
 | cons t q=>
  rw[hq]at he
  simp only[zzu,zzw,wwk]at he;exact⟨t,q,rfl,he.1,he.2⟩
def eG.take(h:eG cf kc n j AL c)(hc:CC cf kc n)(he:c.en kc 1=true):∃t q m' x,c.q=t::q/\eg t=true/\0<c.jV kc/\c.m.take t=(m',(x,0))/\eC x=true/\x.aw=t.aw/\c.take=(({c with q:=q,m:=m'}:bW).Ad x,⟨0,0,2⟩)/\eG cf kc n (j+1) AL c.take.1:=by
 obtain⟨tr,xs,hd,RS,RK,hb,ha⟩:=h;obtain⟨t,q,hq,ma,hw⟩:=bw8 he;obtain⟨o1,o2,o3,o4,o5,o6⟩:=ha.ord;have j6:=hb.q t (by rw[hq];exact .head _);have cN4:=hb.mx.l4;have Uj:=ha.qp;have kB:t.aw=c.m.at_+1:=by
  have h1:=ha.qq 0 (by rw[hq];simp);simp only[hq,vvn]at h1;obtain⟨h2,h3⟩:=zzf.1 h1;have:=ha.kv.lI.ok.aw _ h2;rw[h3]at this
  omega
 obtain⟨e0,hT⟩:=hb.mx.take j6 kB hw hc.n8;have hk:=(cC2 (t:=t) hb.mx.may hb.mx.cB.len (by rw[hb.mx.cB.nn];exact hc.wF) hb.mx.cB.id ⟨hb.mx.l4,hb.mx.oP⟩).1;obtain⟨m',x,e,sF⟩:∃m' x e,c.m.take t=(m',(x,e)):=⟨_,_,_,rfl⟩;rw[sF]at e0 hT hk
 simp only at e0 hT hk;subst e0;have rE:c.take=(({c with q:=q,m:=m'}:bW).Ad x,⟨0,0,2⟩):=by unfold bW.take;rw[hq];simp only[sF]
 refine⟨t,q,m',x,hq,j6,ma,sF,hT.it.w.may,hT.aw,rE,?_⟩;rw[rE];have hm:=hb.mono;have fG:=ha.mono;have j7:=hT.aw;have C9:=hT.at_;have hlen:=ha.kv.lI.len;have FJ:=hb.ql;rw[hq]at Uj FJ
 simp only[zzi]at Uj FJ;have Ui:∀y∈q,eg y=true:=λy hy=>hb.q y (by rw[hq];exact .tail _ hy);have vG:∀m∈c.dr.l,m.1<=(m'.reqs.length:Int):=λm vM=>by have:=hb.ids m vM;omega
 have Uk:∀i (hi:i<q.length),AL[m'.at_.toNat+i]?=some q[i]:=λi hi=>by
  have h1:=ha.qq (i+1) (by rw[hq];simp;omega);simp only[hq,vvp]at h1;rw[show m'.at_.toNat+i=c.m.at_.toNat+(i+1) by rw[C9,kB];omega];exact h1
 unfold bW.Ad;split
 ·rename_i dQ;have hp:=ha.kV.put hT.it (by rw[j7,kB];omega) hT.nr (by unfold bW.jV at ma;omega);have Dd:=hp.mono (show j<=j+1 by omega);have uG:max c.last x.aw=x.aw:=by rw[j7,kB];omega
  refine⟨tr,xs,hd,RS,RK,⟨hm.dk,hm.ops,hm.al,hm.sg,hm.st1,hm.st2,hm.lU,hm.kg,hm.run,hm.xl,hm.pl,hm.mL,Dd.inv hc,hm.eI,hT.ok,hT.late.trans hb.late,hm.dr,vG,Ui,by show q.length<=_;omega,hm.pos,?_,hm.due,hm.now,hm.dl,hm.dw⟩,⟨fG.off,fG.dR,fG.kv,fG.si,fG.kw,?_,fG.mq,fG.tl,?_,?_,ha.pl,Uk⟩⟩
  ·show 0<=max c.last x.aw/\max c.last x.aw<=_;rw[uG,j7];have:=(mj j6).1;omega
  ·show jL kc n _ hd (max c.last x.aw) m'.reqs (j+1);rw[uG];exact Dd
  ·show max c.last x.aw<=m'.at_;rw[uG,C9,j7];exact yyf _
  show c.pos=m'.at_+q.length;rw[C9,kB];omega
 rename_i dQ;have I9:x.notes=[]:=wwh.1 (by omega);have hR:m'.reqs=c.m.reqs:=by
  have:=hT.nr;rw[I9]at this
  exact (wwc this).symm
 refine⟨tr,xs,hd,RS,RK,⟨hm.dk,hm.ops,hm.al,hm.sg,hm.st1,hm.st2,hm.lU,hm.kg,hm.run,hm.xl,hm.pl,hm.mL,hm.wt,hm.eI,hT.ok,hT.late.trans hb.late,hm.dr,vG,Ui,by show q.length<=_;omega,hm.pos,hm.last,hm.due,hm.now,hm.dl,hm.dw⟩,⟨fG.off,fG.dR,fG.kv,fG.si,fG.kw,?_,fG.mq,fG.tl,?_,?_,ha.pl,Uk⟩⟩
 ·show jL kc n c.s hd c.last m'.reqs (j+1);rw[hR];exact fG.kV
 ·show c.last<=m'.at_;rw[C9,kB];omega
 show c.pos=m'.at_+q.length;rw[C9,kB];omega
def CB.sV(h:CB cf kc n j AL xs c){w:dG}{dr:dB}(hw:jM n cf.chunk w)(hd:dr.Ok)(hi:∀m∈dr.l,m.1<=c.m.reqs.length):CB cf kc n j AL xs {c with m:={c.m with cB:=w},dr:=dr}:=
 ⟨h.dk,h.ops,h.al,h.sg,h.st1,h.st2,h.lU,h.kg,h.run,h.xl,h.pl,h.mL,h.wt,h.eI,⟨h.mx.mP,h.mx.l4,h.mx.oP,h.mx.may,h.mx.rq,hw⟩,h.late,hd,hi,h.q,h.ql,h.pos,h.last,h.due,h.now,h.dl,h.dw⟩
def CA.sV(h:CA cf kc n j AL tr xs hd RS RK c)(w:dG)(dr:dB):CA cf kc n j AL tr xs hd RS RK {c with m:={c.m with cB:=w},dr:=dr}:=⟨h.off,h.dR,h.kv,h.si,h.kw,h.kV,h.mq,h.tl,h.la,h.qp,h.pl,h.qq⟩
def eG.sV(h:eG cf kc n j AL c){w:dG}{dr:dB}(hw:jM n cf.chunk w)(hd:dr.Ok)(hi:∀m∈dr.l,m.1<=c.m.reqs.length):eG cf kc n j AL {c with m:={c.m with cB:=w},dr:=dr}:=by
 obtain⟨tr,xs,mG,RS,RK,hb,ha⟩:=h;exact⟨tr,xs,mG,RS,RK,hb.sV hw hd hi,ha.sV w dr⟩
def mw.sV(h:mw cf kc n j AL c){w:dG}{dr:dB}(hw:jM n cf.chunk w)(hd:dr.Ok)(hi:∀m∈dr.l,m.1<=c.m.reqs.length):mw cf kc n j AL {c with m:={c.m with cB:=w},dr:=dr}:=by
 obtain⟨ho,tr,xs,t,m,RS,RK,hb,h⟩:=h;exact⟨ho,tr,xs,t,m,RS,RK,hb.sV hw hd hi,⟨h.dR,h.kd,h.sd,h.kb,h.nx⟩⟩
def eG.self(h:eG cf kc n j AL c):eG cf kc n j AL (c.jI c.src):=by
 obtain⟨tr,xs,hd,RS,RK,h,a⟩:=h;exact⟨tr,xs,hd,RS,RK,⟨h.dk,h.ops,h.al,h.sg,h.st1,h.st2,h.lU,h.kg,h.run,h.xl,h.pl,h.mL,h.wt,h.eI,h.mx,h.late,h.dr,h.ids,h.q,h.ql,h.pos,h.last,h.due,h.now,h.dl,h.dw⟩,⟨a.off,a.dR,a.kv,a.si,a.kw,a.kV,a.mq,a.tl,a.la,a.qp,a.pl,a.qq⟩⟩
def bZp{kind mark:Int}(hk:kind=2\/kind=3)(hm:1<=mark/\mark<=1099511627776):eg ⟨1,kind,[],[],mark⟩=true:=vU.2 ⟨⟨yyf _,show (1:Int)<=1099511627776 by decide⟩,.inr ⟨hk,hm.1,hm.2,rfl,rfl⟩⟩
def eG.mark(h:eG cf kc n j AL c)(hc:CC cf kc n)(hj:j<=190){kind mark:Int}(hk:kind=2\/kind=3)(hm:1<=mark/\mark<=1099511627776):
  (∃k' x,c.src.j9 kind mark=(k',((AL.length:Int)+1,0))/\eG cf kc n (j+1) (AL++[x]) (c.jI k'))\/(∃k',c.src.j9 kind mark=(k',(0,8))/\mw cf kc n (j+1) AL (c.jI k')):=by
 have sF:=bZp hk hm;have e:c.src.j9 kind mark=c.src.fU ⟨1,kind,[],[],mark⟩:=by unfold cN.j9;rw[zzd ⟨hk,sF⟩]
 rw[e];have bU4:mA n AL:=by obtain⟨_,_,_,_,_,_,ha⟩:=h;exact ha.kv.lI
 rcases h.fU hc hj sF (λx hx=>by cases hx) with ⟨k',e1,h1⟩|⟨k',e1,h1⟩|⟨_,hf⟩
 ·exact .inl ⟨k',_,e1,h1⟩
 ·exact .inr ⟨k',e1,h1⟩
 exfalso;have:k_ (fB n AL) []=true:=by
  unfold k_;rw[zzu,zz3,zz3];exact⟨λx hx=>(by cases hx),λC hC=>zzm (bU4.mP.2 C hC)⟩
 rw[this]at hf
 cases hf
def aF7{C:List Row}(h:nE C)(key m:Int):∀r∈od C key m,sQ r:=λr hr=>by
 unfold od at hr;exact h.rows r (yyz.1 (yyr hr)).1
def eG.snap(h:eG cf kc n j AL c)(hc:CC cf kc n)(hj:j<=190)(he:c.en kc 2=true):
  (∃eT,eG cf kc n (j+1) eT (c.snap cf).1/\(eT=AL\/∃x,eT=AL++[x])/\((c.snap cf).2=⟨0,0,3⟩\/(c.snap cf).2=⟨0,0,4⟩\/(c.snap cf).2=⟨0,0,5⟩))\/(mw cf kc n (j+1) AL (c.snap cf).1/\(c.snap cf).2=⟨8,0,0⟩):=by
 have ho:=wQ he;obtain⟨tr,xs,hd,RS,RK,hb,ha⟩:=id h;have IT:=hb.S6 hc;unfold bW.en at he;rw[zzb (by rw[ho];decide),zzb (by decide),zzb (by decide),zzd rfl]at he
 have rG:=hb.mx.cB;have lh:=ha.head;have vA:=hb.al;unfold bW.snap eW.step;rw[zzb (by rw[show (c.lA cf).m=c.m from rfl,he];decide)];rw[show (c.lA cf).m=c.m from rfl];have fS:=rG.st;by_cases h0:c.m.cB.state=0
 ·rw[zzd h0];have fh:iW c.m.reqs≠[]:=by
   unfold DP at he;rw[zzw]at he
   rcases he with e|e|e
   ·omega
   ·omega
   exact e.2
  obtain⟨r,hr,Jh,cOy⟩:=IT.nm fh;obtain⟨Di,xK⟩:=IT.row;have vC:(mo c.dr c.m.reqs).next.1.Ok:=Di.next;have mH:∀m∈(mo c.dr c.m.reqs).next.1.l,m.1<=c.m.reqs.length:=by rw[b_s];exact xK
  have hr:uU c.m.reqs (mo c.dr c.m.reqs).next.2=some r:=hr;have FK:=hb.mx.rq r Jh;unfold eW.uQ eW.uR eW.Bv;rw[show (c.lA cf).m=c.m from rfl,show (c.lA cf).d=c.dr from rfl,show (c.lA cf).k=c.src from rfl,hr];simp only;have hh:cI c.src.g.bF=AL.length:=lh;rw[hh];rcases h.mark hc hj (kind:=2) (mark:=(AL.length:Int)+1) (.inl rfl) (by omega) with ⟨k',x,e,h1⟩|⟨k',e,h1⟩
  ·rw[e];simp only;rw[zzb (by decide)];exact .inl ⟨_,h1.sV (rG.tQ FK.1) vC mH,.inr ⟨x,rfl⟩,.inl rfl⟩
  rw[e];simp only;rw[zzd (by decide)];exact .inr ⟨h1.sV rG vC mH,rfl⟩
 rw[zzb h0];by_cases h1:c.m.cB.state=1
 ·rw[zzd h1];have bWh:∀r∈c.src.wL c.m.cB.table c.m.cB.after cf.chunk,sQ r:=by
   unfold cN.wL;have ht:=(rG.live h0).1;exact aF7 (hb.st1 _ (DY (by show 0<=c.m.cB.table/\c.m.cB.table<(c.k.ts.length:Int);rw[hb.lU];exact ht))) _ _
  exact .inl ⟨AL,(h.self.sV (rG.fill hc.wF bWh) hb.dr hb.ids).mono,.inl rfl,.inr (.inl rfl)⟩
 rw[zzb h1];unfold eW.A4;rw[show (c.lA cf).m=c.m from rfl,show (c.lA cf).k=c.src from rfl];simp only;have FF:=(rG.live h0).2.2;rcases h.mark hc hj (kind:=3) (mark:=c.m.cB.mark) (.inr rfl) FF with ⟨k',x,e,h2⟩|⟨k',e,h2⟩
 ·rw[e];simp only;rw[zzb (by decide)];exact .inl ⟨_,h2.sV rG.shut hb.dr hb.ids,.inr ⟨x,rfl⟩,.inr (.inr rfl)⟩
 rw[e];simp only;rw[zzd (by decide)];exact .inr ⟨h2.sV rG hb.dr hb.ids,rfl⟩
def eG.tell(h:eG cf kc n j AL c)(hc:CC cf kc n)(he:c.en kc 4=true):eG cf kc n (j+1) AL (c.tell cf).1/\((c.m.at_<=c.last/\(c.tell cf).2=⟨0,0,9⟩)\/(c.last<c.m.at_/\0<c.jV kc/\eC ⟨c.m.at_,[],[]⟩=true/\(c.tell cf).2=⟨0,0,8⟩)):=by
 have ho:=wQ he;obtain⟨tr,xs,hd,RS,RK,hb,ha⟩:=h;unfold bW.en at he;rw[zzb (by rw[ho];decide),zzb (by decide),zzb (by decide),zzb (by decide),zzb (by decide),zzd rfl,zzw]at he
 have hm:=hb.mono;have fG:=ha.mono;have Fp:0<=jf cf.every c.now/\jf cf.every c.now<=4503599627370496:=by
  have:=hc.e1;have:=hc.e2;have:=hb.now;unfold jf;omega
 have hla:=hb.last;have il:=hb.mx.oP;unfold bW.tell;split
 ·rename_i hl;exact⟨⟨tr,xs,hd,RS,RK,⟨hm.dk,hm.ops,hm.al,hm.sg,hm.st1,hm.st2,hm.lU,hm.kg,hm.run,hm.xl,hm.pl,hm.mL,hm.wt,hm.eI,hm.mx,hm.late,hm.dr,hm.ids,hm.q,hm.ql,hm.pos,hm.last,Fp,hm.now,hm.dl,hm.dw⟩,⟨fG.off,fG.dR,fG.kv,fG.si,fG.kw,fG.kV,fG.mq,fG.tl,fG.la,fG.qp,fG.pl,fG.qq⟩⟩,.inl ⟨hl,rfl⟩⟩
 rename_i hl;have ma:0<c.jV kc:=by omega
 have FC:tW n ⟨c.m.at_,[],[]⟩:=tW.empty (by omega);have hp:=ha.kV.put FC (R':=c.m.reqs) (by show c.last<c.m.at_;omega) rfl (by unfold bW.jV at ma;omega);have Dd:=hp.mono (show j<=j+1 by omega);exact⟨⟨tr,xs,hd,RS,RK,⟨hm.dk,hm.ops,hm.al,hm.sg,hm.st1,hm.st2,hm.lU,hm.kg,hm.run,hm.xl,hm.pl,hm.mL,Dd.inv hc,hm.eI,hm.mx,hm.late,hm.dr,hm.ids,hm.q,hm.ql,hm.pos,⟨hb.mx.l4,il⟩,Fp,hm.now,hm.dl,hm.dw⟩,⟨fG.off,fG.dR,fG.kv,fG.si,fG.kw,Dd,fG.mq,fG.tl,yyf _,fG.qp,fG.pl,fG.qq⟩⟩,.inr ⟨by omega,ma,FC.w.may,rfl⟩⟩
end
def J0{n:Nat}{b:Int}:∀(A:List ix) {L L':List Rq},fY L A=some L'->(∀r∈L,r.table<(n:Int)/\r.at_<=b)->(∀m∈A,jm m b=true/\(m.kind≠2->m.table<(n:Int)))->∀r∈L',r.table<(n:Int)/\r.at_<=b
 | [],L,L',h,hL,_=>by cases h;exact hL
 | m::A,L,L',h,hL,hA=>by
  unfold fY at h;cases hn:oG L m with
  | none=>rw[hn]at h;cases h
  | some L2=>
   rw[hn]at h
   refine J0 A h (λr hr=>?_) λy hy=>hA y (.tail _ hy);obtain⟨vL,uF⟩:=hA m (.head _);unfold oG at hn;split at hn
   ·obtain⟨r0,h0,e1,e2⟩:=RG hn r hr;rw[e1,e2];exact hL r0 h0
   rename_i hk;split at hn
   ·rename_i L3 h3;split at hn
    ·cases hn;obtain⟨e,_⟩:=P8 h3;rw[e]at hr
     rcases zz5.1 hr with hr|hr
     ·exact hL r hr
     rw[zz7.1 hr];obtain⟨_,_,h5⟩:=DA.1 vL;refine⟨uF hk,?_⟩;rcases h5 with h5|h5
     ·exact h5.2.2.2.2.2.2.1
     exact absurd h5.1 hk
    cases hn
   cases hn
def aW5{k:cM}{N:Nat}(hg:iu k.g N)(hd:k.d.Ok N)(x:cD):iu (k.fx x).1.g (N+400000)/\(k.fx x).1.d.Ok (N+400000):=by
 rcases aW2 k x with ⟨e1,e2⟩|⟨hm,⟨e1,e2⟩|⟨n,e1,e2⟩⟩
 ·rw[e1,e2];exact⟨hg.mono (by omega),hd.mono (by omega)⟩
 ·have hb:=(Cn hm).2;rw[e1,e2];exact⟨(Ri hg _).mono (by omega),(Rj hd _).mono (by omega)⟩
 have hb:=(Cn hm).2;rw[e1,e2];exact⟨(cC6 hg _ _).mono (by omega),(cDc hd _ _).mono (by omega)⟩
section
variable {cf:dF} {kc:dM} {n j:Nat} {AL:List cF} {tr:Nat} {xs hd:List cD} {RS RK:List PF} {c:bW}
def jL.notes{s:eX}{last:Int}{R:List Rq}{f:Nat}(h:jL kc n s hd last R f):∀m∈s.held.notes,jm m s.held.aw=true/\(m.kind≠2->m.table<(n:Int)):=λm hm=>by
 have h1:=fK.append.1 h.jR;have hJ:=Dy (n:=n) (l:=hd) (λx hx=>(h.it x (yyo _ hx)).w) h1.1;rw[h.held]at hm ⊢
 refine⟨hJ.J1 m hm,λhk=>?_⟩;rw[U9]at hm
 unfold j_ at hm;obtain⟨l,hl,hm⟩:=wwe.1 hm;obtain⟨x,hx,rfl⟩:=zzx.1 hl;exact (h.it x (yyo _ hx)).nt m hm hk
def BR{k:cM}{a:List (List Cell)}{L:List Rq}{l:Int}(h:k.tr=(a,L,l)):k.ts=a/\k.reqs=L/\k.aw=l:=by
 unfold cM.tr at h;simp only[wwi]at h;exact h
def eG.write(h:eG cf kc n j AL c)(hc:CC cf kc n)(hj:j<=190)(he:c.en kc 3=true):
  (eG cf kc n (j+1) AL (c.write kc).1/\((c.write kc).2=⟨0,0,6⟩\/(c.write kc).2=⟨0,0,7⟩))\/(mw cf kc n (j+1) AL (c.write kc).1/\(c.write kc).2=⟨8,0,0⟩):=by
 have ho:=wQ he;obtain⟨tr,xs,hd,RS,RK,hb,ha⟩:=h;unfold bW.en at he;rw[zzb (by rw[ho];decide),zzb (by decide),zzb (by decide),zzb (by decide),zzd rfl]at he
 obtain⟨mG,hP,dQ,hk,_,_⟩:=ha.kV.hold hc.b1 he;obtain⟨hm,hl,L,xh,CQ⟩:=hP.fits hc dQ;have T8:=hP.notes;have fS:c.s.step kc c.now c.draw=(c.s.hold kc.cJ).hand kc c.now c.draw:=by unfold eX.step;rw[zzd he]
 have FI:=ha.ord;have hM:=hb.mono;have hA:=ha.mono;have j7:=hb.xl;have fh:=hb.ops;have I0:nJ j+400000=nJ (j+1):=by show 400000*(j+1)+400000=400000*(j+1+1);omega
 have fX:=aW5 hb.kg hb.dk (c.s.hold kc.cJ).held;rw[I0]at fX
 have heq:=ha.cBr;have Bj:=aW6 ha.kw (c.s.hold kc.cJ).held;have kQ:=aW3 ha.si (L:=L) hb.dk.pE ha.off (by omega) hb.mL hm (λde=>by have h1:=xh (by rw[hk];exact de);rw[hk]at h1;exact h1.1);have IG:(c.s.hold kc.cJ).k.fx (c.s.hold kc.cJ).held=(((c.kK RK).fx (c.s.hold kc.cJ).held).1.fe RS,((c.kK RK).fx (c.s.hold kc.cJ).held).2):=by
  rw[hk]
  conv=>lhs;rw[heq]
  exact Bj.1
 have gz:c.s.k.fx (c.s.hold kc.cJ).held=(((c.kK RK).fx (c.s.hold kc.cJ).held).1.fe RS,((c.kK RK).fx (c.s.hold kc.cJ).held).2):=by rw[<- hk];exact IG
 rw[gz]at fX
 have vH:=Bj.2;generalize (c.kK RK).fx (c.s.hold kc.cJ).held=ke at *
 obtain⟨k',e⟩:=ke;simp only at fX vH kQ IG;have FE:(c.s.hold kc.cJ).k.reqs=c.s.k.reqs/\(c.s.hold kc.cJ).k.aw=c.s.k.aw:=by rw[hk];exact⟨rfl,rfl⟩
 rw[FE.1,FE.2]at xh CQ
 have nc:iR 0 mG<=c.last:=by
  have h1:=fK.append.1 hP.jR;have h2:=hP.le;rw[JJ]at h2
  have:=h1.2.last;omega
 have dV:k'.d.ops<=250*(j+2):=by have:=kQ.ops;have h2:(c.kK RK).d.ops=c.s.k.d.ops:=rfl;omega
 have dW:k'.plan.length<=1024:=yy2 kQ.pl hb.pl;have Bc:∀f∈k'.plan,jc f=true:=λf hf=>hb.mL f (kQ.plan f hf);have pT:(dh RS [] k'.d).R=RS++k'.d.R:=by show RS++k'.d.R++[]=_;rw[zz1]
 have cO6:∀{t:Tr},t=c.s.k.tr->t.2.1=c.s.k.reqs/\t.2.2=c.s.k.aw:=λh=>by rw[h];exact⟨rfl,rfl⟩
 have jZ:(k'.tr=c.s.k.tr/\k'.reqs=c.s.k.reqs/\k'.aw=c.s.k.aw)\/(c.s.k.aw<(c.s.hold kc.cJ).held.aw/\k'.tr=((fA c.s.k.ts (c.s.hold kc.cJ).held.ops).1,L,(c.s.hold kc.cJ).held.aw)/\k'.reqs=L/\k'.aw=(c.s.hold kc.cJ).held.aw)->(∀r∈k'.reqs,r.table<(n:Int)/\r.at_<=k'.aw)/\(tr:Int)<=k'.aw/\k'.aw<=c.last:=by
  rintro (⟨_,h2,h3⟩|⟨h1,_,h2,h3⟩)
  ·rw[h2,h3];exact⟨ha.mq,ha.tl,ha.kV.aw⟩
  rw[h2,h3];obtain⟨_,_,hn⟩:=CG (xh h1).1;refine⟨J0 _ hn (λr hr=>?_) T8,by omega,by rw[hl];exact nc⟩;have:=ha.mq r hr;exact⟨this.1,by omega⟩
 unfold bW.write;rw[fS];unfold eX.hand;rw[IG];simp only;have bWw:0<=sf c.now+rT ((c.s.hold kc.cJ).fL+1) kc.b kc.m kc.j c.draw/\sf c.now+rT ((c.s.hold kc.cJ).fL+1) kc.b kc.m kc.j c.draw<=4503599627370496:=by
  have h1:=RI c.now;have h2:=X3 (k:=(c.s.hold kc.cJ).fL+1) (b:=kc.b) (m:=kc.m) (j:=kc.j) (draw:=c.draw);omega
 rcases kQ.res with ⟨rfl,r1,⟨cZ,r2,r3⟩,r4⟩|⟨rfl,r1,⟨cZ,r2,r3⟩,r4⟩|⟨rfl,r1,r2,⟨m',r3,r4⟩,r5⟩
 ·rw[zzd rfl];refine .inl ⟨?_,.inl ?_⟩
  ·have C4:(k'.tr=c.s.k.tr/\k'.reqs=c.s.k.reqs/\k'.aw=c.s.k.aw)\/(c.s.k.aw<(c.s.hold kc.cJ).held.aw/\k'.tr=((fA c.s.k.ts (c.s.hold kc.cJ).held.ops).1,L,(c.s.hold kc.cJ).held.aw)/\k'.reqs=L/\k'.aw=(c.s.hold kc.cJ).held.aw):=by
    rcases r4 with ⟨a,b⟩|⟨a,b⟩
    ·have:=BR b;exact .inr ⟨a,b,this.2.1,this.2.2⟩
    have h2:k'.tr=(c.s.k.ts,c.s.k.reqs,c.s.k.aw):=b;have:=BR h2;exact .inl ⟨b,this.2.1,this.2.2⟩
   obtain⟨q1,q2,q3⟩:=jZ C4;have TU:k'.aw=iR 0 mG/\fY k'.reqs (j_ (c.s.hold kc.cJ).L)=some c.m.reqs:=by
    rcases C4 with ⟨_,a,b⟩|⟨a,_,b,d⟩
    ·have A_:¬c.s.k.aw<(c.s.hold kc.cJ).held.aw:=by
      rcases r4 with ⟨a2,b2⟩|⟨a2,_⟩
      ·intro _;have:=(BR b2).2.2;have a2:c.s.k.aw<(c.s.hold kc.cJ).held.aw:=a2;omega
      exact a2
     obtain⟨e1,e2⟩:=CQ A_;rw[a,b];exact⟨e1,e2⟩
    rw[b,d,hl];exact⟨rfl,(xh a).2⟩
   have CR:=(hP.done (k':=k'.fe RS) TU.1 TU.2).mono (show j<=j+1 by omega);refine⟨tr,cZ,[],RS,k'.d.R,⟨fX.2,dV,hM.al,hM.sg,hM.st1,hM.st2,hM.lU,fX.1,r2.run,by omega,dW,Bc,CR.inv hc,⟨yyf _,show (0:Int)<=4503599627370496 by decide⟩,hM.mx,hM.late,hM.dr,hM.ids,hM.q,hM.ql,hM.pos,hM.last,hM.due,hM.now,hM.dl,hM.dw⟩,⟨r1,pT,?_,r2,vH,CR,q1,q2,hA.la,hA.qp,hA.pl,hA.qq⟩⟩;exact hA.kv.wd (d':={dh RS [] k'.d with R:=RS}) rfl r1 fX.2.pE fX.2.q_
  rfl
 ·rw[zzb (by decide),zzd rfl];refine .inl ⟨?_,.inr ?_⟩
  ·have C4:(k'.tr=c.s.k.tr/\k'.reqs=c.s.k.reqs/\k'.aw=c.s.k.aw)\/(c.s.k.aw<(c.s.hold kc.cJ).held.aw/\k'.tr=((fA c.s.k.ts (c.s.hold kc.cJ).held.ops).1,L,(c.s.hold kc.cJ).held.aw)/\k'.reqs=L/\k'.aw=(c.s.hold kc.cJ).held.aw):=by
    rcases r4 with ⟨a,b⟩|b
    ·have:=BR b;exact .inr ⟨a,b,this.2.1,this.2.2⟩
    have h2:k'.tr=(c.s.k.ts,c.s.k.reqs,c.s.k.aw):=b;have:=BR h2;exact .inl ⟨b,this.2.1,this.2.2⟩
   obtain⟨q1,q2,q3⟩:=jZ C4;have CR:=hP.again dQ (k':=k'.fe RS) (by
    rcases C4 with ⟨_,a,b⟩|⟨a,_,b,d⟩
    ·exact .inl ⟨b.trans FE.2.symm,a.trans FE.1.symm⟩
    exact .inr ⟨d.trans hl,by show fY k'.reqs _=_;rw[b];exact (xh a).2⟩) (sf c.now+rT ((c.s.hold kc.cJ).fL+1) kc.b kc.m kc.j c.draw)
   refine⟨tr,cZ,mG,RS,k'.d.R,⟨fX.2,dV,hM.al,hM.sg,hM.st1,hM.st2,hM.lU,fX.1,r2.run,by omega,dW,Bc,CR.inv hc,bWw,hM.mx,hM.late,hM.dr,hM.ids,hM.q,hM.ql,hM.pos,hM.last,hM.due,hM.now,?_,?_⟩,⟨r1,pT,?_,r2,vH,CR,q1,q2,hA.la,hA.qp,hA.pl,hA.qq⟩⟩
   ·show (if (7:Int)=7 then c.dy.tail else c.dy).length<=1024;have:=hM.dl;rw[zzd rfl,List.length_tail];omega
   ·show ∀x∈(if (7:Int)=7 then c.dy.tail else c.dy),_;rw[zzd rfl];exact λx hx=>hM.dw x (List.mem_of_mem_tail hx)
   exact hA.kv.wd (d':={dh RS [] k'.d with R:=RS}) rfl r1 fX.2.pE fX.2.q_
  rfl
 rw[zzb (by decide),zzb (by decide)];have h2:k'.tr=(c.s.k.ts,c.s.k.reqs,c.s.k.aw):=r5;have h3:=BR h2;obtain⟨q1,q2,q3⟩:=jZ (.inl ⟨r5,h3.2.1,h3.2.2⟩);have hw:=hP.inv hc;refine .inr ⟨⟨r1,tr,xs,none,m',RS,k'.d.R,⟨fX.2,dV,hM.al,hM.sg,hM.st1,hM.st2,hM.lU,fX.1,?_,hM.xl,dW,Bc,⟨hw.Ax,hw.cap,hw.vW,hw.cJ,hw.it,hw.jR,hw.room,hw.out,hw.held,hw.f0,by have:=hw.f1;show (c.s.hold kc.cJ).fL<=_;omega⟩,?_,hM.mx,hM.late,hM.dr,hM.ids,hM.q,hM.ql,hM.pos,hM.last,hM.due,hM.now,hM.dl,hM.dw⟩,⟨pT,?_,⟨true,?_⟩,λx hx=>vH.w.m x hx,λt' ht=>?_⟩⟩,rfl⟩
 ·exact r3.run
 ·show 0<=(c.s.hold kc.cJ).eI/\(c.s.hold kc.cJ).eI<=_;have:(c.s.hold kc.cJ).eI=c.s.eI:=by unfold eX.hold;split<;>rfl
  rw[this];exact hb.eI
 ·exact (hA.kv.dead).wd (d':={dh RS [] k'.d with R:=RS}) rfl fX.2.pE fX.2.q_
 ·exact r3.wd (d':={dh RS [] k'.d with R:=k'.d.R,off:=true}) rfl r1.symm
 have Di:(k'.fe RS).tr=c.s.k.tr:=r5;rcases ht with rfl|⟨x,hx,hs⟩
 ·exact⟨q1,q2,by show k'.aw<=_;omega⟩
 obtain⟨rfl,de⟩:=r4 x hx;have de:c.s.k.aw<(c.s.hold kc.cJ).held.aw:=de;rw[Di,KM (t:=c.s.k.tr) (xh de).1 de]at hs
 cases hs;obtain⟨_,_,hn⟩:=CG (xh de).1;refine⟨J0 _ hn (λr hr=>?_) T8,by show (tr:Int)<=(c.s.hold kc.cJ).held.aw;omega,by show (c.s.hold kc.cJ).held.aw<=_;rw[hl];omega⟩;have:=ha.mq r hr;exact⟨this.1,by show r.at_<=(c.s.hold kc.cJ).held.aw;omega⟩
def CS.fault(h:CS cf kc n j AL c)(f:fT):CS cf kc n (j+1) AL (c.fault f).1:=by
 unfold bW.fault;split
 ·exact h.mono
 rename_i hf;split
 ·exact h.mono
 rename_i hl;have hf:jc f=true:=by cases hq:jc f with
  | true=>rfl
  | false=>exact absurd hq hf
 have hpm:∀g∈c.s.k.plan++[f],(∀g∈c.s.k.plan,jc g=true)->jc g=true:=λg hg hp=>by
  rcases zz5.1 hg with hg|hg
  ·exact hp g hg
  rw[zz7.1 hg];exact hf
 have dW:(c.s.k.plan++[f]).length<=1024:=by rw[zza,yya];omega
 have hB:∀xs,CB cf kc n j AL xs c->CB cf kc n (j+1) AL xs {c with s:={c.s with k:={c.s.k with plan:=c.s.k.plan++[f]}}}:=λxs hb=>by
  have h:=hb.mono;have hw:=h.wt;exact⟨h.dk,h.ops,h.al,h.sg,h.st1,h.st2,h.lU,h.kg,h.run,h.xl,dW,λg hg=>hpm g hg h.mL,⟨hw.Ax,hw.cap,hw.vW,hw.cJ,hw.it,hw.jR,hw.room,hw.out,hw.held,hw.f0,hw.f1⟩,h.eI,h.mx,h.late,h.dr,h.ids,h.q,h.ql,h.pos,h.last,h.due,h.now,h.dl,h.dw⟩
 rcases h with ⟨tr,xs,hd,RS,RK,hb,a⟩|⟨ho,tr,xs,t,m,RS,RK,hb,a⟩
 ·have a:=a.mono;have hp:=a.kV;exact .inl ⟨tr,xs,hd,RS,RK,hB xs hb,⟨a.off,a.dR,a.kv,a.si.plan _,⟨a.kw.w,a.kw.g⟩,⟨hp.it,hp.jR,hp.le,hp.hn,hp.held,hp.room,hp.out,hp.l0,hp.aw,hp.st,hp.f0,hp.f1⟩,a.mq,a.tl,a.la,a.qp,a.pl,a.qq⟩⟩
 have a:=a.mono;obtain⟨o,Dn⟩:=a.sd;exact .inr ⟨ho,tr,xs,t,m,RS,RK,hB xs hb,⟨a.dR,a.kd,⟨o,Dn.plan _⟩,a.kb,a.nx⟩⟩
def CS.VR(h:CS cf kc n j AL c){now:Int}{dw:Ω}(hn:0<=now/\now<=1125899906842624)(hl:dw.length<=1024)(hd:∀x∈dw,0<=x/\x<=1125899906842624):CS cf kc n (j+1) AL {c with now:=now,dy:=dw}:=by
 have hB:∀xs,CB cf kc n j AL xs c->CB cf kc n (j+1) AL xs {c with now:=now,dy:=dw}:=λxs hb=>by
  have h:=hb.mono;exact⟨h.dk,h.ops,h.al,h.sg,h.st1,h.st2,h.lU,h.kg,h.run,h.xl,h.pl,h.mL,h.wt,h.eI,h.mx,h.late,h.dr,h.ids,h.q,h.ql,h.pos,h.last,h.due,hn,hl,hd⟩
 rcases h with ⟨tr,xs,hd,RS,RK,hb,a⟩|⟨ho,tr,xs,t,m,RS,RK,hb,a⟩
 ·have a:=a.mono;exact .inl ⟨tr,xs,hd,RS,RK,hB xs hb,⟨a.off,a.dR,a.kv,a.si,a.kw,a.kV,a.mq,a.tl,a.la,a.qp,a.pl,a.qq⟩⟩
 have a:=a.mono;exact .inr ⟨ho,tr,xs,t,m,RS,RK,hB xs hb,⟨a.dR,a.kd,a.sd,a.kb,a.nx⟩⟩
def CS.l5(h:CS cf kc n j AL c):∃xs,CB cf kc n j AL xs c:=by
 rcases h with ⟨tr,xs,hd,RS,RK,hb,_⟩|⟨_,tr,xs,t,m,RS,RK,hb,_⟩
 ·exact⟨xs,hb⟩
 exact⟨xs,hb⟩
def CS.tick(h:CS cf kc n j AL c)(x:Int):CS cf kc n (j+1) AL (c.tick x).1:=by
 obtain⟨xs,hb⟩:=h.l5;have h1:=hb.now;unfold bW.tick;split
 ·exact h.mono
 split
 ·exact h.mono
 exact h.VR (now:=c.now+x) (dw:=c.dy) (by omega) hb.dl hb.dw
def CS.drawn(h:CS cf kc n j AL c)(x:Int):CS cf kc n (j+1) AL (c.drawn x).1:=by
 obtain⟨xs,hb⟩:=h.l5;unfold bW.drawn;split
 ·exact h.mono
 split
 ·exact h.mono
 refine h.VR (now:=c.now) (dw:=c.dy++[x]) hb.now (by rw[zza,yya];omega) λy hy=>?_;rcases zz5.1 hy with hy|hy
 ·exact hb.dw y hy
 rw[zz7.1 hy];omega
def CS.arm(h:CS cf kc n j AL c)(x:Int):CS cf kc n (j+1) AL (c.re x).1:=by
 unfold bW.re;split
 ·exact h.mono
 rename_i hx;have tu:0<=(c.s.k.d.oh x).arm:=by show 0<=max x 0;omega
 have l9:(c.s.k.d.oh x).arm<=9223372036854775807:=by show max x 0<=_;omega
 have hB:∀xs,CB cf kc n j AL xs c->CB cf kc n (j+1) AL xs {c with s:={c.s with k:={c.s.k with d:=c.s.k.d.oh x}}}:=λxs hb=>by
  have h:=hb.mono;have hw:=h.wt;exact⟨h.dk.wd rfl tu l9,h.ops,h.al,h.sg,h.st1,h.st2,h.lU,h.kg,h.run,h.xl,h.pl,h.mL,⟨hw.Ax,hw.cap,hw.vW,hw.cJ,hw.it,hw.jR,hw.room,hw.out,hw.held,hw.f0,hw.f1⟩,h.eI,h.mx,h.late,h.dr,h.ids,h.q,h.ql,h.pos,h.last,h.due,h.now,h.dl,h.dw⟩
 rcases h with ⟨tr,xs,hd,RS,RK,hb,a⟩|⟨ho,tr,xs,t,m,RS,RK,hb,a⟩
 ·have a:=a.mono;have hp:=a.kV;exact .inl ⟨tr,xs,hd,RS,RK,hB xs hb,⟨a.off,a.dR,a.kv.wd (d':={c.s.k.d.oh x with R:=RS}) rfl a.off tu l9,a.si.wd (d':={c.s.k.d.oh x with R:=RK}) rfl rfl,⟨a.kw.w,a.kw.g⟩,⟨hp.it,hp.jR,hp.le,hp.hn,hp.held,hp.room,hp.out,hp.l0,hp.aw,hp.st,hp.f0,hp.f1⟩,a.mq,a.tl,a.la,a.qp,a.pl,a.qq⟩⟩
 have a:=a.mono;obtain⟨o,Dn⟩:=a.sd;exact .inr ⟨ho,tr,xs,t,m,RS,RK,hB xs hb,⟨a.dR,a.kd.wd (d':={c.s.k.d.oh x with R:=RS}) rfl tu l9,⟨o,Dn.wd (d':={c.s.k.d.oh x with R:=RK,off:=o}) rfl rfl⟩,a.kb,a.nx⟩⟩
end
def J'{d d':DS}{n size:Int}{k:cM}(h:kG d n size=(d',.ok k)):eN d 8192 size=(d',.ok k.g)/\k.d=d'/\k.plan=[]:=by
 unfold kG at h;split at h
 ·cases h
 split at h
 ·cases h
 rename_i g hg;split at h
 ·cases h
 split at h
 ·cases h
 cases h;exact⟨hg,rfl,rfl⟩
def iX.base{n:Nat}{k:cM}{xs:List cD}(h:iX n k xs none)(ho:k.d.off=false):k.g.base=8192:=by
 rcases h.st with ⟨_,h⟩|⟨_,h⟩|⟨h,_⟩
 ·exact h
 ·exact h
 rw[ho]at h;cases h
def a_e(A B:List PF)(keep:Ω):eY (A++B) keep=eY A keep++eY B (keep.drop A.length):=by
 have:=RT A B [] keep;rw[zz1]at this
 rw[this,show eY [] (keep.drop (A.length+B.length))=[] from rfl,zz1]
section
variable {cf:dF} {kc:dM} {n j:Nat} {AL:List cF} {tr:Nat} {xs hd:List cD} {RS RK:List PF} {c:bW}
def eG.lG(h:eG cf kc n j AL c)(hc:CC cf kc n)(hj:j<=190)(s:gB):
  (∃x,eG cf kc n (j+1) (AL++[x]) (c.lG s).1/\(c.lG s).2=⟨0,(AL.length:Int)+1,0⟩)\/(mw cf kc n (j+1) AL (c.lG s).1/\(c.lG s).2=⟨8,0,0⟩)\/(c.src.kx s.sg s.l=(c.src,(0,1))\/c.src.kx s.sg s.l=(c.src,(0,7))):=by
 have gM:c.src.ts.length=n:=by obtain⟨_,_,_,_,_,hb,_⟩:=h;exact hb.lU
 unfold bW.lG cN.kx;split
 ·rename_i hm;have l_:∀x∈s.l,ij n x=true:=λx hx=>by
   have h1:=xZ.1 ((mj hm.1).2.2.2.2.2.1 x hx);have h2:=hm.2 x hx;exact zzm ⟨h1.1,by omega⟩
  rcases h.fU hc hj (t:=⟨1,1,s.l,s.sg,0⟩) hm.1 l_ with ⟨k',e,h1⟩|⟨k',e,h1⟩|⟨e,_⟩
  ·rw[e];exact .inl ⟨_,h1,rfl⟩
  ·rw[e];exact .inr (.inl ⟨h1,rfl⟩)
  exact .inr (.inr (.inr e))
 exact .inr (.inr (.inl rfl))
def eG.start(hc:CC cf kc n){k1:cN}{k2:cM}{now:Int}(xG:0<=now/\now<=1125899906842624)(hk:KV n tr (nJ j) AL k1)(hs:iX n k2 xs none)(ho:k2.d.off=false)(vH:rX k1.d.R k2)(dW:k2.plan=[])(hg:iu k2.g (nJ j))(hd:(dh k1.d.R [] k2.d).Ok (nJ j))(dV:k2.d.ops<=250*(j+1))(vA:AL.length<=j)(j7:xs.length<=j)(hj:j<=200)
  (lK:∀r∈k2.reqs,r.table<(n:Int)/\r.at_<=k2.aw) (h0:(tr:Int)<=k2.aw) (h1:k2.aw<=AL.length) (B:List PF):eG cf kc n j AL (bW.start cf (k1.fe B) (k2.fe k1.d.R) now):=by
 have hT:=WE hs.run (by omega);have rr:0<=k2.aw:=hT.l0;have vI:k2.aw<=1099511627776:=hT.l1;have Jh:gk k2.reqs:=hT.rq;have hP:jL kc n ⟨k2.fe k1.d.R,[],0,0,0,nR,0⟩ [] k2.aw k2.reqs j:=
  ⟨λx hx=>(by cases hx),trivial,by show (0:Int)<=k2.aw;exact rr,rfl,rfl,zz9 _,rfl,rr,yyf _,.inl ⟨trivial,rfl⟩,yyf _,by show (0:Int)<=(j:Int);omega⟩
 have Fp:0<=jf cf.every now/\jf cf.every now<=4503599627370496:=by
  have:=hc.e1;have:=hc.e2;unfold jf;omega
 have pT:(dh k1.d.R [] k2.d).R=k1.d.R++k2.d.R:=by show k1.d.R++k2.d.R++[]=_;rw[zz1]
 refine⟨tr,xs,[],k1.d.R,k2.d.R,⟨hd,dV,vA,hk.ok.g,hk.ok.rows,hk.ok.len,by show k1.ts.length=n;rw[hk.ts,p9],hg,hs.run,j7,by show k2.plan.length<=1024;rw[dW];decide,by show ∀f∈k2.plan,_;rw[dW];simp,hP.inv hc,⟨yyf _,show (0:Int)<=4503599627370496 by decide⟩,⟨hc.tables,rr,vI,Jh,lK,jM.mR n cf.chunk⟩,rfl,bwv,λm hm=>(by cases hm),λt ht=>(by cases ht),zz9 _,⟨rr,vI⟩,⟨rr,vI⟩,Fp,xG,zz9 _,λx hx=>(by cases hx)⟩,
  ⟨ho,pT,?_,hs,vH,hP,lK,h0,yyf _,by show k2.aw=k2.aw+(0:Nat);omega,h1,λi hi=>(by cases hi)⟩⟩
 exact hk.wd (d':={dh k1.d.R [] k2.d with R:=k1.d.R}) rfl ho hd.pE hd.q_
def CD.ed{t:Option cF}{m:Option cD}(h:CD n j AL t tr xs m RS RK c)(hb:CB cf kc n j AL xs c)(hc:CC cf kc n)(hj:j<=190)(keep:Ω):
  ∃k1 k2 eT,kH (c.s.k.d.ed keep) cf.tables cf.size=(k1.d,.ok k1)/\kG k1.d cf.tables cf.size=(k2.d,.ok k2)/\eG cf kc n (j+1) eT (bW.start cf k1 k2 c.now)/\(eT=AL\/∃x,eT=AL++[x]) /\
   (∀d' g,eN (c.s.k.d.ed keep) 16 cf.size=(d',.ok g)->(cR g.bF).length<=1001)/\(∀d' g,eN k1.d 8192 cf.size=(d',.ok g)->(cR g.bF).length<=200)/\k1.d.Ok (nJ (j+1))/\k1.d.ops<=250*(j+1)+2/\c.s.k.aw<=k2.aw:=by
 have vA:=hb.al;have j7:=hb.xl;have fh:=hb.ops;have hB:∀x∈eY RK (keep.drop RS.length),8192<=x.id/\x.id<12288:=λx hx=>by
  obtain⟨y,hy,e⟩:=DE hx;rw[<- e];exact h.kb y hy
 obtain⟨k1,eT,e1,hk,a1,p1,hA,nf⟩:=h.kd.open hc.n1 hc.n8 keep hc.s0 hc.s1 (B:=eY RK (keep.drop RS.length)) λx hx=>(hB x hx).1;have ecr:c.s.k.d.ed keep=dh [] (eY RK (keep.drop RS.length)) (({c.s.k.d with R:=RS}:DS).ed keep):=by
  unfold DS.ed dh;simp only[zzr];rw[h.dR,a_e]
 rw[<- ecr]at e1 nf
 have p1:k1.d.ops<=c.s.k.d.ops+1:=p1;obtain⟨o,Dn⟩:=h.sd;have xN:iX n {c.s.k with d:={c.s.k.d with R:=RK,off:=o,ops:=k1.d.ops}} xs m:=Dn.wd (d':={c.s.k.d with R:=RK,off:=o,ops:=k1.d.ops}) rfl rfl;obtain⟨k2,cZ,e2,fW,dW,Jb,xk,vO,hL,hx⟩:=iX.open (cO:=n) hc.n1 hc.n8 xN (keep.drop RS.length) (by omega) hc.s0 hc.s1;have bUn:({c.s.k.d with R:=RK,off:=o,ops:=k1.d.ops}:DS).ed (keep.drop RS.length)={k1.d with R:=eY RK (keep.drop RS.length)}:=by
  have ho:=hk.off;unfold DS.ed;simp only;cases pa:k1.d;rw[pa]at ho a1
  simp only at ho a1;subst ho a1;rfl
 rw[bUn]at e2
 have Dt:dI 8192 12288 k1.d.R [] ({k1.d with R:=eY RK (keep.drop RS.length)}:DS).R:=⟨hk.ids,hB,λx hx=>by cases hx⟩;have e3:=cnx Dt (n:Int) cf.size;rw[e2]at e3
 have e4:dh k1.d.R [] {k1.d with R:=eY RK (keep.drop RS.length)}=dh [] (eY RK (keep.drop RS.length)) k1.d:=by unfold dh;simp
 rw[e4]at e3
 have e3:kG (dh [] (eY RK (keep.drop RS.length)) k1.d) n cf.size=(dh k1.d.R [] k2.d,.ok (k2.fe k1.d.R)):=e3;have bUl:=hb.dk.ed keep;have C3:=V' e1;have pa:=Gc (base:=16) (size:=cf.size) bUl;rw[C3]at pa
 have pa:(dh [] (eY RK (keep.drop RS.length)) k1.d).Ok (nJ j):=pa;obtain⟨uC,_,_⟩:=J' e3;have vC:=Gc (base:=8192) (size:=cf.size) pa;rw[uC]at vC
 have sC:=J9 pa (by have:=pa.DQ;omega) uC;have bUe:eT.length<=j+1:=by
  rcases hA with rfl|⟨x,_,rfl⟩
  ·omega
  rw[zza,yya];omega
 have bW7:cZ.length<=j+1:=by
  rcases hx with rfl|⟨x,_,rfl⟩
  ·omega
  rw[zza,yya];omega
 have pf:=h.nx k2.tr (by
  rcases hx with rfl|⟨x,uG,rfl⟩
  ·left;have:=hb.run.symm.trans fW.run;exact (wwc this).symm
  right;refine⟨x,uG,?_⟩;have:=fW.run;rw[DR n xs x _ _ hb.run]at this
  exact this)
 have kB:c.s.k.aw<=k2.aw:=by
  rcases hx with rfl|⟨x,uG,rfl⟩
  ·have:=wwc (hb.run.symm.trans fW.run);have:=yyt (·.2.2) this;exact Int.le_of_eq this
  have:=fW.run;rw[DR n xs x _ _ hb.run]at this
  unfold stepT at this;split at this
  ·split at this
   ·rename_i de;have:=wwc this;have h2:x.aw=k2.aw:=yyt (·.2.2) this;have de:c.s.k.aw<x.aw:=de;omega
   cases this
  cases this
 have hlen:AL.length<=eT.length:=by
  rcases hA with rfl|⟨x,_,rfl⟩
  ·exact zzj _
  rw[zza];omega
 have vE:rX k1.d.R k2:=by
  refine⟨⟨hk.ids,λx hx=>?_,λx hx=>by cases hx⟩,?_⟩
  ·have vE:=hL.laid.S7;have Fh:=fW.base Jb;rw[hL.files]at hx
   obtain⟨s,hs,rfl⟩:=zzx.1 hx;have:=vE.bF s hs;show 8192<=s.file/\s.file<12288;omega
  have vE:=hL.laid.S7;rw[fW.base Jb]at vE
  exact vE
 have I0:nJ j+200000<=nJ (j+1):=by show 400000*(j+1)+200000<=400000*(j+1+1);omega
 have vO:k2.d.ops<=k1.d.ops+1:=vO;have vR:cf.tables=(n:Int):=hc.tables;refine⟨k1.fe (eY RK (keep.drop RS.length)),k2.fe k1.d.R,eT,by rw[vR];exact e1,by rw[vR];exact e3,?_,hA.imp id (λ⟨x,_,e⟩=>⟨x,e⟩),nf,?_,pa.mono (by omega),by show k1.d.ops<=_;omega,kB⟩
 ·exact eG.start hc hb.now (hk.mono I0) fW Jb vE dW (sC.mono (by omega)) (vC.mono (by omega)) (by omega) bUe bW7 (by omega) pf.1 pf.2.1 (by have:=pf.2.2;show k2.aw<=_;have h3:k2.aw<=AL.length:=this;omega) _
 intro d' g hg;have bVa:eN (dh [] (eY RK (keep.drop RS.length)) k1.d) 8192 cf.size=_:=uC;have hg:eN (dh [] (eY RK (keep.drop RS.length)) k1.d) 8192 cf.size=(d',.ok g):=hg;rw[bVa]at hg
 cases hg;show (cR k2.g.bF).length<=200;rw[hL.gy,zzn];omega
def CS.cDm(h:CS cf kc n j AL c):∃tr xs t m RS RK,CB cf kc n j AL xs c/\CD n j AL t tr xs m RS RK c:=by
 rcases h with ⟨tr,xs,hd,RS,RK,hb,a⟩|⟨_,tr,xs,t,m,RS,RK,hb,a⟩
 ·exact⟨tr,xs,none,none,RS,RK,hb,a.dead⟩
 exact⟨tr,xs,t,m,RS,RK,hb,a⟩
structure Le(cf:dF)(kc:dM)(n j:Nat)(AL:List cF)(c:bW)(keep:Ω)(k1:cN)(k2:cM)(eT:List cF):Prop where
 e1:kH (c.s.k.d.ed keep) cf.tables cf.size=(k1.d,.ok k1)
 e2:kG k1.d cf.tables cf.size=(k2.d,.ok k2)
 st:eG cf kc n (j+1) eT (bW.start cf k1 k2 c.now)
 al:eT=AL\/∃x,eT=AL++[x]
 n1:∀d' g,eN (c.s.k.d.ed keep) 16 cf.size=(d',.ok g)->(cR g.bF).length<=1001
 n2:∀d' g,eN k1.d 8192 cf.size=(d',.ok g)->(cR g.bF).length<=200
 dk:k1.d.Ok (nJ (j+1))
 ops:k1.d.ops<=250*(j+1)+2
 aw:c.s.k.aw<=k2.aw
 is:c.ed cf keep=bW.start cf k1 k2 c.now
def CS.ed(h:CS cf kc n j AL c)(hc:CC cf kc n)(hj:j<=190)(keep:Ω):∃k1 k2 eT,Le cf kc n j AL c keep k1 k2 eT:=by
 obtain⟨tr,xs,t,m,RS,RK,hb,a⟩:=h.cDm;obtain⟨k1,k2,eT,e1,e2,h1,h2,h3,h4,h5,h6,h7⟩:=a.ed hb hc hj keep;refine⟨k1,k2,eT,⟨e1,e2,h1,h2,h3,h4,h5,h6,h7,?_⟩⟩;unfold bW.ed V7;rw[e1];simp only[e2]
def eG.pick(h:eG cf kc n j AL c)(hc:CC cf kc n)(hj:j<=190)(comp:Int):∃eT,CS cf kc n (j+1) eT (c.pick cf kc comp).1/\(eT=AL\/∃x,eT=AL++[x]):=by
 have uL:∃eT,CS cf kc n (j+1) eT c/\(eT=AL\/∃x,eT=AL++[x]):=⟨AL,.inl h.mono,.inl rfl⟩;unfold bW.pick;split
 ·exact uL
 split
 ·exact uL
 rename_i TA lg;have lg:c.en kc comp=true:=by cases hq:c.en kc comp with
  | true=>rfl
  | false=>exact absurd hq lg
 split
 ·rename_i e;subst e;obtain⟨_,_,_,_,h1⟩:=h.read lg;exact⟨AL,.inl h1,.inl rfl⟩
 split
 ·rename_i e;subst e;obtain⟨_,_,_,_,_,_,_,_,_,_,_,h1⟩:=h.take hc lg;exact⟨AL,.inl h1,.inl rfl⟩
 split
 ·rename_i e;subst e;rcases h.snap hc hj lg with ⟨eT,h1,h2,_⟩|⟨h1,_⟩
  ·exact⟨eT,.inl h1,h2⟩
  exact⟨AL,.inr h1,.inl rfl⟩
 split
 ·rename_i e;subst e;rcases h.write hc hj lg with ⟨h1,_⟩|⟨h1,_⟩
  ·exact⟨AL,.inl h1,.inl rfl⟩
  exact⟨AL,.inr h1,.inl rfl⟩
 have:comp=4:=by omega
 subst this;exact⟨AL,.inl (h.tell hc lg).1,.inl rfl⟩
def CS.gv(h:CS cf kc n j AL c)(hc:CC cf kc n)(hj:j<=190)(s:gB):∃eT,CS cf kc n (j+1) eT (c.gv cf kc s).1/\(eT=AL\/∃x,eT=AL++[x]):=by
 unfold bW.gv;split
 ·exact⟨AL,h.mono,.inl rfl⟩
 rename_i gT;by_cases k8:s.kind=8
 ·rw[zzb (by omega),zzb (by omega)];have e:(c.other cf s).1=c.ed cf s.keep:=by unfold bW.other;rw[zzb (by omega),zzb (by omega),zzb (by omega),zzb (by omega),zzb (by omega),zzd k8]
  show ∃eT,CS cf kc n (j+1) eT (c.other cf s).1/\_;obtain⟨k1,k2,eT,hk⟩:=h.ed hc hj s.keep;rw[e,hk.is];exact⟨eT,.inl hk.st,hk.al⟩
 have ho:c.s.k.d.off=false:=by
  cases hq:c.s.k.d.off with
  | false=>rfl
  | true=>exact absurd ⟨hq,k8⟩ gT
 have hA:eG cf kc n j AL c:=by
  rcases h with h|h
  ·exact h
  rw[h.1]at ho;cases ho
 split
 ·rcases hA.lG hc hj s with ⟨x,h1,_⟩|⟨h1,_⟩|e|e
  ·exact⟨_,.inl h1,.inr ⟨x,rfl⟩⟩
  ·exact⟨AL,.inr h1,.inl rfl⟩
  ·unfold bW.lG;rw[e];exact⟨AL,.inl hA.self.mono,.inl rfl⟩
  unfold bW.lG;rw[e];exact⟨AL,.inl hA.self.mono,.inl rfl⟩
 split
 ·exact hA.pick hc hj s.n
 show ∃eT,CS cf kc n (j+1) eT (c.other cf s).1/\_;unfold bW.other;split
 ·exact⟨AL,h.fault s.ft,.inl rfl⟩
 split
 ·exact⟨AL,h.tick s.n,.inl rfl⟩
 split
 ·exact⟨AL,h.drawn s.n,.inl rfl⟩
 split
 ·rcases hA.trim hc hj with ⟨_,h1⟩|⟨_,h1⟩
  ·exact⟨AL,.inl h1,.inl rfl⟩
  exact⟨AL,.inr h1,.inl rfl⟩
 split
 ·exact⟨AL,h.arm s.n,.inl rfl⟩
 exact⟨AL,h.mono,.inl rfl⟩
def sJ(n:Nat)(size:Int):cM:=⟨⟨[],8192,size,none⟩,gP,(rQ n).1,[],0,[]⟩
def bYa{n:Nat}(n1:1<=n)(n8:n<=8){size:Int}(s0:64<=size)(s1:size<=65536):kG gP ((n:Nat):Int) size=(gP,.ok (sJ n size))/\iX n (sJ n size) [] none/\∀M,iu (sJ n size).g M:=by
 obtain⟨k,e,hP,_⟩:=GZ.first n1 n8 s0 s1;have e2:kG gP ((n:Nat):Int) size=(gP,.ok (sJ n size)):=by
  unfold kG;rw[zzb (by omega)];simp only[J8 (base:=8192) (by decide) (by decide) s0 s1];rw[zzy];rfl
 rw[e2]at e
 have e3:=yyt Prod.snd e;simp only at e3;cases e3;exact⟨e2,hP.s,λM=>⟨⟨by simp[sJ],by show (0:Int)<=8192;decide,by show (8192:Int)<=12288;decide,s0,s1,by simp[sJ]⟩,trivial,by show (0:Int)<=_;decide,λx hx=>by cases hx⟩⟩
def wN(cf:dF)(n:Nat):bW:=bW.start cf (vT n cf.size) (sJ n cf.size) 0
def eG.first(hc:CC cf kc n):kH gP cf.tables cf.size=(gP,.ok (vT n cf.size))/\kG gP cf.tables cf.size=(gP,.ok (sJ n cf.size))/\eG cf kc n 0 [] (wN cf n):=by
 obtain⟨e1,hL⟩:=cBt hc.n1 hc.n8 hc.s0 hc.s1;obtain⟨e2,hs,hg⟩:=bYa hc.n1 hc.n8 hc.s0 hc.s1;have vR:cf.tables=(n:Int):=hc.tables;have hk:KV n 0 (nJ 0) [] (vT n cf.size):=⟨mA.nil n,⟨[],gP,16,0,0,hL⟩,rfl,show (0:Int)<=0 by decide,(cBs hc.n1 hc.n8 hc.s0 hc.s1).mono (by omega)⟩;refine⟨by rw[vR];exact e1,by rw[vR];exact e2,?_⟩;have vH:rX [] (sJ n cf.size):=⟨⟨λx hx=>(by cases hx),λx hx=>(by cases hx),λx hx=>(by cases hx)⟩,⟨show (8192:Int)<=8192 by decide,show (8192:Int)+4096<=12288 by decide,λs hs=>(by cases hs),λx hx=>(by cases hx)⟩⟩;exact eG.start (AL:=[]) (tr:=0) (xs:=[]) (j:=0) (k1:=vT n cf.size) (k2:=sJ n cf.size) (now:=0) hc (by decide) hk hs rfl vH rfl (hg _) (DT _) (show (0:Nat)<=250*(0+1) by decide) (zzj _) (zzj _) (by decide) (λr hr=>(by cases hr)) (yyf _) (yyf _) []
end
section
variable {cf:dF} {kc:dM} {n j:Nat} {AL:List cF} {c:bW}
def CS.on(h:CS cf kc n j AL c)(ho:c.s.k.d.off=false):eG cf kc n j AL c:=by
 rcases h with h|h
 ·exact h
 rw[h.1]at ho;cases ho
def Sl(s:gB)(ho:c.s.k.d.off=true)(hk:s.kind≠8):c.gv cf kc s=(c,⟨8,0,0⟩):=by
 unfold bW.gv;rw[zzd ⟨ho,hk⟩]
end
set_option maxRecDepth 100000
abbrev ks:dF:=⟨1,0,256,4,2,4,1,8,0,5⟩
abbrev kE:dM:=⟨4,4,1,8,0⟩
def ug:CC ks kE 1:=⟨by decide,by decide,rfl,by decide,by decide,by decide,by decide,rfl,by decide,by decide,by decide,by decide,rfl,by decide,by decide,rfl,rfl,rfl,by decide,by decide,by decide⟩
def BN:gB:=⟨1,0,[],[⟨0,5,false,⟨#[97]⟩⟩],iQ,[]⟩
def oH(n:Int):gB:=⟨2,n,[],[],iQ,[]⟩
def wG:bW:=wN ks 1
def wH:bW:=(wG.gv ks kE BN).1
def wI:bW:=(wH.gv ks kE (oH 0)).1
def wJ:bW:=(wI.gv ks kE (oH 1)).1
def wK:bW:=(wJ.gv ks kE (oH 3)).1
def tA1:(wG.gv ks kE BN).2=⟨0,1,0⟩:=by decide +kernel
def tA2:(wH.gv ks kE (oH 0)).2=⟨0,0,1⟩:=by decide +kernel
def tA3:(wI.gv ks kE (oH 1)).2=⟨0,0,2⟩:=by decide +kernel
def tA4:(wJ.gv ks kE (oH 3)).2=⟨0,0,6⟩:=by decide +kernel
def cwj{after:Int}{C:List Row}{j:Nat}(h:j+1=C.length)(hj:j<C.length):ly after C=C[j].key:=by
 unfold ly;rw[xx7,show C.length-1=j by omega,zzc hj];rfl
def cwm(H:bw)(v:Ε)(C:List Row)(after n:Int)(hv:dq H 2 v C.length (C.map eh).flatten)(hn:C.length<=1000000):
  SP 233 [Γ after,Γ n,v] [.mem H] (cE (.tuple #[Γ (ly after C),.bool (decide ((C.length:Int)<n))]) [.mem H]):=by
 refine Enzz λW F w hS=>?_;apply cHq;delta NB aI a_ ai;refine zo hv ?_;refine bZ (λh=>?_) (λh=>?_)
 ·obtain⟨j,hj⟩:∃j:Nat,j+1=C.length:=⟨C.length-1,by omega⟩;have gS:j<C.length:=by omega
  rw[cwj (after:=after) hj gS];refine zo hv ?_;refine Gp ?_;rw[show (C.length:Int)-1=(j:Int) by omega];refine QT hS Xh jk hv (x:=C[j]) (zzc gS) gS (i:=0) rfl ?_;refine zo hv ?_;refine Gp ?_;(exact cC hS)
 have he:C=[]:=zzl (by omega);rw[show ly after C=after by rw[he];rfl];refine zo hv ?_;refine Gp ?_;(exact cC hS)
abbrev mQ(w:dG)(rv:Ε):Ξ:=[Γ w.mark,Γ w.after,Γ w.id,Γ w.table,rv,Γ w.dA,.bool w.last,Γ w.n,Γ w.state]
def dH(wp:Nat)(k:dG):zB:=jK λrv:Ε=>zG True [.pt wp (mQ k rv) 192,fH rv k.rows]
def dH.iff{W w:Ζ}{l:Β}{wp:Nat}{k:dG}:SL W (.ob (dH wp k)::l) w↔∃rv,SL W (.pt wp (mQ k rv) 192::fH rv k.rows::l) w:=by
 unfold dH;simp only[SL.ex,SL.fact,uut,zzv,zzr]
def dH.put{W w:Ζ}{l F:Β}{wp:Nat}(k:dG)(rv:Ε)(hS:SL W l w)(p:gC [.pt wp (mQ k rv) 192,fH rv k.rows] l F):SL W (.ob (dH wp k)::F) w:=dH.iff.2 ⟨rv,hS.pick p⟩
def fH.nil{W w:Ζ}{l:Β}(h:SL W l w):SL W (fH Θ []::l) w:=bR.nil h
def cMm(n:Int):SP 206 [Γ n] [] (λv post=>(¬(1<=n/\n<=64)/\v= .tuple #[.pointer none,Γ 1]/\post=[])\/((1<=n/\n<=64)/\∃wp:Nat,v= .tuple #[cG wp,Γ 0]/\post=[.ob (dH wp (mR n))])):=by
 refine Enzz λW F w hS=>?_;apply cGz;delta M9 aI ai cT bI;refine Gp ?_;refine za (λh=>⟨_,.inl ⟨by omega,rfl,rfl⟩,hS⟩) (λh1=>?_);refine Gp ?_;refine za (λh=>⟨_,.inl ⟨by omega,rfl,rfl⟩,hS⟩) (λh2=>?_);refine Gp ?_;refine⟨_,rfl,zC hS λwp w hS=>?_⟩;have hS:=fH.nil hS;exact⟨_,.inr ⟨by omega,wp,rfl,rfl⟩,SL.b_ (dH.put (wp:=wp) (mR n) Θ hS Xp) Xi⟩
section
variable (wp:Nat) (k:dG)
def yY:SP 55 [cG wp] [.ob (dH wp k)] (cE (Γ k.state) [.ob (dH wp k)]):=by
 refine Enzz λW F w hS=>?_;apply cK7;delta Px bU;obtain⟨rv,hS⟩:=dH.iff.1 hS;unfold mQ at hS;refine Gp ?_;exact⟨_,⟨rfl,rfl⟩,SL.b_ (dH.put k rv hS Xp) Xi⟩
def cMk:SP 235 [cG wp] [.ob (dH wp k)] (cE (Γ k.mark) [.ob (dH wp k)]):=by
 refine Enzz λW F w hS=>?_;apply cHs;delta ND a_ bV;obtain⟨rv,hS⟩:=dH.iff.1 hS;unfold mQ at hS;refine Gp ?_;exact⟨_,⟨rfl,rfl⟩,SL.b_ (dH.put k rv hS Xp) Xi⟩
def q5:SP 173 [cG wp] [.ob (dH wp k)] (cE (Γ k.table) [.ob (dH wp k)]):=by
 refine Enzz λW F w hS=>?_;apply cF5;delta MD a_ bV;obtain⟨rv,hS⟩:=dH.iff.1 hS;unfold mQ at hS;refine Gp ?_;exact⟨_,⟨rfl,rfl⟩,SL.b_ (dH.put k rv hS Xp) Xi⟩
def qY:SP 174 [cG wp] [.ob (dH wp k)] (cE (Γ k.after) [.ob (dH wp k)]):=by
 refine Enzz λW F w hS=>?_;apply cF6;delta ME a_ bV;obtain⟨rv,hS⟩:=dH.iff.1 hS;unfold mQ at hS;refine Gp ?_;exact⟨_,⟨rfl,rfl⟩,SL.b_ (dH.put k rv hS Xp) Xi⟩
def cMp(hn:k.rows.length<=1000000):SP 56 [cG wp] [.ob (dH wp k)] (λu post=>post=[fH u k.rows,.ob (dH wp k)]):=by
 refine Enzz λW F w hS=>?_;apply cK8;delta Py a_ bV;obtain⟨rv,hS⟩:=dH.iff.1 hS;unfold mQ at hS;refine Gp ?_;refine Cc (RJ rv k.rows hn) ?_;clear hS;rintro u post rfl w hS;try simp only[app]at hS
 exact⟨_,rfl,SL.b_ (dH.put k rv hS Xp) Xi⟩
def cMn(mark id table after:Int):SP 232 [cG wp,Γ mark,Γ id,Γ table,Γ after] [.ob (dH wp k)] (λv post=>(∃q,v= .bool q)/\post=[.ob (dH wp (k.tQ mark id table after))]):=by
 refine Enzz λW F w hS=>?_;apply cHp;delta NA aI bU cV bV bY ai bI;obtain⟨rv,hS⟩:=dH.iff.1 hS;unfold mQ at hS;have fF:∀{w:Ζ},k.y_ mark id table after->SL W (.pt wp [Γ k.mark,Γ k.after,Γ k.id,Γ k.table,rv,Γ k.dA,.bool k.last,Γ k.n,Γ k.state] 192::fH rv k.rows::F) w->∃post,((∃q,Value.bool false= .bool q)/\post=[.ob (dH wp (k.tQ mark id table after))])/\SL W (app post F) w:=λh hS=>by
  rw[show k.tQ mark id table after=k from zzd h];exact⟨_,⟨⟨_,rfl⟩,rfl⟩,SL.b_ (dH.put k rv hS Xp) Xi⟩
 refine Gp ?_;refine za (λh=>fF (.inl h) hS) (λh0=>?_);refine Gp ?_;refine za (λh=>fF (.inr (by omega)) hS) (λh1=>?_);refine Gp ?_;refine za (λh=>fF (.inr (by omega)) hS) (λh2=>?_);refine Gp ?_;refine za (λh=>fF (.inr (by omega)) hS) (λh3=>?_);refine Gp ?_;refine za (λh=>fF (.inr (by omega)) hS) (λh4=>?_);refine Gp ?_;refine za (λh=>fF (.inr (by omega)) hS) (λh5=>?_);refine Gp ?_;refine za (λh=>fF (.inr (by omega)) hS) (λh6=>?_);refine Gp ?_;refine za (λh=>fF (.inr (by omega)) hS) (λh7=>?_);refine Gp ?_;refine za (λh=>fF (.inr (by omega)) hS) (λh8=>?_);clear fF;have cH:¬k.y_ mark id table after:=by unfold dG.y_;omega
 rw[show k.tQ mark id table after=⟨k.n,1,mark,after,id,table,[],0,false⟩ from zzb cH];refine Gp ?_;refine Ye hS Xu rfl (by simp) (by simp[Value.oneCell']) λw hS=>?_;simp only[List.take,List.drop,zzv,zzr]at hS;refine Gn λw hS=>?_;have hS:=fH.nil hS;exact⟨_,⟨⟨_,rfl⟩,rfl⟩,SL.b_ (dH.put (wp:=wp) ⟨k.n,1,mark,after,id,table,[],0,false⟩ Θ hS Xp) Xi⟩
def cMr:SP 236 [cG wp] [.ob (dH wp k)] (λv post=>(∃q,v= .bool q)/\post=[.ob (dH wp k.shut)]):=by
 refine Enzz λW F w hS=>?_;apply cHt;delta NF aI bU cV bY ai;obtain⟨rv,hS⟩:=dH.iff.1 hS;unfold mQ at hS;unfold dG.shut;refine bZ (λh=>?_) (λh=>?_)
 ·rw[zzb h];exact⟨_,⟨⟨_,rfl⟩,rfl⟩,SL.b_ (dH.put k rv hS Xp) Xi⟩
 rw[zzd (by omega)];refine Gn λw hS=>?_;exact⟨_,⟨⟨_,rfl⟩,rfl⟩,SL.b_ (dH.put {k with state:=3} rv hS Xp) Xi⟩
def cMj(mark:Int):SP 226 [cG wp,Γ mark] [.ob (dH wp k)] (λv post=>(∃q,v= .bool q)/\post=[.ob (dH wp (k.low mark))]):=by
 refine Enzz λW F w hS=>?_;apply cHj;delta Nu aI bU a_ cV bV bY ai;obtain⟨rv,hS⟩:=dH.iff.1 hS;unfold mQ at hS;unfold dG.low;refine bZ (λh=>?_) (λh=>?_)
 ·rw[zzb (by omega)];exact⟨_,⟨⟨_,rfl⟩,rfl⟩,SL.b_ (dH.put k rv hS Xp) Xi⟩
 refine bZ (λh2=>?_) (λh2=>?_)
 ·rw[zzb (by omega)];exact⟨_,⟨⟨_,rfl⟩,rfl⟩,SL.b_ (dH.put k rv hS Xp) Xi⟩
 rw[zzd (by omega)];refine Gn λw hS=>?_;exact⟨_,⟨⟨_,rfl⟩,rfl⟩,SL.b_ (dH.put {k with state:=4} rv hS Xp) Xi⟩
def q6(x:mU):SP 106 [cG wp,agg (fr x)] [.ob (dH wp k)] (cE (.bool (k.waits x.kind x.mark)) [.ob (dH wp k)]):=by
 refine Enzz λW F w hS=>?_;apply cEg;delta Ly aI bU a_ bV bY ai;obtain⟨rv,hS⟩:=dH.iff.1 hS;unfold mQ at hS;refine zw hS λxb w hS=>?_;unfold fr at hS;unfold dG.waits;refine Gn λw hS=>?_;refine za (λh=>?_) (λh=>?_)
 ·refine bZ (λh2=>?_) (λh2=>?_)
  ·refine bZ (λh3=>?_) (λh3=>?_)
   ·rw[zzm (by omega)];exact⟨_,⟨rfl,rfl⟩,SL.b_ (dH.put k rv hS Xp) Xi⟩
   refine Gp ?_;rw[show decide (x.kind=2/\x.mark=k.mark/\(k.state=1\/k.state=2))=decide (k.state=2) by rw[yyi];omega];exact⟨_,⟨rfl,rfl⟩,SL.b_ (dH.put k rv hS Xp) Xi⟩
  rw[zz2 (by omega)];exact⟨_,⟨rfl,rfl⟩,SL.b_ (dH.put k rv hS Xp) Xi⟩
 rw[zz2 (by omega)];exact⟨_,⟨rfl,rfl⟩,SL.b_ (dH.put k rv hS Xp) Xi⟩
end
def Ks:∀(A B:List Row) (k:Int),nX k (A++B)=(nX k A && nX (ly k A) B)
 | [],B,k=>by simp[nX,ly]
 | r::A,B,k=>by
  have e:ly k (r::A)=ly r.key A:=by
   unfold ly;cases A with
   | nil=>rfl
   | cons y A=>rw[uui];rfl
  show (decide (k<r.key/\r.key<=1099511627776) && nX r.key (A++B))=((decide (k<r.key/\r.key<=1099511627776) && nX r.key A) && nX (ly k (r::A)) B);rw[Ks A B r.key,e,Bool.and_assoc]
def cwk(a:Int)(A:List Row)(r:Row):ly a (A++[r])=r.key:=by
 unfold ly;rw[List.getLast?_append];simp
def cMg(wp:Nat)(k:dG)(H:bw)(v:Ε)(C:List Row)(hv:dq H 2 v C.length (C.map eh).flatten)(hn:C.length<=1000000):
  SP 171 [cG wp,v] [.ob (dH wp k),.mem H] (λu post=>(∃q,u= .bool q)/\post=[.ob (dH wp (k.fill C)),.mem H]):=by
 refine Enzz λW F w hS=>?_;apply cF3;delta MB aI bU a_ cV bV bY ai cQ;obtain⟨rv,hS⟩:=dH.iff.1 hS;have fF:∀{w:Ζ} {l:Β},k.w8 C->SL W l w->jU [.pt wp (mQ k rv) 192,fH rv k.rows,.mem H] l->True:=λ_ _ _=>trivial;clear fF;unfold mQ at hS;have fF:∀{w:Ζ},k.w8 C->SL W (.pt wp [Γ k.mark,Γ k.after,Γ k.id,Γ k.table,rv,Γ k.dA,.bool k.last,Γ k.n,Γ k.state] 192::fH rv k.rows::.mem H::F) w->∃post,((∃q,Value.bool false= .bool q)/\post=[.ob (dH wp (k.fill C)),.mem H])/\SL W (app post F) w:=λh hS=>by
  rw[show k.fill C=k from zzd h];exact⟨_,⟨⟨_,rfl⟩,rfl⟩,SL.b_ (dH.put k rv hS Xp) Xi⟩
 refine Gp ?_;refine za (λh=>fF (.inl h) hS) (λh1=>?_);refine zo hv ?_;refine Gp ?_;refine za (λh=>fF (.inr (.inl (by omega))) hS) (λh2=>?_);refine Gp ?_;refine zo hv ?_;refine⟨λus w=>∃i:Nat,us=[Γ (ly k.after (C.take i)),Γ i]/\i<=C.length/\nX k.after (C.take i)=true/\SL W (.pt wp [Γ k.mark,Γ k.after,Γ k.id,Γ k.table,rv,Γ k.dA,.bool k.last,Γ k.n,Γ k.state] 192::fH rv k.rows::.mem H::F) w,
  λus _=>match us with|[_,.int _ i]=>(C.length-i).toNat|_=>0,⟨0,rfl,by omega,rfl,hS⟩,?_⟩
 clear hS;rintro v5 v29 w ⟨i,cP,hi,hr,hS⟩;cases cP;refine bZ (λh=>?_) (λh=>?_)
 ·have cz:i<C.length:=by omega
  have hx:C[i]?=some C[i]:=zzc cz;have fS:C.take (i+1)=C.take i++[C[i]]:=zze cz;have eF:nX k.after C=true->nX k.after (C.take (i+1))=true:=λh=>by
   rw[<- yyk (i+1) C,Ks,zzu]at h;exact h.1
  have rz:nX k.after (C.take (i+1))=decide (ly k.after (C.take i)<C[i].key/\C[i].key<=1099511627776):=by
   rw[fS,Ks,hr];unfold nX;simp[nX]
  refine zD hS Xh jk hv hx cz ?_;generalize C[i]=r at *
  refine Gb λxb w hS=>?_;have gG:∀{w:Ζ},¬(ly k.after (C.take i)<r.key/\r.key<=1099511627776)->SL W (.pt xb (eh r) 66::.pt wp [Γ k.mark,Γ k.after,Γ k.id,Γ k.table,rv,Γ k.dA,.bool k.last,Γ k.n,Γ k.state] 192::fH rv k.rows::.mem H::F) w->∃post,((∃q,Value.bool false= .bool q)/\post=[.ob (dH wp (k.fill C)),.mem H])/\SL W (app post F) w:=λhb hS=>by
   refine fF (.inr (.inr ?_)) (aW hS);cases hq:nX k.after C with
   | false=>rfl
   | true=>rw[eF hq]at rz;exact absurd (zzp rz.symm) hb
  have TL:=@gG;clear fF gG;refine za (λh=>TL (by omega) hS) (λh3=>?_);refine Gp ?_;refine za (λh=>TL (by omega) hS) (λh4=>?_);refine Gp ?_;refine⟨⟨i+1,?_,by omega,?_,aW hS⟩,by dsimp only;omega⟩
  ·rw[fS,cwk]
  rw[rz];exact zzm (by omega)
 have he:C.take i=C:=zz6 (by omega);rw[he]at hr
 have cH:¬k.w8 C:=by
  rintro (h|h|h)
  ·exact h1 h
  ·omega
  rw[hr]at h;cases h
 rw[show k.fill C={k with state:=2,rows:=C,dA:=ly k.after C,last:=decide ((C.length:Int)<k.n)} from zzb cH];clear fF;refine Cc (RL (λv0 w R h=>K2 v0 w R h) rfl (by decide) hv (tR vo C) (by omega) (by omega)) ?_;clear hS;rintro u post rfl w hS;try simp only[app]at hS
 have hS:SL W (fH u C::_) w:=hS;have o1:u.oneCell'=true:=bR.one hS;refine Gn λw hS=>?_;refine Cg (cwm H v C k.after k.n hv hn) λw hS=>?_;exact⟨_,⟨⟨_,rfl⟩,rfl⟩,SL.b_ (dH.put (wp:=wp) {k with state:=2,rows:=C,dA:=ly k.after C,last:=decide ((C.length:Int)<k.n)} u hS Xp) Xi⟩
def bIm{D:List Row}{i:Nat}(hi:i<D.length)(x:Row)(rest:Ξ):((D.map eh).flatten++rest).take (0+i*2)++eh x++((D.map eh).flatten++rest).drop (0+i*2+2)=((D.set i x).map eh).flatten++rest:=by
 have hl:((D.map eh).flatten).length=D.length*2:=oV jk D;rw[yye,xxf (by omega),xxg (by omega),show i*2+2=(i+1)*2 by omega,uo jk,vr jk,xxh,zzd hi];simp
def YP(cb:Nat)(c:ep)(r:Row):SP 339 [agg (eh r),cG cb] [.pt cb (fR c) 56] (cE (.bool (decide (r.key=c.key))) [.pt cb (fR c) 56]):=by
 refine Enzz λW F w hS=>?_;apply cJ1;delta OW a_;refine zw hS λxb w hS=>?_;unfold eh at hS;unfold fR at hS ⊢;refine Gp ?_;(exact cC hS)
def a_9(cb:Nat)(c:ep)(v:Ε)(C:List Row)(hn:C.length<=1000000):
  SP 338 [v,.func (.func 339) #[] #[cG cb]] [.pt cb (fR c) 56,fH v C] (λu post=>post=[.pt cb (fR c) 56,fH u (C.filter λr=>!decide (r.key=c.key))]):=by
 refine Enzz λW F w hS=>?_;apply cJ0;delta OV aI cL ai cQ;have hC:=Jz (t:=66) jk rfl (λv0 v1 w R h=>cKj v0 v1 w R h) (λr=>YP cb c r) v C (by omega);simp only[zzv,zzr]at hC;refine Cg (hC) λw hS=>?_;cases hf:C.findIdx? (λr=>decide (r.key=c.key)) with
 | none=>
  simp only[lq];refine za (λ_=>?_) (λh=>absurd trivial h);have e:C.filter (λr=>!decide (r.key=c.key))=C:=yy3.2 λr hr=>by
   have:=xxs.1 hf r hr;rw[this];rfl
  rw[e];exact⟨_,rfl,aW hS⟩
 | some i0=>
  obtain⟨vF,xz,ry⟩:=yyn.1 hf;have uA:(C.take (i0+1)).filter (λr=>!decide (r.key=c.key))=C.take i0:=by
   rw[zze vF,yyv,yy3.2 λr hr=>by
    obtain⟨j,hj,rfl⟩:=yyl hr;rw[zzg]at hj
    rw[uul];have:=ry j (by omega);simpa using this]
   simp at xz;simp[xz]
  simp only[lq];refine za (λh=>by omega) (λ_=>?_);rcases bR.open (SL.b_ hS (t:=fH v C::.pt cb (fR c) 56::F) Xi) with ⟨_,h0,_⟩|⟨b,cap,rest,rfl,o_,hlen,jP,hS⟩
  ·omega
  refine Gp ?_;refine⟨λus w=>∃(i j:Nat) (D:List Row),us=[Γ i,Γ j]/\i<j/\j<=C.length/\D.length=C.length/\D.take i=(C.take j).filter (λr=>!decide (r.key=c.key))/\D.drop j=C.drop j/\SL W (.pt b ((D.map eh).flatten++rest) 66::.pt cb (fR c) 56::F) w,
   λus _=>match us with|[_,.int _ j]=>(C.length-j).toNat|_=>0,⟨i0,i0+1,C,rfl,by omega,by omega,rfl,uA.symm,rfl,aW hS⟩,?_⟩
  clear hS hf vF xz ry uA;rintro v5 v6 w ⟨i,j,D,cP,sD,hj,hD,ht,hd,hS⟩;cases cP;refine bZ (λh=>?_) (λh=>?_)
  ·have gS:j<C.length:=by omega
   have TQ:j<D.length:=by omega
   have hxe:D[j]=C[j]:=by
    have h1:(D.drop j)[0]?=(C.drop j)[0]?:=by rw[hd]
    rw[wws,wws,xxn,zzc TQ,zzc gS]at h1
    simpa using h1
   have fS:C.take (j+1)=C.take j++[C[j]]:=zze gS;have Fo:D.drop (j+1)=C.drop (j+1):=by
    rw[<- vvb,<- vvb,hd]
   have Fk:∀q u,(eh D[j])[q]?=some u->((D.map eh).flatten++rest)[0+j*2+q]?=some u:=λq u hu=>by
    rw[yye];have:=pP jk D j q D[j] u (zzc TQ) hu;rw[zzs (zzf.1 this).1];exact this
   refine zF gS ?_;refine yG hS Xh rfl Fk ?_;rw[hxe];generalize C[j]=r at *
   refine Gb λxb w hS=>?_;refine yg (args':=[agg (eh r),cG cb]) rfl (YP cb c r) rfl hS Xp ?_;clear hS;rintro _ post ⟨rfl,rfl⟩ w hS;(try simp only[app]at hS);refine Gp ?_
   refine zt (λhq=>?_) (λhq=>?_)
   ·refine zA hS Xh rfl ?_;refine zF (show i<C.length by omega) ?_;refine Ye hS Xu rfl ?_ (vo _) λw hS=>?_
    ·rw[zza,oV jk];omega
    rw[bIm (by omega)]at hS
    refine Gp ?_;refine⟨⟨i+1,j+1,D.set i r,rfl,by omega,by omega,by rw[yyj];exact hD,?_,?_,aW hS⟩,by dsimp only;omega⟩
    ·rw[fS,yyv,<- ht];have:([r].filter λr=>!decide (r.key=c.key))=[r]:=by simp[hq]
     rw[this,zze (by rw[yyj];omega),List.getElem_set_self,List.take_set_of_le (zzj _)]
    rw[List.drop_set_of_lt (by omega)];exact Fo
   refine Gp ?_;refine⟨⟨i,j+1,D,rfl,by omega,by omega,hD,?_,Fo,aW hS⟩,by dsimp only;omega⟩;rw[fS,yyv,<- ht];have:([r].filter λr=>!decide (r.key=c.key))=[]:=by simp[hq]
   rw[this,zz1]
  have hjc:j=C.length:=by omega
  subst hjc;rw[zz4]at ht
  rw[<- ht];have hl:((D.map eh).flatten).length=D.length*2:=oV jk D;refine⟨some ⟨b,0,none⟩,C.length,cap,i,C.length,cap,rfl,rfl,rfl,⟨_,rfl⟩,by omega,by omega,by omega,?_⟩;rw[zzb (show ¬cap=i by omega)];simp only[yyh,yyd,yye];have hA:((D.map eh).flatten.take (i*2)).length=i*2:=by rw[zzg,hl];omega
  have e2:((D.map eh).flatten++rest).take (i*2)++cK [Γ 0,.string ⟨#[]⟩] (C.length-i)++((D.map eh).flatten++rest).drop (i*2+(cK [Γ 0,.string ⟨#[]⟩] (C.length-i)).length)=(D.map eh).flatten.take (i*2)++(cK [Γ 0,.string ⟨#[]⟩] (C.length-i)++rest):=by
   have:=RM ((D.map eh).flatten.take (i*2)) ((D.map eh).flatten.drop (i*2)) (cK [Γ 0,.string ⟨#[]⟩] (C.length-i)) rest (by rw[zzq,hl,lV];show _=(C.length-i)*2;omega);rw[hA,<- zzk ((D.map eh).flatten.take (i*2)) ((D.map eh).flatten.drop (i*2)) rest,yyk]at this
   exact this
  refine WL (tt:=66) (z:=[Γ 0,.string ⟨#[]⟩]) (zv:=.agg #[Γ 0,.string ⟨#[]⟩]) (n:=C.length-i) (o:=i*2) (cs:=(D.map eh).flatten++rest) (l':=.pt b ((D.map eh).flatten.take (i*2)++(cK [Γ 0,.string ⟨#[]⟩] (C.length-i)++rest)) 66::.pt cb (fR c) 56::F) hS ?_ wwa (λw=>by kernel_rfl) rfl (by simp[Value.oneCell']) (by omega) (by rw[zza,hl];show i*2+(C.length-i)*2<=_;omega) ?_
  ·rw[show (C.length-i)*([Γ 0,Value.string ⟨#[]⟩]:Ξ).length=(cK [Γ 0,.string ⟨#[]⟩] (C.length-i)).length from (lV _ _).symm,e2];exact gh.hd
  intro u w hS;refine⟨some ⟨b,0,none⟩,C.length,cap,0,i,cap,rfl,rfl,⟨_,rfl⟩,rfl,by omega,by omega,by omega,?_⟩;rw[zzb (show ¬cap=0 by omega)];simp only[yyh,yyd,uuj,xxn,wwv];have hS:=bR.mk (n:=i) (cap:=cap) (sz:=2) (rest:=cK [Γ 0,.string ⟨#[]⟩] (C.length-i)++rest) (by omega) hA (by rw[zza,jP,lV];show (C.length-i)*2+_=_;omega) hS;rw[uo jk]at hS
  have cz:(D.take i).length=i:=by rw[zzg];omega
  refine⟨_,rfl,?_⟩;have hS:SL W (fH (.slice (some ⟨b,0,none⟩) i cap) (D.take i)::.pt cb (fR c) 56::F) w:=by unfold fH;rw[cz];exact hS
  exact aW hS
def bVk(t:Int)(l:List ep)(i:Nat)(h:i<l.length)(r:Row):lj t (l.take (i+1)) r=(lj t (l.take i) r || decide (l[i].table=t/\l[i].key=r.key)):=by
 unfold lj;rw[zze h,List.any_append];simp
def cMq(wp:Nat)(k:dG)(H:bw)(v:Ε)(l:List ep)(hv:dq H 4 v l.length (l.map fR).flatten)(hn:k.rows.length<=1000000)(hl:l.length<=140737488351232):
  SP 293 [cG wp,v] [.ob (dH wp k),.mem H] (λu post=>(∃q,u= Γ q)/\post=[.ob (dH wp (k.rP l)),.mem H]):=by
 refine Enzz λW F w hS=>?_;apply cI0;delta Ol aI bU a_ bV ai cQ;obtain⟨rv,hS⟩:=dH.iff.1 hS;unfold mQ at hS;unfold dG.rP;refine bZ (λh=>?_) (λh=>?_)
 ·rw[zzb h];exact⟨_,⟨⟨_,rfl⟩,rfl⟩,SL.b_ (dH.put k rv hS Xp) Xi⟩
 rw[zzd (by omega)];refine Gp ?_;refine zu hS (v:=rv) (t:=66) (sz:=2) (n:=k.rows.length) (cells:=(k.rows.map eh).flatten) Xh ?_;refine zo hv ?_;refine⟨λus w=>∃(i:Nat) (ru:Ε),us=[Γ i]/\i<=l.length/\SL W (.pt wp [Γ k.mark,Γ k.after,Γ k.id,Γ k.table,ru,Γ k.dA,.bool k.last,Γ k.n,Γ k.state] 192::fH ru (k.rows.filter λr=>!lj k.table (l.take i) r)::.mem H::F) w,
  λus _=>match us with|[.int _ i]=>(l.length-i).toNat|_=>0,⟨0,rv,rfl,by omega,?_⟩,?_⟩
 ·have:(k.rows.filter λr=>!lj k.table (l.take 0) r)=k.rows:=yy3.2 λr _=>by simp[lj]
  rw[this];exact aW hS
 clear hS;rintro v21 w ⟨i,ru,cP,hi,hS⟩;cases cP;refine bZ (λh=>?_) (λh=>?_)
 ·have cz:i<l.length:=by omega
  have hx:l[i]?=some l[i]:=zzc cz;have na:(k.rows.filter λr=>!lj k.table (l.take i) r).length<=k.rows.length:=yyp _ _;refine zD hS Xh te hv hx cz ?_;have ll:∀r,lj k.table (l.take (i+1)) r=(lj k.table (l.take i) r || decide (l[i].table=k.table/\l[i].key=r.key)):=bVk k.table l i cz;generalize l[i]=c at *
  refine Gb λxb w hS=>?_;refine za (λh2=>?_) (λh2=>?_)
  ·refine Gp ?_;refine Cc (a_9 xb c ru (k.rows.filter λr=>!lj k.table (l.take i) r) (by omega)) ?_;clear hS;rintro u post rfl w hS;try simp only[app]at hS
   have hS:SL W (fH u ((k.rows.filter λr=>!lj k.table (l.take i) r).filter λr=>!decide (r.key=c.key))::.pt xb (fR c) 56::.pt wp [Γ k.mark,Γ k.after,Γ k.id,Γ k.table,ru,Γ k.dA,.bool k.last,Γ k.n,Γ k.state] 192::.mem H::F) w:=aW hS;have o1:u.oneCell'=true:=bR.one hS;refine Gn λw hS=>?_;refine⟨⟨i+1,u,rfl,by omega,?_⟩,by dsimp only;omega⟩;have e:(k.rows.filter λr=>!lj k.table (l.take (i+1)) r)=((k.rows.filter λr=>!lj k.table (l.take i) r).filter λr=>!decide (r.key=c.key)):=by
    rw[List.filter_filter];refine uuo λr _=>?_;rw[ll r];have:decide (c.table=k.table/\c.key=r.key)=decide (r.key=c.key):=by rw[yyi];omega
    rw[this];cases lj k.table (l.take i) r<;>cases decide (r.key=c.key)<;>rfl
   rw[e];exact aW hS
  refine Gp ?_;refine⟨⟨i+1,ru,rfl,by omega,?_⟩,by dsimp only;omega⟩;have e:(k.rows.filter λr=>!lj k.table (l.take (i+1)) r)=(k.rows.filter λr=>!lj k.table (l.take i) r):=by
   refine uuo λr _=>?_;rw[ll r,zz2 (by omega),Bool.or_false]
  rw[e];exact aW hS
 have:l.take i=l:=zz6 (by omega);rw[this]at hS
 have na:(k.rows.filter λr=>!lj k.table l r).length<=k.rows.length:=yyp _ _;refine Gp ?_;refine zu hS (v:=ru) (t:=66) (sz:=2) (n:=(k.rows.filter λr=>!lj k.table l r).length) (cells:=((k.rows.filter λr=>!lj k.table l r).map eh).flatten) Xh ?_;refine Gp ?_;exact⟨_,⟨⟨_,rfl⟩,rfl⟩,SL.b_ (dH.put {k with rows:=k.rows.filter λr=>!lj k.table l r} ru hS Xp) Xi⟩
abbrev uP:iD:=⟨0,Θ,Θ⟩
def wv(wp:Nat)(k:dG)(H:bw)(mark aw:Int)(u:Ε)(post:Β):Prop:=match (k.high mark aw).2 with
 | none=>u= .tuple #[agg (eP uP),.bool false]/\post=[.ob (dH wp k),.mem H]
 | some t=>∃(x:iD) (H':bw),H.le H'/\u= .tuple #[agg (eP x),.bool true]/\ie H' x t/\post=[.ob (dH wp (mR k.n)),.mem H']
def J6{a:Int}{u v:Ε}(h1:u.oneCell'=true)(h2:v.oneCell'=true):∀x∈[Γ a,u,v],x.oneCell'=true:=by
 intro x hx;simp only[zz0,xxq,vvz]at hx;rcases hx with rfl|rfl|rfl
 ·rfl
 ·exact h1
 exact h2
def Yk(wp:Nat)(k:dG)(H:bw)(mark aw:Int)(hn:k.rows.length<=1000000):SP 294 [cG wp,Γ mark,Γ aw] [.ob (dH wp k),.mem H] (wv wp k H mark aw):=by
 refine Enzz λW F w hS=>?_;apply cI1;delta Om aI bU a_ cV aR bV Ch ai cQ bI;obtain⟨rv,hS⟩:=dH.iff.1 hS;have fF:∀{w:Ζ} {rb:Nat},k.uD mark aw->SL W (.pt rb [Γ 0,Θ,Θ] 214::.pt wp (mQ k rv) 192::fH rv k.rows::.mem H::F) w->∃post,wv wp k H mark aw (.tuple #[agg (eP uP),.bool false]) post/\SL W (app post F) w:=λh hS=>by
  have e:(k.high mark aw).2=none:=by unfold dG.high;rw[zzd h]
  refine⟨[.ob (dH wp k),.mem H],?_,SL.b_ (dH.put k rv hS Xp) Xi⟩;unfold wv;rw[e];exact⟨rfl,rfl⟩
 refine Gb λrb w hS=>?_;refine za (λh=>?_) (λh1=>?_)
 ·refine Gn λw hS=>?_;exact fF (.inl h) hS
 refine bZ (λh=>?_) (λh2=>?_)
 ·refine Gn λw hS=>?_;exact fF (.inr (.inl h)) hS
 refine bZ (λh=>?_) (λh3=>?_)
 ·refine Gn λw hS=>?_;exact fF (.inr (.inr (by omega))) hS
 refine bZ (λh=>?_) (λh4=>?_)
 ·refine Gn λw hS=>?_;exact fF (.inr (.inr (by omega))) hS
 clear fF;have cH:¬k.uD mark aw:=by unfold dG.uD;omega
 have e:(k.high mark aw).2=some ⟨aw,ka k aw,[rK k]⟩:=by unfold dG.high;rw[zzb cH]
 refine⟨λus w=>∃(b nb:Nat),us=[cG b]/\SL W (.pt b [Γ aw,Θ,.slice (some ⟨nb,0,none⟩) 1 1] 214::.pt nb [Γ 2,Γ k.id,Γ 0,Γ 0,Γ 0,Γ k.dA,.bool k.last] 393::.pt rb [Γ 0,Θ,Θ] 214::.pt wp (mQ k rv) 192::fH rv k.rows::.mem H::F) w,?_,?_⟩
 ·refine Gn λw hS=>?_;refine⟨?_,?_⟩
  ·refine Gb λnb w hS=>?_;refine Gb λb w hS=>?_;exact⟨b,nb,rfl,aW hS⟩
  refine Gb λb w hS=>?_;refine Gb λnb w hS=>?_;exact⟨b,nb,rfl,aW hS⟩
 clear hS;rintro v8 w ⟨b,nb,cP,hS⟩;cases cP;refine Gp ?_;refine zu hS (v:=rv) (t:=66) (sz:=2) (n:=k.rows.length) (cells:=(k.rows.map eh).flatten) Xh ?_;have xI:(ka k aw).length=k.rows.length:=zzn ..;have hS:SL W (.ob (bR Θ 390 5 ((ka k aw).take 0).length (((ka k aw).take 0).map jF).flatten)::_) w:=bR.nil hS;refine⟨λus w=>∃(i:Nat) (ov:Ε),us=[Γ i]/\i<=k.rows.length/\SL W (.ob (bR ov 390 5 ((ka k aw).take i).length (((ka k aw).take i).map jF).flatten)::.pt b [Γ aw,ov,.slice (some ⟨nb,0,none⟩) 1 1] 214::.pt nb [Γ 2,Γ k.id,Γ 0,Γ 0,Γ 0,Γ k.dA,.bool k.last] 393::.pt rb [Γ 0,Θ,Θ] 214::.pt wp (mQ k rv) 192::fH rv k.rows::.mem H::F) w,
  λus _=>match us with|[.int _ i]=>(k.rows.length-i).toNat|_=>0,⟨0,Θ,rfl,by omega,aW hS⟩,?_⟩
 clear hS;rintro v59 w ⟨i,ov,cP,hi,hS⟩;cases cP;refine bZ (λh=>?_) (λh=>?_)
 ·have cz:i<k.rows.length:=by omega
  have hx:k.rows[i]?=some k.rows[i]:=zzc cz;have fh:(ka k aw)[i]'(by omega)=⟨aw,k.table,k.rows[i].key,false,k.rows[i].val⟩:=by unfold ka;rw[xx5]
  have fS:(ka k aw).take (i+1)=(ka k aw).take i++[⟨aw,k.table,k.rows[i].key,false,k.rows[i].val⟩]:=by rw[zze (by omega),fh]
  have FB:((ka k aw).take i).length=i:=by rw[zzg];omega
  refine zT hS (v:=rv) (t:=66) Xh jk hx cz ?_;generalize k.rows[i]=r at *
  refine Gb λxb w hS=>?_;refine Gb λyb w hS=>?_;refine yx (n:=((ka k aw).take i).length) (xs:=(ka k aw).take i) (y:=⟨aw,k.table,r.key,false,r.val⟩) (enc:=jF) hS Xr Xh wV (λx=>Cv x) rfl (by omega) (by omega) λv2 w hS=>?_;have hS:=hS.p8 (x:=(⟨aw,k.table,r.key,false,r.val⟩:gr));rw[<- fS]at hS
  have o1:v2.oneCell'=true:=bR.one hS;refine Gn λw hS=>?_;exact⟨⟨i+1,v2,rfl,by omega,aW hS⟩,by dsimp only;omega⟩
 have he:(ka k aw).take i=ka k aw:=zz6 (by omega);rw[he]at hS
 have o1:ov.oneCell'=true:=bR.one hS;refine Gp ?_;refine Ye hS Xu rfl (by simp) (by simp[Value.oneCell']) λw hS=>?_;simp only[List.take,List.drop,zzv,zzr]at hS;refine Gn λw hS=>?_;refine zr (vs:=[Γ aw,ov,.slice (some ⟨nb,0,none⟩) 1 1]) hS Xu rfl rfl (J6 o1 rfl) λw hS=>?_;refine Gp ?_;obtain⟨H1,dj,jG,hS⟩:=zz (H:=H) (v:=ov) hS Xp;obtain⟨H2,dU,pQ,hS⟩:=SL.Kr (sz:=7) (H:=H1) (b:=nb) hS Xp rfl;have hS:=fH.nil hS;have hS:=dH.put (wp:=wp) (mR k.n) Θ hS Xp;refine⟨[.ob (dH wp (mR k.n)),.mem H2],?_,aW hS⟩;unfold wv;rw[e];exact⟨⟨aw,ov,.slice (some ⟨nb,0,none⟩) 1 1⟩,H2,bw.le_trans dj dU,rfl,⟨rfl,jG.mono dU,pQ⟩,rfl⟩
abbrev btc(e u l:Int):Ξ:=[Γ e,Γ u,Γ l]
abbrev jh(p:Nat)(e u l:Int):Μ:=.pt p (btc e u l) 201
def ZB(p:Nat)(e u l now:Int)(he:1<=e/\e<=1073741824):SP 204 [Δ p,Γ now] [jh p e u l] (cE (.tuple #[]) [jh p e (jf e now) l]):=by
 refine Enzz λW F w hS=>?_;apply cGx;delta M7 bU cV ai;have e1:min (max now 0) 1125899906842624+e=jf e now:=rfl;refine Gn λw hS=>?_;rw[e1]at hS
 (exact cC hS)
def aRq(e now aw:Int)(he:1<=e/\e<=1073741824)(hn:0<=now/\now<=1125899906842624)(hl:0<=aw/\aw<=1099511627776):SP 147 [Γ e,Γ now,Γ aw] [] (λv post=>∃p:Nat,v= .tuple #[Δ p,Γ 0]/\post=[jh p e (jf e now) aw]):=by
 refine Enzz λW F w hS=>?_;apply cFd;delta Mb aI bV ai cT;refine Gp ?_;refine za (λh=>by omega) (λ_=>?_);refine Gp ?_;refine za (λh=>by omega) (λ_=>?_);refine Gp ?_;refine za (λh=>by omega) (λ_=>?_);refine Gp ?_;refine za (λh=>by omega) (λ_=>?_);refine Gp ?_;refine za (λh=>by omega) (λ_=>?_);refine Gp ?_;refine za (λh=>by omega) (λ_=>?_);refine Gp ?_;refine⟨_,rfl,zC hS λp w hS=>?_⟩;refine Gp ?_;refine Cg (ZB p e 0 aw now he) λw hS=>?_;exact⟨_,⟨p,rfl,rfl⟩,aW hS⟩
def Yl(p:Nat)(e u l x:Int):SP 169 [Δ p,Γ x] [jh p e u l] (cE (.tuple #[]) [jh p e u (max l x)]):=by
 refine Enzz λW F w hS=>?_;apply cF0;delta My bU cV;refine Gn λw hS=>?_;(exact cC hS)
def Zh(p:Nat)(e u l now at_ cr:Int):SP 66 [Δ p,Γ now,Γ at_,Γ cr] [jh p e u l] (cE (.bool (decide (u<=now/\(at_<=l\/0<cr)))) [jh p e u l]):=by
 refine Enzz λW F w hS=>?_;apply cLh;delta PI aI bU a_ bV bY ai;refine bZ (λh1=>?_) (λh1=>?_)
 ·refine bZ (λh2=>?_) (λh2=>?_)
  ·rw[zzm (p:=u<=now/\(at_<=l\/0<cr)) ⟨by omega,.inl (by omega)⟩];(exact cC hS)
  refine Gp ?_;rw[show decide (u<=now/\(at_<=l\/0<cr))=decide (0<cr) from yyi.2 ⟨λh=>by omega,λh=>by omega⟩];(exact cC hS)
 rw[zz2 (p:=u<=now/\(at_<=l\/0<cr)) (by omega)];(exact cC hS)
def q8(p:Nat)(e u l:Int):SP 59 [Δ p] [jh p e u l] (cE (Γ u) [jh p e u l]):=by
 refine Enzz λW F w hS=>?_;apply cLb;delta PB a_ bV;refine Gp ?_;(exact cC hS)
def qd(p:Nat)(e u l:Int):SP 71 [Δ p] [jh p e u l] (cE (Γ l) [jh p e u l]):=by
 refine Enzz λW F w hS=>?_;apply cLm;delta PN bU;refine Gp ?_;(exact cC hS)
def yj(p:Nat)(e u l now at_ cr:Int)(he:1<=e/\e<=1073741824)(hr:u<=now/\(at_<=l\/0<cr)):SP 177 [Δ p,Γ now,Γ at_,Γ cr] [jh p e u l]
  (λv post=>if at_<=l then v= .tuple #[agg (eP uP),Γ 9]/\post=[jh p e (jf e now) l] else v= .tuple #[agg (eP ⟨at_,Θ,Θ⟩),Γ 8]/\post=[jh p e (jf e now) at_]):=by
 refine Enzz λW F w hS=>?_;apply cF9;delta MH aI bU cV bV cL ai bI;refine Gb λxb w hS=>?_;refine Cg (Zh p e u l now at_ cr) λw hS=>?_;refine zt (λh=>by rw[zzm hr]at h;cases h) (λ_=>?_);refine Gp ?_;refine Cg (ZB p e u l now he) λw hS=>?_;refine za (λh=>?_) (λh=>?_)
 ·refine Gn λw hS=>?_;exact⟨_,(zzd h).mpr ⟨rfl,rfl⟩,aW hS⟩
 refine Gn λw hS=>?_;exact⟨_,(zzb h).mpr ⟨rfl,rfl⟩,aW hS⟩

/- Part of the proof. -/
import Derived.Test.YtmkllimamejcgaaGreatJ10
import Derived.Test.YtmkllimamejcgaaGreatQVcW
import Derived.Test.YtmkllimamejcgaaGreatQVcK
namespace Go.Proofs.YtmkllimamejcgaaGreat
set_option linter.all false
open Go.RowKit
def ttc:=@Bool.not_eq_true'
def uum:=@List.filter_congr
structure CC(c:jI)(k:jD)(n:Nat):Prop where
 n1:1<=n
 n8:n<=8
 tables:c.tables=n
 W2:0<=c.late
 W3:c.late<2 ^ n
 s0:64<=c.size
 s1:c.size<=65536
 queue:c.queue=k.cap
 q1:1<=k.cap
 Gr:k.cap<=64
 c1:1<=c.chunk
 BE:c.chunk<=64
 batch:c.batch=k.fW
 b1:1<=k.fW
 JU:k.fW<=64
 base:c.base=k.b
 cm:c.fW=k.m
 WO:c.wy=k.j
 may:u_ k.b k.m k.j
 e1:1<=c.every
 e2:c.every<=1073741824
structure dF where
 s:km
 k:g_
 m:iK
 dr:iI
 q:List fF
 pos:Int
 due:Int
 last:Int
 iG:Ξ
 now:Int
def dF.src(c:dF):g_:={c.k with d:=c.s.k.d}
def dF.oe(c:dF)(k:g_):dF:={c with k:=k,s:={c.s with k:={c.s.k with d:=k.d}}}
def dF.p2(cf:jI)(c:dF):ky:=⟨c.src,c.m,c.dr,cf.chunk⟩
def dF.I9(c:dF)(p:ky):dF:={c.oe p.k with m:=p.m,dr:=p.d}
def dF.pw(kc:jD)(c:dF):Nat:=kc.cap-c.s.L.length-c.s.out
def dF.head(c:dF):Int:=f_ c.k.g.bF
def dF.en(kc:jD)(c:dF)(comp:Int):Bool:=
 if c.s.k.d.off=true then false
 else if comp=0 then decide (c.pos<c.head/\c.q.length<kc.cap)
 else if comp=1 then (match c.q with
  | []=>false
  | t::_=>decide (0<c.pw kc) && !(c.m.dI.waits t.kind t.mark))
 else if comp=2 then Gs c.m
 else if comp=3 then c.s.ready c.now
 else if comp=4 then decide (c.due<=c.now/\(c.m.at_<=c.last\/0<c.pw kc))
 else false
structure uv where
 err:Int
 aw:Int
 l6:Int
deriving DecidableEq
def AO(t:uv):Γ:=[.int .i64 t.err,.int .i64 t.aw,.int .i64 t.l6]
def dF.put(c:dF)(x:eF):dF:={c with s:={c.s with L:=c.s.L++[x]}}
def dF.read(c:dF):dF × uv:=match c.src.mF (c.pos+1) with
 | .error e=>(c,⟨e,0,0⟩)
 | .ok t=>({c with q:=c.q++[t],pos:=c.pos+1},⟨0,0,1⟩)
def dF.Eo(c:dF)(x:eF):dF:=if 0<x.ops.length+x.notes.length then {c.put x with last:=max c.last x.aw} else c
def dF.take(c:dF):dF × uv:=match c.q with
 | []=>(c,⟨0,0,0⟩)
 | t::q=>let r:=c.m.take t;(({c with q:=q,m:=r.1}:dF).Eo r.2.1,⟨0,0,2⟩)
def dF.draw(c:dF):Int:=c.iG.headD 0
def dF.write(kc:jD)(c:dF):dF × uv:=
 let r:=c.s.step kc c.now c.draw
 ({c with s:=r.1,iG:=if r.2.1=7 then c.iG.tail else c.iG},⟨r.2.2,0,r.2.1⟩)
def nD(every now:Int):Int:=min (max now 0) 1125899906842624+every
def dF.tell(cf:jI)(c:dF):dF × uv:=
 if c.m.at_<=c.last then ({c with due:=nD cf.every c.now},⟨0,0,9⟩)
 else ({c.put ⟨c.m.at_,[],[]⟩ with due:=nD cf.every c.now,last:=c.m.at_},⟨0,0,8⟩)
def dF.snap(cf:jI)(c:dF):dF × uv:=let r:=(c.p2 cf).step;(c.I9 r.1,⟨r.2.2,0,r.2.1⟩)
def dF.pick(cf:jI)(kc:jD)(c:dF)(comp:Int):dF × uv:=
 if comp<0\/5<=comp then (c,⟨1,0,0⟩)
 else if c.en kc comp=false then (c,⟨0,0,0⟩)
 else if comp=0 then c.read
 else if comp=1 then c.take
 else if comp=2 then c.snap cf
 else if comp=3 then c.write kc
 else c.tell cf
def dF.fault(c:dF)(f:kY):dF × Int:=
 if nc f=false then (c,1)
 else if 1024<=c.s.k.plan.length then (c,7)
 else ({c with s:={c.s with k:={c.s.k with plan:=c.s.k.plan++[f]}}},0)
def dF.tick(c:dF)(n:Int):dF × Int:=
 if n<1\/1073741824<n then (c,1) else if 1125899906842624<c.now+n then (c,7) else ({c with now:=c.now+n},0)
def dF.drawn(c:dF)(x:Int):dF × Int:=
 if x<0\/1125899906842624<x then (c,1) else if 1024<=c.iG.length then (c,7) else ({c with iG:=c.iG++[x]},0)
def dF.Da(c:dF)(x:Int):dF × Int:=
 if x<0\/1073741824<x then (c,1) else ({c with s:={c.s with k:={c.s.k with d:=c.s.k.d.vg x}}},0)
def dF.trim(c:dF):dF × Int:=let r:=c.src.mG c.s.k.aw;(c.oe r.1,r.2)
def dF.start(cf:jI)(k:g_)(sk:gF)(now:Int):dF:=
 ⟨⟨sk,[],0,0,0,sY,0⟩,k,⟨cf.tables,cf.late,sk.aw,sk.reqs,rY cf.chunk⟩,BO,[],sk.aw,nD cf.every now,sk.aw,[],now⟩
def X0(cf:jI)(d:DS)(now:Int):DS × Except Int dF:=match pG d cf.tables cf.size with
 | (d1,.error e)=>(d1,.error e)
 | (_,.ok k)=>match oX k.d cf.tables cf.size with
  | (d2,.error e)=>(d2,.error e)
  | (_,.ok sk)=>(sk.d,.ok (dF.start cf k sk now))
def dF.jO(cf:jI)(c:dF)(keep:Ξ):dF:=match X0 cf (c.s.k.d.jO keep) c.now with
 | (_,.ok c')=>c'
 | (_,.error _)=>c
def dF.other(cf:jI)(c:dF)(s:lZ):dF × Int:=
 if s.kind=3 then c.fault s.ft
 else if s.kind=4 then c.tick s.n
 else if s.kind=5 then c.drawn s.n
 else if s.kind=6 then c.trim
 else if s.kind=7 then c.Da s.n
 else if s.kind=8 then (c.jO cf s.keep,0)
 else (c,1)
def dF.vj(c:dF)(s:lZ):dF × uv:=let r:=c.src.tg s.sg s.l;(c.oe r.1,⟨r.2.2,r.2.1,0⟩)
def dF.lT(cf:jI)(kc:jD)(c:dF)(s:lZ):dF × uv:=
 if c.s.k.d.off=true/\s.kind≠8 then (c,⟨8,0,0⟩)
 else if s.kind=1 then c.vj s
 else if s.kind=2 then c.pick cf kc s.n
 else ((c.other cf s).1,⟨(c.other cf s).2,0,0⟩)
structure GR where
 aw:Int
 head:Int
 low:Int
 clock:Int
 at_:Int
 pos:Int
 read:Int
 fRf:Int
 held:Int
 pw:Int
 dI:Int
 rows:Int
 ll:Int
 kB:Int
 due:Int
 down:Bool
deriving DecidableEq
def BS(l:GR):Γ:=[.int .i64 l.aw,.int .i64 l.head,.int .i64 l.low,.int .i64 l.clock,.int .i64 l.at_,.int .i64 l.pos,.int .i64 l.read,.int .i64 l.fRf,.int .i64 l.held,.int .i64 l.pw,.int .i64 l.dI,.int .i64 l.rows,.int .i64 l.ll,.int .i64 l.kB,.int .i64 l.due,.bool l.down]
def dF.look(kc:jD)(c:dF):GR:=
 ⟨c.s.k.aw,c.head,j7 c.k.g.bF,c.now,c.m.at_,c.pos,c.q.length,c.s.L.length,c.s.out,(c.pw kc:Nat),c.m.dI.state,c.m.dI.rows.length,c.s.ll,c.s.kB,c.due,c.s.k.d.off⟩
def oE(l:List eF):List mn:=(l.map (·.notes)).flatten
def e_9(l l':List eF):oE (l++l')=oE l++oE l':=by simp[oE]
def WY(l:List eF):(oD l).notes=oE l:=by
 suffices h:∀(l:List eF) (a:eF),(l.foldl jn a).notes=a.notes++oE l from h l sY
 intro l;induction l with
 | nil=>intro a;simp[oE]
 | cons x l ih=>intro a;rw[wwd,ih];simp[jn,oE]
def W1{l:List eF}(h:l≠[])(b b':Int):mN b l=mN b' l:=by
 cases l with
 | nil=>exact absurd rfl h
 | cons x l=>rfl
structure xG(n:Nat)(x:eF):Prop where
 w:AG n x
 nt:∀m∈x.notes,m.kind≠2->m.table<(n:Int)
structure nU(kc:jD)(n:Nat)(s:km)(hd:List eF)(last:Int)(R:List Rq)(f:Nat):Prop where
 it:∀x∈hd++s.L,xG n x
 od:kI 0 (hd++s.L)
 le:mN 0 (hd++s.L)<=last
 hn:hd.length=s.n
 held:s.held=oD hd
 room:s.L.length+s.out<=kc.cap
 out:s.out=s.n
 l0:0<=s.k.aw
 aw:s.k.aw<=last
 st:(kI s.k.aw (hd++s.L)/\kW s.k.reqs (oE (hd++s.L))=some R)\/(hd≠[]/\s.k.aw=mN 0 hd/\kW s.k.reqs (oE s.L)=some R)
 f0:0<=s.ll
 f1:s.ll<=f
def nU.mono{kc:jD}{n:Nat}{s:km}{hd:List eF}{last:Int}{R:List Rq}{f f':Nat}(h:nU kc n s hd last R f)(hf:f<=f'):nU kc n s hd last R f':=⟨h.it,h.od,h.le,h.hn,h.held,h.room,h.out,h.l0,h.aw,h.st,h.f0,by have:=h.f1;omega⟩
def nU.inv{kc:jD}{n:Nat}{s:km}{hd:List eF}{last:Int}{R:List Rq}{f:Nat}(h:nU kc n s hd last R f){cf:jI}(hc:CC cf kc n):uw kc n s f:=by
 have h1:=kI.append.1 h.od;refine⟨hc.q1,hc.Gr,hc.b1,hc.JU,λx hx=>(h.it x (uup _ hx)).w,h1.2.mono h1.1.last,h.room,h.out,?_,h.f0,h.f1⟩;have hn:=h.hn;by_cases h0:s.n=0
 ·have:hd=[]:=xx9.1 (by omega);subst this;exact .inl ⟨h0,h.held⟩
 have:=F8 (n:=n) (l:=hd) (λx hx=>(h.it x (xx7 _ hx)).w) h1.1;rw[hn,<- h.held]at this
 exact .inr ⟨by omega,this⟩
def nU.put{kc:jD}{n:Nat}{s:km}{hd:List eF}{last:Int}{R R':List Rq}{f:Nat}(h:nU kc n s hd last R f){x:eF}(hx:xG n x)(hl:last<x.aw)(hR:kW R x.notes=some R')(hr:s.L.length+s.out<kc.cap):nU kc n {s with L:=s.L++[x]} hd x.aw R' f:=by
 have hle:=h.le;have oT:=h.aw;have VS:∀A:List eF,oE (A++[x])=oE A++x.notes:=λA=>by simp[oE]
 have e:hd++(s.L++[x])=(hd++s.L)++[x]:=(zzk _ _ _).symm;refine⟨λy hy=>?_,?_,?_,h.hn,h.held,?_,h.out,h.l0,by show s.k.aw<=x.aw;omega,?_,h.f0,h.f1⟩
 ·have hy:y∈hd++(s.L++[x]):=hy;rw[e]at hy
  rcases zz0.1 hy with hy|hy
  ·exact h.it y hy
  rw[zz3.1 hy];exact hx
 ·show kI 0 (hd++(s.L++[x]));rw[e];exact h.od.snoc (by omega)
 ·show mN 0 (hd++(s.L++[x]))<=x.aw;rw[e,eI2];exact yyc _
 ·show (s.L++[x]).length+s.out<=kc.cap;rw[zza,zz6];omega
 rcases h.st with ⟨a,b⟩|⟨a,b,c⟩
 ·refine .inl ⟨?_,?_⟩
  ·show kI s.k.aw (hd++(s.L++[x]));rw[e];refine a.snoc ?_;by_cases hn:hd++s.L=[]
   ·rw[hn];show s.k.aw<x.aw;omega
   rw[W1 hn _ 0];omega
  show kW s.k.reqs (oE (hd++(s.L++[x])))=some R';rw[e,VS,Gi,b];exact hR
 refine .inr ⟨a,b,?_⟩;show kW s.k.reqs (oE (s.L++[x]))=some R';rw[VS,Gi,c];exact hR
def nU.hold{kc:jD}{n:Nat}{s:km}{hd:List eF}{last:Int}{R:List Rq}{f:Nat}(h:nU kc n s hd last R f)(h1:1<=kc.fW){now:Int}(hr:s.ready now=true):
  ∃sm,nU kc n (s.hold kc.fW) sm last R f/\sm≠[]/\(s.hold kc.fW).k=s.k/\(s.hold kc.fW).ll=s.ll/\(s.hold kc.fW).kB=s.kB:=by
 have hn:=h.hn;have Lr:=h.room;have VZ:=h.out;unfold km.ready at hr;unfold km.hold;by_cases h0:s.n=0
 ·rw[zzc h0];rw[zzb (by omega),zzx]at hr
  have Ab:hd=[]:=xx9.1 (by omega);subst Ab;have e:s.L.take kc.fW++s.L.drop kc.fW=[]++s.L:=by simp
  refine⟨s.L.take kc.fW,⟨by show ∀x∈s.L.take kc.fW++s.L.drop kc.fW,_;rw[e];exact h.it,by show kI 0 (s.L.take kc.fW++s.L.drop kc.fW);rw[e];exact h.od,by show mN 0 (s.L.take kc.fW++s.L.drop kc.fW)<=last;rw[e];exact h.le,by show (s.L.take kc.fW).length=min kc.fW s.L.length;rw[zzf],rfl,?_,?_,h.l0,h.aw,.inl ?_,h.f0,h.f1⟩,λhh=>?_,rfl,rfl,rfl⟩
  ·show (s.L.drop kc.fW).length+(s.out+min kc.fW s.L.length)<=kc.cap;rw[zzq];omega
  ·show s.out+min kc.fW s.L.length=min kc.fW s.L.length;omega
  ·show kI s.k.aw (s.L.take kc.fW++s.L.drop kc.fW)/\kW s.k.reqs (oE (s.L.take kc.fW++s.L.drop kc.fW))=some R;rw[e];rcases h.st with a|⟨a,_⟩
   ·exact a
   exact absurd rfl a
  have:=yyu List.length hh;rw[zzf,yyo]at this
  omega
 rw[zzb h0];exact⟨hd,h,λhh=>by rw[hh]at hn;exact h0 (by rw[<- hn];rfl),rfl,rfl,rfl⟩
def nU.fits{kc:jD}{n:Nat}{s:km}{hd:List eF}{last:Int}{R:List Rq}{f:Nat}(h:nU kc n s hd last R f){cf:jI}(hc:CC cf kc n)(iX:hd≠[]):
  jE s.held=true/\s.held.aw=mN 0 hd/\∃L,(s.k.aw<s.held.aw->k9 n s.k.reqs s.held=some L/\kW L (oE s.L)=some R)/\(¬s.k.aw<s.held.aw->s.k.aw=mN 0 hd/\kW s.k.reqs (oE s.L)=some R):=by
 have h1:=kI.append.1 h.od;have hJ:=F8 (n:=n) (l:=hd) (λx hx=>(h.it x (xx7 _ hx)).w) h1.1;have hp:0<hd.length:=xx0.2 iX;have hn:=h.hn;have Lr:=h.room;have VZ:=h.out;have hq:=hc.Gr;obtain⟨hm,ht⟩:=hJ.may hp (by omega);have hl:s.held.aw=mN 0 hd:=by rw[h.held,WX]
 rw[<- h.held]at hm ht
 refine⟨hm,hl,?_⟩;rcases h.st with ⟨a,b⟩|⟨_,a,b⟩
 ·rw[e_9]at b
  obtain⟨L,b1,b2⟩:=fwa b;have iw:s.k.aw<s.held.aw:=by
   rw[hl];have:=(kI.append.1 a).1;cases hd with
   | nil=>exact absurd rfl iX
   | cons x l=>have h2:=this.2.last;have h3:=this.1;show s.k.aw<mN x.aw l;omega
  refine⟨L,λ_=>⟨?_,b2⟩,λhh=>absurd iw hh⟩;unfold k9;rw[zzc ⟨hm,ht⟩,h.held,WY];exact b1
 exact⟨R,λhh=>by omega,λ_=>⟨a,b⟩⟩
def nU.done{kc:jD}{n:Nat}{s:km}{hd:List eF}{last:Int}{R:List Rq}{f:Nat}(h:nU kc n s hd last R f){k':gF}(hl:k'.aw=mN 0 hd)(hR:kW k'.reqs (oE s.L)=some R):nU kc n {s with k:=k',out:=s.out-tq s.n s.out,ll:=0,kB:=0,held:=sY,n:=0} [] last R f:=by
 have h1:=kI.append.1 h.od;have hle:=h.le;have oT:=h.aw;have vo:=h.l0;have Lr:=h.room;have VZ:=h.out;have h2:=h1.1.last;have h3:=h1.2.last;rw[LU]at hle
 have hg:tq s.n s.out=s.n:=by unfold tq;omega
 have sr:mN 0 ([]++s.L)<=last:=by
  rw[zzp];by_cases hL:s.L=[]
  ·rw[hL];show (0:Int)<=last;omega
  rw[W1 hL 0 (mN 0 hd)];exact hle
 refine⟨λx hx=>h.it x (uup _ hx),h1.2.mono h2,sr,rfl,rfl,?_,?_,?_,?_,.inl ⟨?_,hR⟩,yyc _,by show (0:Int)<=(f:Int);omega⟩
 ·show s.L.length+(s.out-tq s.n s.out)<=kc.cap;omega
 ·show s.out-tq s.n s.out=0;omega
 ·show 0<=k'.aw;rw[hl];exact h2
 ·show k'.aw<=last;rw[hl];omega
 show kI k'.aw s.L;rw[hl];exact h1.2
def nU.again{kc:jD}{n:Nat}{s:km}{hd:List eF}{last:Int}{R:List Rq}{f:Nat}(h:nU kc n s hd last R f)(iX:hd≠[]){k':gF}(hk:(k'.aw=s.k.aw/\k'.reqs=s.k.reqs)\/(k'.aw=mN 0 hd/\kW k'.reqs (oE s.L)=some R))(kB:Int):nU kc n {s with k:=k',ll:=s.ll+1,kB:=kB} hd last R (f+1):=by
 have h1:=kI.append.1 h.od;have hle:=h.le;have h2:=h1.1.last;have h3:=h1.2.last;have y_:=h.f0;have DD:=h.f1;rw[LU]at hle
 refine⟨h.it,h.od,h.le,h.hn,h.held,h.room,h.out,?_,?_,?_,by show 0<=s.ll+1;omega,by show s.ll+1<=((f+1:Nat):Int);omega⟩
 ·show 0<=k'.aw;rcases hk with ⟨e,_⟩|⟨e,_⟩
  ·rw[e];exact h.l0
  rw[e];exact h2
 ·show k'.aw<=last;rcases hk with ⟨e,_⟩|⟨e,_⟩
  ·rw[e];exact h.aw
  rw[e];omega
 show (kI k'.aw (hd++s.L)/\kW k'.reqs (oE (hd++s.L))=some R)\/(hd≠[]/\k'.aw=mN 0 hd/\kW k'.reqs (oE s.L)=some R);rcases hk with ⟨e1,e2⟩|⟨e1,e2⟩
 ·rw[e1,e2];exact h.st
 exact .inr ⟨iX,e1,e2⟩
structure nV(n:Nat)(ch:Int)(w:iM):Prop where
 nn:w.n=ch
 st:0<=w.state/\w.state<=4
 rows:∀r∈w.rows,wF r
 len:w.rows.length<=64
 after:0<=w.after/\w.after<=1099511627776
 cur:0<=w.iH/\w.iH<=1099511627776
 id:0<=w.id/\w.id<=64
 live:w.state≠0->(0<=w.table/\w.table<(n:Int))/\1<=w.id/\1<=w.mark/\w.mark<=1099511627776
def nV.rY(n:Nat)(ch:Int):nV n ch (rY ch):=⟨rfl,⟨yyc _,show (0:Int)<=4 by decide⟩,λr hr=>(by cases hr),zz8 _,⟨yyc _,show (0:Int)<=1099511627776 by decide⟩,⟨yyc _,show (0:Int)<=1099511627776 by decide⟩,⟨yyc _,show (0:Int)<=64 by decide⟩,λh=>absurd rfl h⟩
def nV.xB{n:Nat}{ch:Int}{w:iM}(h:nV n ch w){mark id table after:Int}(ht:table<(n:Int)):nV n ch (w.xB mark id table after):=by
 unfold iM.xB;split
 ·exact h
 rename_i hb;unfold iM.CW at hb;exact⟨h.nn,⟨show (0:Int)<=1 by decide,show (1:Int)<=4 by decide⟩,λr hr=>(by cases hr),zz8 _,⟨by show 0<=after;omega,by show after<=_;omega⟩,⟨yyc _,show (0:Int)<=1099511627776 by decide⟩,⟨by show 0<=id;omega,by show id<=64;omega⟩,λ_=>⟨⟨by show 0<=table;omega,ht⟩,by show 1<=id;omega,by show 1<=mark;omega,by show mark<=_;omega⟩⟩
def fFr{after:Int}{C:List Row}(ha:0<=after/\after<=1099511627776)(h:∀r∈C,wF r):0<=pH after C/\pH after C<=1099511627776:=by
 unfold pH;cases hl:C.getLast? with
 | none=>exact ha
 | some r=>
  have:=h r (xxu hl);unfold wF at this;show 0<=r.key/\r.key<=_;omega
def nV.fill{n:Nat}{ch:Int}{w:iM}(h:nV n ch w)(Kz:ch<=64){C:List Row}(hC:∀r∈C,wF r):nV n ch (w.fill C):=by
 unfold iM.fill;split
 ·exact h
 rename_i hb;unfold iM.BZ at hb;have hn:=h.nn;exact⟨h.nn,⟨show (0:Int)<=2 by decide,show (2:Int)<=4 by decide⟩,hC,by show C.length<=64;omega,h.after,fFr h.after hC,h.id,λ_=>h.live (by omega)⟩
def nV.shut{n:Nat}{ch:Int}{w:iM}(h:nV n ch w):nV n ch w.shut:=by
 unfold iM.shut;split
 ·exact⟨h.nn,⟨show (0:Int)<=3 by decide,show (3:Int)<=4 by decide⟩,h.rows,h.len,h.after,h.cur,h.id,λ_=>h.live (by omega)⟩
 exact h
def nV.low{n:Nat}{ch:Int}{w:iM}(h:nV n ch w)(mark:Int):nV n ch (w.low mark):=by
 unfold iM.low;split
 ·rename_i hs;exact⟨h.nn,⟨show (0:Int)<=4 by decide,yyc _⟩,h.rows,h.len,h.after,h.cur,h.id,λ_=>h.live (by omega)⟩
 exact h
def nV.vF{n:Nat}{ch:Int}{w:iM}(h:nV n ch w)(l:List jB):nV n ch (w.vF l):=by
 unfold iM.vF;split
 ·exact⟨h.nn,h.st,λr hr=>h.rows r (xx3.1 hr).1,yyw (yyp _ _) h.len,h.after,h.cur,h.id,h.live⟩
 exact h
structure C6(n:Nat)(ch:Int)(m:iK):Prop where
 sD:m.tables=n
 rI:0<=m.at_
 uz:m.at_<=1099511627776
 may:lr m.reqs
 rq:∀r∈m.reqs,r.table<(n:Int)/\r.at_<=m.at_
 dI:nV n ch m.dI
def S_{L L':List Rq}{t w a:Int}(h:ux L t w a=some L'):L'=L++[CU L t w a]/\1<=L'.length/\L'.length<=64/\0<=t/\t<8/\1<=w/\w<=8/\1<=a:=by
 have hM:=ES h;have he:L'=L++[CU L t w a]:=by
  unfold ux at h;split at h
  ·cases h;rfl
  cases h
 have hl:L'.length=L.length+1:=by rw[he];simp
 have h1:=(hM.2 L.length (by omega)).1;have e:L'[L.length]=CU L t w a:=by simp[he]
 rw[e]at h1
 unfold Bh CU at h1;exact⟨he,by omega,hM.1,h1.2.1,h1.2.2.1,h1.2.2.2.1,h1.2.2.2.2.1,h1.2.2.2.2.2.1⟩
def TI{L L':List Rq}{id c:Int}{dn:Bool}(h:p' L id c dn=some L'):∀r∈L',∃r0∈L,r.table=r0.table/\r.at_=r0.at_:=by
 unfold p' at h;split at h
 ·split at h
  ·rename_i r0 xt;split at h
   ·cases h
   cases h;intro r hr;obtain⟨j,hj,rfl⟩:=yyi hr;rw[xxi];obtain⟨xk,e0⟩:=zzh.1 xt;split
   ·exact⟨r0,by rw[<- e0];exact zzg _,rfl,rfl⟩
   rw[yyh]at hj
   exact⟨_,zzg hj,rfl,rfl⟩
  cases h
 cases h
def a_n{m:iK}{n:Nat}(ht:m.tables=n){aw:Int}(l1:1<=aw)(s:Β):
  kW m.reqs (m.accept s aw).2=some (m.accept s aw).1/\(m.accept s aw).2.length<=1/\(∀x∈(m.accept s aw).2,nm x aw=true/\x.table<(n:Int))/\∀r∈(m.accept s aw).1,r∈m.reqs\/(r.table<(n:Int)/\r.at_=aw):=by
 unfold iK.accept;split
 ·exact⟨rfl,zz8 _,λx hx=>(by cases hx),λr hr=>.inl hr⟩
 split
 ·exact⟨rfl,zz8 _,λx hx=>(by cases hx),λr hr=>.inl hr⟩
 split
 ·exact⟨rfl,zz8 _,λx hx=>(by cases hx),λr hr=>.inl hr⟩
 rename_i g _ A_ _ L hL;obtain⟨e,a1,a2,a3,a4,a5,a6,a7⟩:=S_ hL;refine⟨?_,zzi _,λx hx=>?_,λr hr=>?_⟩
 ·simp only;unfold kW kW tD;rw[zzb (show ¬(1:Int)=2 by decide)];simp only[hL];rw[zzc trivial]
 ·rw[zz3.1 hx];refine⟨Ga.2 ⟨by show (1:Int)<=L.length;omega,by show (L.length:Int)<=64;omega,.inl ⟨rfl,a3,a4,a5,a6,l1,yyc _,rfl,rfl⟩⟩,by show g.1<(n:Int);omega⟩
 simp only at hr;rw[e]at hr
 rcases zz0.1 hr with hr|hr
 ·exact .inl hr
 rw[zz3.1 hr];exact .inr ⟨by show g.1<(n:Int);omega,rfl⟩
def Tb{n:Nat}{aw:Int}(l1:1<=aw):∀(sg:Θ) {m:iK},m.tables=n ->
  kW m.reqs (m.j_ aw sg).2=some (m.j_ aw sg).1.reqs/\(m.j_ aw sg).2.length<=sg.length/\(∀x∈(m.j_ aw sg).2,nm x aw=true/\x.table<(n:Int))/\∀r∈(m.j_ aw sg).1.reqs,r∈m.reqs\/(r.table<(n:Int)/\r.at_=aw)
 | [],m,_=>⟨rfl,zzi _,λx hx=>(by cases hx),λr hr=>.inl hr⟩
 | s::sg,m,ht=>by
  obtain⟨a1,a2,a3,a4⟩:=a_n ht l1 s;obtain⟨b1,b2,b3,b4⟩:=Tb l1 sg (m:={m with reqs:=(m.accept s aw).1}) ht;have e:m.j_ aw (s::sg)=((iK.j_ {m with reqs:=(m.accept s aw).1} aw sg).1,(m.accept s aw).2++(iK.j_ {m with reqs:=(m.accept s aw).1} aw sg).2):=rfl;rw[e];refine⟨?_,?_,λx hx=>?_,λr hr=>?_⟩
  ·simp only;rw[Gi,a1];exact b1
  ·simp only;rw[zza,zzj];omega
  ·rcases zz0.1 hx with hx|hx
   ·exact a3 x hx
   exact b3 x hx
  rcases b4 r hr with h|h
  ·exact a4 r h
  exact .inr h
def IC{aw:Int}{ops:List lA}{notes:List mn}(h1:1<=aw/\aw<=1099511627776)(h2:ops.length<=64)(h3:notes.length<=4)(ho:∀o∈ops,ph o aw=true)(hn:∀m∈notes,nm m aw=true):jE ⟨aw,ops,notes⟩=true:=
 tC.2 ⟨⟨h1.1,h1.2,by show ops.length<=4096;omega,by show notes.length<=256;omega⟩,ho,hn⟩
def M1{n:Nat}{x:eF}(h:∀o∈x.ops,o.table<(n:Int)):wH n x=true:=by
 unfold wH;rw[zz5];exact λo ho=>zzm (h o ho)
def xG.empty{n:Nat}{aw:Int}(h:1<=aw/\aw<=1099511627776):xG n ⟨aw,[],[]⟩:=⟨⟨IC h (zz8 _) (zz8 _) (λo ho=>by cases ho) (λo ho=>by cases ho),rfl,zz8 _,zz8 _⟩,λm hm=>by cases hm⟩
structure TkM(n:Nat)(ch:Int)(m:iK)(t:fF)(m':iK)(x:eF):Prop where
 ok:C6 n ch m'
 at_:m'.at_=t.aw
 late:m'.late=m.late
 aw:x.aw=t.aw
 it:xG n x
 nr:kW m.reqs x.notes=some m'.reqs
def C6.take{n:Nat}{ch:Int}{m:iK}(h:C6 n ch m){t:fF}(hm:jC t=true)(hl:t.aw=m.at_+1)(hw:m.dI.waits t.kind t.mark=false)(n8:n<=8):(m.take t).2.2=0/\TkM n ch m t (m.take t).1 (m.take t).2.1:=by
 obtain⟨h1,h2,h3,h4,h5,h6,h7⟩:=sA hm;have mh:=h.rI;unfold iK.take;rw[zzb (by rw[hm];decide),zzb (by rw[hw];rintro (h|h);exact h hl;cases h)];have rn:∀r∈m.reqs,r.table<(n:Int)/\r.at_<=t.aw:=λr hr=>by have:=h.rq r hr;exact⟨this.1,by omega⟩
 split
 ·refine⟨rfl,?_⟩;simp only;unfold iK.De;simp only;obtain⟨_,a2,a3,a4,a5,a6⟩:=JN t.aw t.signals {m with at_:=t.aw};obtain⟨b1,b2,b3,b4⟩:=Tb (n:=n) h1.1 t.signals (m:={m with at_:=t.aw}) h.sD;generalize ({m with at_:=t.aw}:iK).j_ t.aw t.signals=y at *
  refine⟨⟨a4.trans h.sD,by rw[a6];exact (by omega:0<=t.aw),by rw[a6];exact h1.2,a2 h.may,λr hr=>?_,?_⟩,a6,a5,rfl,⟨⟨?_,?_,?_,?_⟩,λx hx _=>(b3 x hx).2⟩,b1⟩
  ·rw[a6];rcases b4 r hr with hr|⟨c1,c2⟩
   ·exact rn r hr
   exact⟨c1,by rw[c2];exact yyc _⟩
  ·show nV n ch (y.1.dI.vF t.changes);rw[a3];exact h.dI.vF _
  ·have j6:(rA y.1 t.aw t.changes).length<=16:=by
    unfold rA;rw[zzs];exact yyw (yyp _ _) h4
   refine IC h1 (by omega) (by omega) (λo ho=>?_) λx hx=>(b3 x hx).1;unfold rA at ho;obtain⟨c,hc,rfl⟩:=zzy.1 ho;have:=CO.1 (h6 c (xx3.1 hc).1);exact Gc.2 ⟨h1.1,yyc _,this⟩
  ·refine M1 λo ho=>?_;have ho:o∈rA y.1 t.aw t.changes:=ho;unfold rA at ho;obtain⟨c,hc,rfl⟩:=zzy.1 ho;have tW:=(xx3.1 hc).2;unfold iK.captured at tW;rw[zz9,zzx,a4]at tW
   have KU:c.table<m.tables:=tW.1.2;have ht:=h.sD;show c.table<(n:Int);omega
  ·show (rA y.1 t.aw t.changes).length<=64;unfold rA;rw[zzs];have:=yyp (λc=>y.1.captured c.table) t.changes;omega
  show y.2.length<=4;omega
 split
 ·refine⟨rfl,?_⟩;simp only;unfold iK.high;simp only;unfold iM.high;split
  ·rename_i hx;split at hx
   ·cases hx;exact⟨⟨h.sD,by show 0<=t.aw;omega,h1.2,h.may,rn,h.dI⟩,rfl,rfl,rfl,xG.empty h1,rfl⟩
   cases hx
  rename_i w x hx;split at hx
  ·cases hx
  rename_i hb;cases hx;unfold iM.Ac at hb;have hs:m.dI.state=4:=by omega
  obtain⟨⟨v1,v2⟩,v3,v4,v5⟩:=h.dI.live (by omega);have hid:=h.dI.id;have Vp:=h.dI.cur;have hlen:=h.dI.len;have iY:∀o∈oF m.dI t.aw,ph o t.aw=true/\o.table<(n:Int):=λo ho=>by
   unfold oF at ho;obtain⟨r,hr,rfl⟩:=zzy.1 ho;have:=h.dI.rows r hr;unfold wF at this;exact⟨Gc.2 ⟨h1.1,yyc _,v1,by show m.dI.table<8;omega,this.1,this.2.1,this.2.2,λhh=>by cases hh⟩,v2⟩
  have Cs:(oF m.dI t.aw).length<=64:=by unfold oF;rw[zzs];exact hlen
  have hn:nm (vA m.dI) t.aw=true:=Ga.2 ⟨v3,hid.2,.inr ⟨rfl,rfl,rfl,rfl,Vp.1,Vp.2⟩⟩;have Wk:nV n ch (rY m.dI.n):=by rw[h.dI.nn];exact nV.rY n ch
  split
  ·refine⟨⟨h.sD,by show 0<=t.aw;omega,h1.2,h.may,rn,Wk⟩,rfl,rfl,rfl,⟨⟨IC h1 Cs (zz8 _) (λo ho=>(iY o ho).1) (λo ho=>by cases ho),M1 λo ho=>(iY o ho).2,Cs,zz8 _⟩,λx hx=>by cases hx⟩,rfl⟩
  rename_i L hL;refine⟨⟨h.sD,by show 0<=t.aw;omega,h1.2,G9 hL,λr hr=>?_,Wk⟩,rfl,rfl,rfl,⟨⟨IC h1 Cs (by show 1<=4;decide) (λo ho=>(iY o ho).1) (λo ho=>by rw[zz3.1 ho];exact hn),M1 λo ho=>(iY o ho).2,Cs,by show 1<=4;decide⟩,λx hx hk=>?_⟩,?_⟩
  ·obtain⟨r0,xt,e1,e2⟩:=TI hL r hr;have:=rn r0 xt;rw[e1,e2];exact this
  ·rw[zz3.1 hx]at hk
   exact absurd rfl hk
  show kW m.reqs [vA m.dI]=some L;unfold kW kW tD;rw[zzc (show (vA m.dI).kind=2 from rfl)];have hL:p' m.reqs (vA m.dI).id (vA m.dI).iH (vA m.dI).done=some L:=hL;rw[hL]
 refine⟨rfl,⟨h.sD,by show 0<=t.aw;omega,h1.2,h.may,rn,h.dI.low _⟩,rfl,rfl,rfl,xG.empty h1,rfl⟩
abbrev nJ(j:Nat):Nat:=400000*(j+1)
structure CB(cf:jI)(kc:jD)(n j:Nat)(AL:List fF)(xs:List eF)(c:dF):Prop where
 dk:c.s.k.d.Ok (nJ j)
 ops:c.s.k.d.ops<=250*(j+1)
 al:AL.length<=j
 sg:mH c.k.g (nJ j)
 st1:∀C∈c.k.ts,sM C
 st2:∀C∈c.k.ts,C.length<=1000
 p3:c.k.ts.length=n
 kg:mH c.s.k.g (nJ j)
 run:runT n xs (vG n)=some c.s.k.tr
 xl:xs.length<=j
 pl:c.s.k.plan.length<=1024
 rT:∀f∈c.s.k.plan,nc f=true
 wt:uw kc n c.s j
 kB:0<=c.s.kB/\c.s.kB<=4503599627370496
 mx:C6 n cf.chunk c.m
 late:c.m.late=cf.late
 dr:c.dr.Ok
 ids:∀m∈c.dr.l,m.1<=c.m.reqs.length
 q:∀t∈c.q,jC t=true
 ql:c.q.length<=kc.cap
 pos:0<=c.pos/\c.pos<=1099511627776
 last:0<=c.last/\c.last<=1099511627776
 due:0<=c.due/\c.due<=4503599627370496
 now:0<=c.now/\c.now<=1125899906842624
 dl:c.iG.length<=1024
 dw:∀x∈c.iG,0<=x/\x<=1125899906842624
def dF.kS(c:dF)(RS:List PF):g_:={c.k with d:={c.s.k.d with R:=RS}}
def dF.kK(c:dF)(RK:List PF):gF:={c.s.k with d:={c.s.k.d with R:=RK}}
structure CA(cf:jI)(kc:jD)(n j:Nat)(AL:List fF)(tr:Nat)(xs hd:List eF)(RS RK:List PF)(c:dF):Prop where
 off:c.s.k.d.off=false
 dR:c.s.k.d.R=RS++RK
 kv:KV n tr (nJ j) AL (c.kS RS)
 si:mW n (c.kK RK) xs none
 kw:vN RS (c.kK RK)
 pj:nU kc n c.s hd c.last c.m.reqs j
 rC:∀r∈c.s.k.reqs,r.table<(n:Int)/\r.at_<=c.s.k.aw
 tl:(tr:Int)<=c.s.k.aw
 la:c.last<=c.m.at_
 qp:c.pos=c.m.at_+c.q.length
 pl:c.pos<=AL.length
 qq:∀i (h:i<c.q.length),AL[c.m.at_.toNat+i]?=some c.q[i]
structure CD(n j:Nat)(AL:List fF)(t:Option fF)(tr:Nat)(xs:List eF)(m:Option eF)(RS RK:List PF)(c:dF):Prop where
 dR:c.s.k.d.R=RS++RK
 kd:KD n tr (nJ j) AL t {c.s.k.d with R:=RS}
 sd:∃o,mW n {c.s.k with d:={c.s.k.d with R:=RK,off:=o}} xs m
 kb:∀x∈RK,8192<=x.id/\x.id<12288
 nx:∀t',(t'=c.s.k.tr\/∃x,m=some x/\stepT n c.s.k.tr x=some t')->(∀r∈t'.2.1,r.table<(n:Int)/\r.at_<=t'.2.2)/\(tr:Int)<=t'.2.2/\t'.2.2<=AL.length
def jU(cf:jI)(kc:jD)(n j:Nat)(AL:List fF)(c:dF):Prop:=∃tr xs hd RS RK,CB cf kc n j AL xs c/\CA cf kc n j AL tr xs hd RS RK c
def tJ(cf:jI)(kc:jD)(n j:Nat)(AL:List fF)(c:dF):Prop:=c.s.k.d.off=true/\∃tr xs t m RS RK,CB cf kc n j AL xs c/\CD n j AL t tr xs m RS RK c
def CS(cf:jI)(kc:jD)(n j:Nat)(AL:List fF)(c:dF):Prop:=jU cf kc n j AL c\/tJ cf kc n j AL c
section
variable {cf:jI} {kc:jD} {n j:Nat} {AL:List fF} {tr:Nat} {xs hd:List eF} {RS RK:List PF} {c:dF}
def D8(j:Nat):nJ j<=nJ (j+1):=uuz _ (by omega)
def CR(j:Nat):nJ j=400000*j+400000:=by show 400000*(j+1)=_;omega
def Mb(j:Nat):nJ (j+1)=nJ j+400000:=by show 400000*(j+1+1)=400000*(j+1)+400000;omega
def CB.mono(h:CB cf kc n j AL xs c):CB cf kc n (j+1) AL xs c:=
 ⟨h.dk.mono (D8 j),by have:=h.ops;omega,by have:=h.al;omega,h.sg.mono (D8 j),h.st1,h.st2,h.p3,h.kg.mono (D8 j),h.run,by have:=h.xl;omega,h.pl,h.rT,h.wt.mono (by omega),h.kB,h.mx,h.late,h.dr,h.ids,h.q,h.ql,h.pos,h.last,h.due,h.now,h.dl,h.dw⟩
def CA.mono(h:CA cf kc n j AL tr xs hd RS RK c):CA cf kc n (j+1) AL tr xs hd RS RK c:=
 ⟨h.off,h.dR,h.kv.mono (D8 j),h.si,h.kw,h.pj.mono (by omega),h.rC,h.tl,h.la,h.qp,h.pl,h.qq⟩
def CD.mono{t:Option fF}{m:Option eF}(h:CD n j AL t tr xs m RS RK c):CD n (j+1) AL t tr xs m RS RK c:=⟨h.dR,h.kd.mono (D8 j),h.sd,h.kb,h.nx⟩
def jU.mono(h:jU cf kc n j AL c):jU cf kc n (j+1) AL c:=by
 obtain⟨tr,xs,hd,RS,RK,hb,ha⟩:=h;exact⟨tr,xs,hd,RS,RK,hb.mono,ha.mono⟩
def tJ.mono(h:tJ cf kc n j AL c):tJ cf kc n (j+1) AL c:=by
 obtain⟨ho,tr,xs,t,m,RS,RK,hb,hd⟩:=h;exact⟨ho,tr,xs,t,m,RS,RK,hb.mono,hd.mono⟩
def CS.mono(h:CS cf kc n j AL c):CS cf kc n (j+1) AL c:=h.imp jU.mono tJ.mono
def DS.split{d:DS}{A B:List PF}(h:d.R=A++B):d={d with R:=A++B}:=by
 cases d;simp only at h;subst h;rfl
def CA.aw9(h:CA cf kc n j AL tr xs hd RS RK c):c.src=(c.kS RS).ka RK:=by
 unfold dF.src dF.kS g_.ka ix;simp only[zzp];rw[<- DS.split h.dR]
def CA.f_y(h:CA cf kc n j AL tr xs hd RS RK c):c.s.k=(c.kK RK).ka RS:=by
 unfold dF.kK gF.ka ix;simp only[zzw];rw[<- DS.split h.dR]
def CA.hB(h:CA cf kc n j AL tr xs hd RS RK c):∀x∈RK,8192<=x.id:=λx hx=>(h.kw.w.m x hx).1
def ai5{xs:List eF}{t:Tr}(h:runT n xs (vG n)=some t)(hl:xs.length<=240):TX t n 4:=by
 have:=TX.run (n:=n) xs (vG n) t (244-xs.length) (by rw[show 244-xs.length+xs.length=244 by omega];exact TX.zero n 244 (by decide)) h;exact⟨⟨this.k.len,this.k.ok,awx this.k.room (by omega),this.k.rq⟩,this.l0,this.l1,this.rq⟩
def CB.kok(h:CB cf kc n j AL xs c)(hj:j<=190)(n8:n<=8):EH c.s.k (nJ j) 4:=by
 have ht:=ai5 h.run (by have:=h.xl;omega);have ho:=h.ops;have l9:c.s.k.ts.length=n:=ht.k.len;have DO:=CR j;exact⟨h.kg,h.dk,by omega,by omega,h.pl,h.rT,by omega,ht.k.ok,ht.k.room,ht.k.rq⟩
def CB.Gz(h:CB cf kc n j AL xs c)(n1:1<=n)(n8:n<=8):nF c.src (nJ j):=⟨h.sg,h.dk,h.st1,h.st2,by rw[show c.src.ts=c.k.ts from rfl,h.p3];exact n1,by rw[show c.src.ts=c.k.ts from rfl,h.p3];exact n8⟩
def CB.UX(h:CB cf kc n j AL xs c)(hc:CC cf kc n):(c.p2 cf).Good (nJ j):=by
 have hm:=h.mx;have Kz:=hc.BE;have hn:=hm.dI.nn;have ht:=hm.sD;have h1:=hc.n1;have h8:=hc.n8;exact⟨hm.may,⟨by show 1<=c.m.tables;omega,by show c.m.tables<=8;omega⟩,⟨hm.rI,hm.uz⟩,by show c.m.dI.n<=64;omega,hm.dI.len,hm.dI.id,h.dr,h.ids,⟨hc.c1,hc.BE⟩,h.Gz hc.n1 hc.n8⟩
def CA.nx(h:CA cf kc n j AL tr xs hd RS RK c):(∀r∈c.s.k.reqs,r.table<(n:Int)/\r.at_<=c.s.k.aw)/\(tr:Int)<=c.s.k.aw/\c.s.k.aw<=AL.length:=by
 have h1:=h.pj.aw;have h2:=h.la;have h3:=h.qp;have h4:=h.pl;exact⟨h.rC,h.tl,by omega⟩
def CA.dead(h:CA cf kc n j AL tr xs hd RS RK c):CD n j AL none tr xs none RS RK c:=by
 refine⟨h.dR,h.kv.dead,⟨false,h.si.wd rfl ?_⟩,λx hx=>h.kw.w.m x hx,λt' ht=>?_⟩
 ·show false=c.s.k.d.off;rw[h.off]
 rcases ht with rfl|⟨x,hx,_⟩
 ·exact h.nx
 cases hx
def KV.ids{n tr N:Nat}{AL:List fF}{k:g_}(h:KV n tr N AL k):∀x∈k.d.R,x.id<8192:=λx hx=>((h.GA (B:=[]) (λx hx=>by cases hx)).w.m x hx).2
def CA.oe(h:CA cf kc n j AL tr xs hd RS RK c){k':g_}{kf:List fF}{CY:Nat}(hk:KV n CY (nJ (j+1)) kf k')(rr:(CY:Int)<=c.s.k.aw)(hA:kf=AL\/∃x,kf=AL++[x]):CA cf kc n (j+1) kf CY xs hd k'.d.R RK (c.oe (k'.ka RK)):=by
 have hid:=hk.ids;have uT:∀(i:Nat) (t:fF),AL[i]?=some t->kf[i]?=some t:=λi t e=>by
  rcases hA with rfl|⟨x,rfl⟩
  ·exact e
  rw[zzr (zzh.1 e).1];exact e
 have hlen:AL.length<=kf.length:=by
  rcases hA with rfl|⟨x,rfl⟩
  ·exact zzi _
  rw[zza];omega
 refine⟨hk.off,rfl,hk,h.si.wd rfl (hk.off.trans h.off.symm),⟨⟨hid,h.kw.w.m,λx hx=>(by cases hx)⟩,h.kw.g⟩,?_,h.rC,rr,h.la,h.qp,by have:=h.pl;show c.pos<=_;omega,λi hi=>uT _ _ (h.qq i hi)⟩;have hp:=h.pj;exact⟨hp.it,hp.od,hp.le,hp.hn,hp.held,hp.room,hp.out,hp.l0,hp.aw,hp.st,hp.f0,by have:=hp.f1;show c.s.ll<=_;omega⟩
def CA.awu(h:CA cf kc n j AL tr xs hd RS RK c){k':g_}{t:Option fF}{CY:Nat}(hk:KD n CY (nJ (j+1)) AL t k'.d)(rr:(CY:Int)<=c.s.k.aw):CD n (j+1) AL t CY xs none k'.d.R RK (c.oe (k'.ka RK)):=by
 refine⟨rfl,hk,⟨false,?_⟩,λx hx=>h.kw.w.m x hx,λt' ht=>?_⟩
 ·exact h.si.wd (d':={ix [] RK k'.d with R:=RK,off:=false}) rfl h.off.symm
 rcases ht with rfl|⟨x,hx,_⟩
 ·exact⟨h.rC,rr,h.nx.2.2⟩
 cases hx
def CB.oe(h:CB cf kc n j AL xs c){k':g_}{kf:List fF}(hs:nF k' (nJ (j+1)))(l9:k'.ts.length=n)(iY:k'.d.ops<=250*(j+2))(hA:kf.length<=j+1):CB cf kc n (j+1) kf xs (c.oe k'):=by
 have hm:=h.mono;have hw:=hm.wt;exact⟨hs.d,iY,hA,hs.g,hs.rows,hs.len,l9,hm.kg,hm.run,hm.xl,hm.pl,hm.rT,⟨hw.Dc,hw.cap,hw.Bf,hw.fW,hw.it,hw.od,hw.room,hw.out,hw.held,hw.f0,hw.f1⟩,hm.kB,hm.mx,hm.late,hm.dr,hm.ids,hm.q,hm.ql,hm.pos,hm.last,hm.due,hm.now,hm.dl,hm.dw⟩
def a_o(k:g_)(t:fF):(k.lK t).1.ts.length=k.ts.length:=by
 unfold g_.lK;split
 ·rfl
 split
 ·rfl
 simp only;split
 ·exact xM _ _
 rfl
def jU.lK(h:jU cf kc n j AL c)(hc:CC cf kc n)(hj:j<=190){t:fF}(hm:jC t=true)(ri:∀x∈t.changes,mf n x=true):
  (∃k',c.src.lK t=(k',((AL.length:Int)+1,0))/\jU cf kc n (j+1) (AL++[tL t AL.length]) (c.oe k')) \/
  (∃k',c.src.lK t=(k',(0,8))/\tJ cf kc n (j+1) AL (c.oe k')) \/
  (c.src.lK t=(c.src,(0,7))/\rL (kF n AL) t.changes=false):=by
 obtain⟨tr,xs,hd,RS,RK,hb,ha⟩:=h;have hw:=a_p (ha.kv.GA ha.hB) t;have B':=hb.al;have j6:=hb.ops;have VT:=Mb j;have sw:=(hb.Gz hc.n1 hc.n8).add hm;have l9:=a_o c.src t;have l9:(c.src.lK t).1.ts.length=n:=l9.trans hb.p3;rw[ha.aw9]at sw l9 ⊢
 rcases ha.kv.add (by omega) hm ri with ⟨k',e,hk,_,ho⟩|⟨k',e,ho,hk,_,A8⟩|⟨e,hf⟩
 ·rw[e]at hw
  rw[hw.1]at sw l9 ⊢
  have ho:k'.d.ops<=c.s.k.d.ops+2:=ho;refine .inl ⟨_,rfl,tr,xs,hd,_,RK,?_,ha.oe (hk.mono (by omega)) ha.tl (.inr ⟨_,rfl⟩)⟩;exact hb.oe (sw.mono (by omega)) l9 (by show k'.d.ops<=_;omega) (by rw[zza,zz6];omega)
 ·rw[e]at hw
  rw[hw.1]at sw l9 ⊢
  have A8:k'.d.ops<=c.s.k.d.ops+2:=A8;refine .inr (.inl ⟨_,rfl,ho,tr,xs,some (tL t AL.length),none,_,RK,?_,ha.awu (hk.mono (by omega)) ha.tl⟩);exact hb.oe (sw.mono (by omega)) l9 (by show k'.d.ops<=_;omega) (by omega)
 rw[e]at hw
 exact .inr (.inr ⟨hw.1,hf⟩)
def bR7(k:g_):k.mS.1.ts=k.ts:=by
 unfold g_.mS;simp only;split<;>rfl
def gwz(k:g_)(aw:Int):(k.mG aw).1.ts=k.ts:=by
 unfold g_.mG;split
 ·rfl
 split
 ·rfl
 have:(if k.image<aw then k.mS else (k,0)).1.ts=k.ts:=by
  split
  ·exact bR7 k
  rfl
 simp only;generalize (if k.image<aw then k.mS else (k,0))=r at *
 split
 ·exact this
 exact this
def jU.trim(h:jU cf kc n j AL c)(hc:CC cf kc n)(hj:j<=190):(c.trim.2=0/\jU cf kc n (j+1) AL c.trim.1)\/(c.trim.2≠0/\tJ cf kc n (j+1) AL c.trim.1):=by
 obtain⟨tr,xs,hd,RS,RK,hb,ha⟩:=h;obtain⟨aw,hl⟩:=xx8 ha.pj.l0;have hle:aw<=AL.length:=by have:=ha.nx.2.2;omega
 have rr:=ha.tl;have hw:=gw0 (ha.kv.GA ha.hB) (aw:Int);have B':=hb.al;have j6:=hb.ops;have VT:=Mb j;have sw:=(hb.Gz hc.n1 hc.n8).trim (aw:Int);have l9:(c.src.mG aw).1.ts.length=n:=by rw[gwz];exact hb.p3
 unfold dF.trim;rw[hl];rw[ha.aw9]at sw l9 ⊢
 rcases ha.kv.trim hc.n1 hc.n8 hle with ⟨k',e,hk,_,ho⟩|⟨k',e',e,he,ho,hk,_,A8⟩
 ·rw[e]at hw
  rw[hw.1]at sw l9 ⊢
  have ho:k'.d.ops<=c.s.k.d.ops+(AL.length+5):=ho;refine .inl ⟨rfl,max tr aw,xs,hd,_,RK,?_,ha.oe (hk.mono (by omega)) (by rw[hl];omega) (.inl rfl)⟩;exact hb.oe (sw.mono (by omega)) l9 (by show k'.d.ops<=_;omega) (by omega)
 rw[e]at hw
 rw[hw.1]at sw l9 ⊢
 have A8:k'.d.ops<=c.s.k.d.ops+(AL.length+5):=A8;refine .inr ⟨he,ho,max tr aw,xs,none,none,_,RK,?_,ha.awu (hk.mono (by omega)) (by rw[hl];omega)⟩;exact hb.oe (sw.mono (by omega)) l9 (by show k'.d.ops<=_;omega) (by omega)
end
section
variable {cf:jI} {kc:jD} {n j:Nat} {AL:List fF} {tr:Nat} {xs hd:List eF} {RS RK:List PF} {c:dF}
def CA.head(h:CA cf kc n j AL tr xs hd RS RK c):c.head=AL.length:=h.kv.head
def CA.ord(h:CA cf kc n j AL tr xs hd RS RK c):(tr:Int)<=c.s.k.aw/\c.s.k.aw<=c.last/\c.last<=c.m.at_/\c.m.at_<=c.pos/\c.pos<=AL.length/\0<=c.s.k.aw:=by
 have:=h.pj.aw;have:=h.qp;exact⟨h.tl,h.pj.aw,h.la,by omega,h.pl,h.pj.l0⟩
def BP{comp:Int}(h:c.en kc comp=true):c.s.k.d.off=false:=by
 unfold dF.en at h;split at h
 ·cases h
 rename_i h1;simpa using h1
def jU.read(h:jU cf kc n j AL c)(he:c.en kc 0=true):∃t,c.src.mF (c.pos+1)= .ok t/\jC t=true/\c.read=({c with q:=c.q++[t],pos:=c.pos+1},⟨0,0,1⟩)/\jU cf kc n (j+1) AL c.read.1:=by
 obtain⟨tr,xs,hd,RS,RK,hb,ha⟩:=h;have ho:=BP he;unfold dF.en at he;rw[zzb (by rw[ho];decide),zzc rfl,zzx,ha.head]at he
 obtain⟨o1,o2,o3,o4,o5,o6⟩:=ha.ord;obtain⟨p,hp⟩:=xx8 hb.pos.1;have jz:p<AL.length:=by omega
 have hr:c.src.mF (c.pos+1)= .ok AL[p]:=by
  rw[hp];exact ha.kv.read (j:=p) (by omega) jz
 have oA:=ha.kv.re.ok.may _ (zzg jz);have B':=hb.al;have iP:c.read=({c with q:=c.q++[AL[p]],pos:=c.pos+1},⟨0,0,1⟩):=by unfold dF.read;rw[hr]
 refine⟨AL[p],hr,oA,iP,?_⟩;rw[iP];have hm:=hb.mono;have kA:=ha.mono;have hlen:=ha.kv.re.len;refine⟨tr,xs,hd,RS,RK,⟨hm.dk,hm.ops,hm.al,hm.sg,hm.st1,hm.st2,hm.p3,hm.kg,hm.run,hm.xl,hm.pl,hm.rT,hm.wt,hm.kB,hm.mx,hm.late,hm.dr,hm.ids,λt ht=>?_,?_,?_,hm.last,hm.due,hm.now,hm.dl,hm.dw⟩,⟨kA.off,kA.dR,kA.kv,kA.si,kA.kw,kA.pj,kA.rC,kA.tl,kA.la,?_,?_,λi hi=>?_⟩⟩
 ·rcases zz0.1 ht with ht|ht
  ·exact hm.q t ht
  rw[zz3.1 ht];exact oA
 ·show (c.q++[AL[p]]).length<=kc.cap;rw[zza,zz6];omega
 ·show 0<=c.pos+1/\c.pos+1<=_;omega
 ·show c.pos+1=c.m.at_+((c.q++[AL[p]]).length:Nat);rw[zza,zz6];have:=ha.qp;omega
 ·show c.pos+1<=(AL.length:Int);omega
 show AL[c.m.at_.toNat+i]?=some (c.q++[AL[p]])[i];have hi:i<(c.q++[AL[p]]).length:=hi;rw[zza,zz6]at hi
 have hq:=ha.qp;by_cases h1:i<c.q.length
 ·rw[wwk h1];exact ha.qq i h1
 have:i=c.q.length:=by omega
 subst this;rw[ww4 (zzi _)];simp only[Nat.sub_self,List.getElem_singleton];rw[show c.m.at_.toNat+c.q.length=p by omega,zzd jz]
def b_s(he:c.en kc 1=true):∃t q,c.q=t::q/\0<c.pw kc/\c.m.dI.waits t.kind t.mark=false:=by
 have ho:=BP he;unfold dF.en at he;rw[zzb (by rw[ho];decide),zzb (by decide),zzc rfl]at he
 cases hq:c.q with
 | nil=>rw[hq]at he;cases he
 | cons t q=>
  rw[hq]at he
  simp only[zz9,zzx,ttc]at he;exact⟨t,q,rfl,he.1,he.2⟩
def jU.take(h:jU cf kc n j AL c)(hc:CC cf kc n)(he:c.en kc 1=true):∃t q m' x,c.q=t::q/\jC t=true/\0<c.pw kc/\c.m.take t=(m',(x,0))/\jE x=true/\x.aw=t.aw/\c.take=(({c with q:=q,m:=m'}:dF).Eo x,⟨0,0,2⟩)/\jU cf kc n (j+1) AL c.take.1:=by
 obtain⟨tr,xs,hd,RS,RK,hb,ha⟩:=h;obtain⟨t,q,hq,rN,hw⟩:=b_s he;obtain⟨o1,o2,o3,o4,o5,o6⟩:=ha.ord;have oA:=hb.q t (by rw[hq];exact .head _);have iet:=hb.mx.rI;have V7:=ha.qp;have oT:t.aw=c.m.at_+1:=by
  have h1:=ha.qq 0 (by rw[hq];simp);simp only[hq,vvf]at h1;obtain⟨h2,h3⟩:=zzh.1 h1;have:=ha.kv.re.ok.aw _ h2;rw[h3]at this
  omega
 obtain⟨e0,hT⟩:=hb.mx.take oA oT hw hc.n8;have hk:=(gwa (t:=t) hb.mx.may hb.mx.dI.len (by rw[hb.mx.dI.nn];exact hc.BE) hb.mx.dI.id ⟨hb.mx.rI,hb.mx.uz⟩).1;obtain⟨m',x,e,Af⟩:∃m' x e,c.m.take t=(m',(x,e)):=⟨_,_,_,rfl⟩;rw[Af]at e0 hT hk
 simp only at e0 hT hk;subst e0;have vu:c.take=(({c with q:=q,m:=m'}:dF).Eo x,⟨0,0,2⟩):=by unfold dF.take;rw[hq];simp only[Af]
 refine⟨t,q,m',x,hq,oA,rN,Af,hT.it.w.may,hT.aw,vu,?_⟩;rw[vu];have hm:=hb.mono;have kA:=ha.mono;have oC:=hT.aw;have FH:=hT.at_;have hlen:=ha.kv.re.len;have Ie:=hb.ql;rw[hq]at V7 Ie
 simp only[zzj]at V7 Ie;have V6:∀y∈q,jC y=true:=λy hy=>hb.q y (by rw[hq];exact .tail _ hy);have A2:∀m∈c.dr.l,m.1<=(m'.reqs.length:Int):=λm A6=>by have:=hb.ids m A6;omega
 have V8:∀i (hi:i<q.length),AL[m'.at_.toNat+i]?=some q[i]:=λi hi=>by
  have h1:=ha.qq (i+1) (by rw[hq];simp;omega);simp only[hq,vvi]at h1;rw[show m'.at_.toNat+i=c.m.at_.toNat+(i+1) by rw[FH,oT];omega];exact h1
 unfold dF.Eo;split
 ·rename_i iX;have hp:=ha.pj.put hT.it (by rw[oC,oT];omega) hT.nr (by unfold dF.pw at rN;omega);have FN:=hp.mono (show j<=j+1 by omega);have Ag:max c.last x.aw=x.aw:=by rw[oC,oT];omega
  refine⟨tr,xs,hd,RS,RK,⟨hm.dk,hm.ops,hm.al,hm.sg,hm.st1,hm.st2,hm.p3,hm.kg,hm.run,hm.xl,hm.pl,hm.rT,FN.inv hc,hm.kB,hT.ok,hT.late.trans hb.late,hm.dr,A2,V6,by show q.length<=_;omega,hm.pos,?_,hm.due,hm.now,hm.dl,hm.dw⟩,⟨kA.off,kA.dR,kA.kv,kA.si,kA.kw,?_,kA.rC,kA.tl,?_,?_,ha.pl,V8⟩⟩
  ·show 0<=max c.last x.aw/\max c.last x.aw<=_;rw[Ag,oC];have:=(sA oA).1;omega
  ·show nU kc n _ hd (max c.last x.aw) m'.reqs (j+1);rw[Ag];exact FN
  ·show max c.last x.aw<=m'.at_;rw[Ag,FH,oC];exact yyc _
  show c.pos=m'.at_+q.length;rw[FH,oT];omega
 rename_i iX;have Lf:x.notes=[]:=xx9.1 (by omega);have hR:m'.reqs=c.m.reqs:=by
  have:=hT.nr;rw[Lf]at this
  exact (xx2 this).symm
 refine⟨tr,xs,hd,RS,RK,⟨hm.dk,hm.ops,hm.al,hm.sg,hm.st1,hm.st2,hm.p3,hm.kg,hm.run,hm.xl,hm.pl,hm.rT,hm.wt,hm.kB,hT.ok,hT.late.trans hb.late,hm.dr,A2,V6,by show q.length<=_;omega,hm.pos,hm.last,hm.due,hm.now,hm.dl,hm.dw⟩,⟨kA.off,kA.dR,kA.kv,kA.si,kA.kw,?_,kA.rC,kA.tl,?_,?_,ha.pl,V8⟩⟩
 ·show nU kc n c.s hd c.last m'.reqs (j+1);rw[hR];exact kA.pj
 ·show c.last<=m'.at_;rw[FH,oT];omega
 show c.pos=m'.at_+q.length;rw[FH,oT];omega
def CB.wJ(h:CB cf kc n j AL xs c){w:iM}{dr:iI}(hw:nV n cf.chunk w)(hd:dr.Ok)(hi:∀m∈dr.l,m.1<=c.m.reqs.length):CB cf kc n j AL xs {c with m:={c.m with dI:=w},dr:=dr}:=
 ⟨h.dk,h.ops,h.al,h.sg,h.st1,h.st2,h.p3,h.kg,h.run,h.xl,h.pl,h.rT,h.wt,h.kB,⟨h.mx.sD,h.mx.rI,h.mx.uz,h.mx.may,h.mx.rq,hw⟩,h.late,hd,hi,h.q,h.ql,h.pos,h.last,h.due,h.now,h.dl,h.dw⟩
def CA.wJ(h:CA cf kc n j AL tr xs hd RS RK c)(w:iM)(dr:iI):CA cf kc n j AL tr xs hd RS RK {c with m:={c.m with dI:=w},dr:=dr}:=⟨h.off,h.dR,h.kv,h.si,h.kw,h.pj,h.rC,h.tl,h.la,h.qp,h.pl,h.qq⟩
def jU.wJ(h:jU cf kc n j AL c){w:iM}{dr:iI}(hw:nV n cf.chunk w)(hd:dr.Ok)(hi:∀m∈dr.l,m.1<=c.m.reqs.length):jU cf kc n j AL {c with m:={c.m with dI:=w},dr:=dr}:=by
 obtain⟨tr,xs,sm,RS,RK,hb,ha⟩:=h;exact⟨tr,xs,sm,RS,RK,hb.wJ hw hd hi,ha.wJ w dr⟩
def tJ.wJ(h:tJ cf kc n j AL c){w:iM}{dr:iI}(hw:nV n cf.chunk w)(hd:dr.Ok)(hi:∀m∈dr.l,m.1<=c.m.reqs.length):tJ cf kc n j AL {c with m:={c.m with dI:=w},dr:=dr}:=by
 obtain⟨ho,tr,xs,t,m,RS,RK,hb,h⟩:=h;exact⟨ho,tr,xs,t,m,RS,RK,hb.wJ hw hd hi,⟨h.dR,h.kd,h.sd,h.kb,h.nx⟩⟩
def jU.self(h:jU cf kc n j AL c):jU cf kc n j AL (c.oe c.src):=by
 obtain⟨tr,xs,hd,RS,RK,h,a⟩:=h;exact⟨tr,xs,hd,RS,RK,⟨h.dk,h.ops,h.al,h.sg,h.st1,h.st2,h.p3,h.kg,h.run,h.xl,h.pl,h.rT,h.wt,h.kB,h.mx,h.late,h.dr,h.ids,h.q,h.ql,h.pos,h.last,h.due,h.now,h.dl,h.dw⟩,⟨a.off,a.dR,a.kv,a.si,a.kw,a.pj,a.rC,a.tl,a.la,a.qp,a.pl,a.qq⟩⟩
def eWz{kind mark:Int}(hk:kind=2\/kind=3)(hm:1<=mark/\mark<=1099511627776):jC ⟨1,kind,[],[],mark⟩=true:=Bd.2 ⟨⟨yyc _,show (1:Int)<=1099511627776 by decide⟩,.inr ⟨hk,hm.1,hm.2,rfl,rfl⟩⟩
def jU.mark(h:jU cf kc n j AL c)(hc:CC cf kc n)(hj:j<=190){kind mark:Int}(hk:kind=2\/kind=3)(hm:1<=mark/\mark<=1099511627776):
  (∃k' x,c.src.sy kind mark=(k',((AL.length:Int)+1,0))/\jU cf kc n (j+1) (AL++[x]) (c.oe k'))\/(∃k',c.src.sy kind mark=(k',(0,8))/\tJ cf kc n (j+1) AL (c.oe k')):=by
 have Af:=eWz hk hm;have e:c.src.sy kind mark=c.src.lK ⟨1,kind,[],[],mark⟩:=by unfold g_.sy;rw[zzc ⟨hk,Af⟩]
 rw[e];have dIg:rG n AL:=by obtain⟨_,_,_,_,_,_,ha⟩:=h;exact ha.kv.re
 rcases h.lK hc hj Af (λx hx=>by cases hx) with ⟨k',e1,h1⟩|⟨k',e1,h1⟩|⟨_,hf⟩
 ·exact .inl ⟨k',_,e1,h1⟩
 ·exact .inr ⟨k',e1,h1⟩
 exfalso;have:rL (kF n AL) []=true:=by
  unfold rL;rw[zz9,zz5,zz5];exact⟨λx hx=>(by cases hx),λC hC=>zzm (dIg.sD.2 C hC)⟩
 rw[this]at hf
 cases hf
def a_t{C:List Row}(h:sM C)(key m:Int):∀r∈s_ C key m,wF r:=λr hr=>by
 unfold s_ at hr;exact h.rows r (xx3.1 (yyn hr)).1
def jU.snap(h:jU cf kc n j AL c)(hc:CC cf kc n)(hj:j<=190)(he:c.en kc 2=true):
  (∃kf,jU cf kc n (j+1) kf (c.snap cf).1/\(kf=AL\/∃x,kf=AL++[x])/\((c.snap cf).2=⟨0,0,3⟩\/(c.snap cf).2=⟨0,0,4⟩\/(c.snap cf).2=⟨0,0,5⟩))\/(tJ cf kc n (j+1) AL (c.snap cf).1/\(c.snap cf).2=⟨8,0,0⟩):=by
 have ho:=BP he;obtain⟨tr,xs,hd,RS,RK,hb,ha⟩:=id h;have K2:=hb.UX hc;unfold dF.en at he;rw[zzb (by rw[ho];decide),zzb (by decide),zzb (by decide),zzc rfl]at he
 have vw:=hb.mx.dI;have rO:=ha.head;have B':=hb.al;unfold dF.snap ky.step;rw[zzb (by rw[show (c.p2 cf).m=c.m from rfl,he];decide)];rw[show (c.p2 cf).m=c.m from rfl];have k_:=vw.st;by_cases h0:c.m.dI.state=0
 ·rw[zzc h0];have j6:oa c.m.reqs≠[]:=by
   unfold Gs at he;rw[zzx]at he
   rcases he with e|e|e
   ·omega
   ·omega
   exact e.2
  obtain⟨r,hr,Lq,igl⟩:=K2.sE j6;obtain⟨FQ,Cv⟩:=K2.row;have AY:(rB c.dr c.m.reqs).next.1.Ok:=FQ.next;have rl:∀m∈(rB c.dr c.m.reqs).next.1.l,m.1<=c.m.reqs.length:=by rw[e_3];exact Cv
  have hr:As c.m.reqs (rB c.dr c.m.reqs).next.2=some r:=hr;have Ig:=hb.mx.rq r Lq;unfold ky.F' ky.Bc ky.F_;rw[show (c.p2 cf).m=c.m from rfl,show (c.p2 cf).d=c.dr from rfl,show (c.p2 cf).k=c.src from rfl,hr];simp only;have hh:f_ c.src.g.bF=AL.length:=rO;rw[hh];rcases h.mark hc hj (kind:=2) (mark:=(AL.length:Int)+1) (.inl rfl) (by omega) with ⟨k',x,e,h1⟩|⟨k',e,h1⟩
  ·rw[e];simp only;rw[zzb (by decide)];exact .inl ⟨_,h1.wJ (vw.xB Ig.1) AY rl,.inr ⟨x,rfl⟩,.inl rfl⟩
  rw[e];simp only;rw[zzc (by decide)];exact .inr ⟨h1.wJ vw AY rl,rfl⟩
 rw[zzb h0];by_cases h1:c.m.dI.state=1
 ·rw[zzc h1];have dWq:∀r∈c.src.BL c.m.dI.table c.m.dI.after cf.chunk,wF r:=by
   unfold g_.BL;have ht:=(vw.live h0).1;exact a_t (hb.st1 _ (GC (by show 0<=c.m.dI.table/\c.m.dI.table<(c.k.ts.length:Int);rw[hb.p3];exact ht))) _ _
  exact .inl ⟨AL,(h.self.wJ (vw.fill hc.BE dWq) hb.dr hb.ids).mono,.inl rfl,.inr (.inl rfl)⟩
 rw[zzb h1];unfold ky.FB;rw[show (c.p2 cf).m=c.m from rfl,show (c.p2 cf).k=c.src from rfl];simp only;have H_:=(vw.live h0).2.2;rcases h.mark hc hj (kind:=3) (mark:=c.m.dI.mark) (.inr rfl) H_ with ⟨k',x,e,h2⟩|⟨k',e,h2⟩
 ·rw[e];simp only;rw[zzb (by decide)];exact .inl ⟨_,h2.wJ vw.shut hb.dr hb.ids,.inr ⟨x,rfl⟩,.inr (.inr rfl)⟩
 rw[e];simp only;rw[zzc (by decide)];exact .inr ⟨h2.wJ vw hb.dr hb.ids,rfl⟩
def jU.tell(h:jU cf kc n j AL c)(hc:CC cf kc n)(he:c.en kc 4=true):jU cf kc n (j+1) AL (c.tell cf).1/\((c.m.at_<=c.last/\(c.tell cf).2=⟨0,0,9⟩)\/(c.last<c.m.at_/\0<c.pw kc/\jE ⟨c.m.at_,[],[]⟩=true/\(c.tell cf).2=⟨0,0,8⟩)):=by
 have ho:=BP he;obtain⟨tr,xs,hd,RS,RK,hb,ha⟩:=h;unfold dF.en at he;rw[zzb (by rw[ho];decide),zzb (by decide),zzb (by decide),zzb (by decide),zzb (by decide),zzc rfl,zzx]at he
 have hm:=hb.mono;have kA:=ha.mono;have HN:0<=nD cf.every c.now/\nD cf.every c.now<=4503599627370496:=by
  have:=hc.e1;have:=hc.e2;have:=hb.now;unfold nD;omega
 have hla:=hb.last;have mh:=hb.mx.uz;unfold dF.tell;split
 ·rename_i hl;exact⟨⟨tr,xs,hd,RS,RK,⟨hm.dk,hm.ops,hm.al,hm.sg,hm.st1,hm.st2,hm.p3,hm.kg,hm.run,hm.xl,hm.pl,hm.rT,hm.wt,hm.kB,hm.mx,hm.late,hm.dr,hm.ids,hm.q,hm.ql,hm.pos,hm.last,HN,hm.now,hm.dl,hm.dw⟩,⟨kA.off,kA.dR,kA.kv,kA.si,kA.kw,kA.pj,kA.rC,kA.tl,kA.la,kA.qp,kA.pl,kA.qq⟩⟩,.inl ⟨hl,rfl⟩⟩
 rename_i hl;have rN:0<c.pw kc:=by omega
 have HZ:xG n ⟨c.m.at_,[],[]⟩:=xG.empty (by omega);have hp:=ha.pj.put HZ (R':=c.m.reqs) (by show c.last<c.m.at_;omega) rfl (by unfold dF.pw at rN;omega);have FN:=hp.mono (show j<=j+1 by omega);exact⟨⟨tr,xs,hd,RS,RK,⟨hm.dk,hm.ops,hm.al,hm.sg,hm.st1,hm.st2,hm.p3,hm.kg,hm.run,hm.xl,hm.pl,hm.rT,FN.inv hc,hm.kB,hm.mx,hm.late,hm.dr,hm.ids,hm.q,hm.ql,hm.pos,⟨hb.mx.rI,mh⟩,HN,hm.now,hm.dl,hm.dw⟩,⟨kA.off,kA.dR,kA.kv,kA.si,kA.kw,FN,kA.rC,kA.tl,yyc _,kA.qp,kA.pl,kA.qq⟩⟩,.inr ⟨by omega,rN,HZ.w.may,rfl⟩⟩
end
def Me{n:Nat}{b:Int}:∀(A:List mn) {L L':List Rq},kW L A=some L'->(∀r∈L,r.table<(n:Int)/\r.at_<=b)->(∀m∈A,nm m b=true/\(m.kind≠2->m.table<(n:Int)))->∀r∈L',r.table<(n:Int)/\r.at_<=b
 | [],L,L',h,hL,_=>by cases h;exact hL
 | m::A,L,L',h,hL,hA=>by
  unfold kW at h;cases hn:tD L m with
  | none=>rw[hn]at h;cases h
  | some L2=>
   rw[hn]at h
   refine Me A h (λr hr=>?_) λy hy=>hA y (.tail _ hy);obtain⟨FG,Ae⟩:=hA m (.head _);unfold tD at hn;split at hn
   ·obtain⟨r0,h0,e1,e2⟩:=TI hn r hr;rw[e1,e2];exact hL r0 h0
   rename_i hk;split at hn
   ·rename_i L3 h3;split at hn
    ·cases hn;obtain⟨e,_⟩:=S_ h3;rw[e]at hr
     rcases zz0.1 hr with hr|hr
     ·exact hL r hr
     rw[zz3.1 hr];obtain⟨_,_,h5⟩:=Ga.1 FG;refine⟨Ae hk,?_⟩;rcases h5 with h5|h5
     ·exact h5.2.2.2.2.2.2.1
     exact absurd h5.1 hk
    cases hn
   cases hn
def bF0{k:gF}{N:Nat}(hg:mH k.g N)(hd:k.d.Ok N)(x:eF):mH (k.kR x).1.g (N+400000)/\(k.kR x).1.d.Ok (N+400000):=by
 rcases bFx k x with ⟨e1,e2⟩|⟨hm,⟨e1,e2⟩|⟨n,e1,e2⟩⟩
 ·rw[e1,e2];exact⟨hg.mono (by omega),hd.mono (by omega)⟩
 ·have hb:=(EW hm).2;rw[e1,e2];exact⟨(Tk hg _).mono (by omega),(Tl hd _).mono (by omega)⟩
 have hb:=(EW hm).2;rw[e1,e2];exact⟨(gwf hg _ _).mono (by omega),(gwl hd _ _).mono (by omega)⟩
section
variable {cf:jI} {kc:jD} {n j:Nat} {AL:List fF} {tr:Nat} {xs hd:List eF} {RS RK:List PF} {c:dF}
def nU.notes{s:km}{last:Int}{R:List Rq}{f:Nat}(h:nU kc n s hd last R f):∀m∈s.held.notes,nm m s.held.aw=true/\(m.kind≠2->m.table<(n:Int)):=λm hm=>by
 have h1:=kI.append.1 h.od;have hJ:=F8 (n:=n) (l:=hd) (λx hx=>(h.it x (xx7 _ hx)).w) h1.1;rw[h.held]at hm ⊢
 refine⟨hJ.Mf m hm,λhk=>?_⟩;rw[WY]at hm
 unfold oE at hm;obtain⟨l,hl,hm⟩:=xx5.1 hm;obtain⟨x,hx,rfl⟩:=zzy.1 hl;exact (h.it x (xx7 _ hx)).nt m hm hk
def Ep{k:gF}{a:List (List Cell)}{L:List Rq}{l:Int}(h:k.tr=(a,L,l)):k.ts=a/\k.reqs=L/\k.aw=l:=by
 unfold gF.tr at h;simp only[www]at h;exact h
def jU.write(h:jU cf kc n j AL c)(hc:CC cf kc n)(hj:j<=190)(he:c.en kc 3=true):
  (jU cf kc n (j+1) AL (c.write kc).1/\((c.write kc).2=⟨0,0,6⟩\/(c.write kc).2=⟨0,0,7⟩))\/(tJ cf kc n (j+1) AL (c.write kc).1/\(c.write kc).2=⟨8,0,0⟩):=by
 have ho:=BP he;obtain⟨tr,xs,hd,RS,RK,hb,ha⟩:=h;unfold dF.en at he;rw[zzb (by rw[ho];decide),zzb (by decide),zzb (by decide),zzb (by decide),zzc rfl]at he
 obtain⟨sm,hP,iX,hk,_,_⟩:=ha.pj.hold hc.b1 he;obtain⟨hm,hl,L,B7,Fo⟩:=hP.fits hc iX;have VU:=hP.notes;have k_:c.s.step kc c.now c.draw=(c.s.hold kc.fW).hand kc c.now c.draw:=by unfold km.step;rw[zzc he]
 have Ic:=ha.ord;have hM:=hb.mono;have hA:=ha.mono;have oC:=hb.xl;have j6:=hb.ops;have K8:nJ j+400000=nJ (j+1):=by show 400000*(j+1)+400000=400000*(j+1+1);omega
 have kV:=bF0 hb.kg hb.dk (c.s.hold kc.fW).held;rw[K8]at kV
 have heq:=ha.f_y;have DX:=bF1 ha.kw (c.s.hold kc.fW).held;have pO:=bFy ha.si (L:=L) hb.dk.uy ha.off (by omega) hb.rT hm (λiw=>by have h1:=B7 (by rw[hk];exact iw);rw[hk]at h1;exact h1.1);have KR:(c.s.hold kc.fW).k.kR (c.s.hold kc.fW).held=(((c.kK RK).kR (c.s.hold kc.fW).held).1.ka RS,((c.kK RK).kR (c.s.hold kc.fW).held).2):=by
  rw[hk]
  conv=>lhs;rw[heq]
  exact DX.1
 have nP:c.s.k.kR (c.s.hold kc.fW).held=(((c.kK RK).kR (c.s.hold kc.fW).held).1.ka RS,((c.kK RK).kR (c.s.hold kc.fW).held).2):=by rw[<- hk];exact KR
 rw[nP]at kV
 have A3:=DX.2;generalize (c.kK RK).kR (c.s.hold kc.fW).held=ke at *
 obtain⟨k',e⟩:=ke;simp only at kV A3 pO KR;have H9:(c.s.hold kc.fW).k.reqs=c.s.k.reqs/\(c.s.hold kc.fW).k.aw=c.s.k.aw:=by rw[hk];exact⟨rfl,rfl⟩
 rw[H9.1,H9.2]at B7 Fo
 have sr:mN 0 sm<=c.last:=by
  have h1:=kI.append.1 hP.od;have h2:=hP.le;rw[LU]at h2
  have:=h1.2.last;omega
 have iY:k'.d.ops<=250*(j+2):=by have:=pO.ops;have h2:(c.kK RK).d.ops=c.s.k.d.ops:=rfl;omega
 have jz:k'.plan.length<=1024:=yyw pO.pl hb.pl;have DQ:∀f∈k'.plan,nc f=true:=λf hf=>hb.rT f (pO.plan f hf);have uO:(ix RS [] k'.d).R=RS++k'.d.R:=by show RS++k'.d.R++[]=_;rw[zzw]
 have igt:∀{t:Tr},t=c.s.k.tr->t.2.1=c.s.k.reqs/\t.2.2=c.s.k.aw:=λh=>by rw[h];exact⟨rfl,rfl⟩
 have rm:(k'.tr=c.s.k.tr/\k'.reqs=c.s.k.reqs/\k'.aw=c.s.k.aw)\/(c.s.k.aw<(c.s.hold kc.fW).held.aw/\k'.tr=((ks c.s.k.ts (c.s.hold kc.fW).held.ops).1,L,(c.s.hold kc.fW).held.aw)/\k'.reqs=L/\k'.aw=(c.s.hold kc.fW).held.aw)->(∀r∈k'.reqs,r.table<(n:Int)/\r.at_<=k'.aw)/\(tr:Int)<=k'.aw/\k'.aw<=c.last:=by
  rintro (⟨_,h2,h3⟩|⟨h1,_,h2,h3⟩)
  ·rw[h2,h3];exact⟨ha.rC,ha.tl,ha.pj.aw⟩
  rw[h2,h3];obtain⟨_,_,hn⟩:=Ff (B7 h1).1;refine⟨Me _ hn (λr hr=>?_) VU,by omega,by rw[hl];exact sr⟩;have:=ha.rC r hr;exact⟨this.1,by omega⟩
 unfold dF.write;rw[k_];unfold km.hand;rw[KR];simp only;have dW5:0<=vU c.now+vJ ((c.s.hold kc.fW).ll+1) kc.b kc.m kc.j c.draw/\vU c.now+vJ ((c.s.hold kc.fW).ll+1) kc.b kc.m kc.j c.draw<=4503599627370496:=by
  have h1:=TL c.now;have h2:=aIf (k:=(c.s.hold kc.fW).ll+1) (b:=kc.b) (m:=kc.m) (j:=kc.j) (draw:=c.draw);omega
 rcases pO.res with ⟨rfl,r1,⟨ik,r2,r3⟩,r4⟩|⟨rfl,r1,⟨ik,r2,r3⟩,r4⟩|⟨rfl,r1,r2,⟨m',r3,r4⟩,r5⟩
 ·rw[zzc rfl];refine .inl ⟨?_,.inl ?_⟩
  ·have FC:(k'.tr=c.s.k.tr/\k'.reqs=c.s.k.reqs/\k'.aw=c.s.k.aw)\/(c.s.k.aw<(c.s.hold kc.fW).held.aw/\k'.tr=((ks c.s.k.ts (c.s.hold kc.fW).held.ops).1,L,(c.s.hold kc.fW).held.aw)/\k'.reqs=L/\k'.aw=(c.s.hold kc.fW).held.aw):=by
    rcases r4 with ⟨a,b⟩|⟨a,b⟩
    ·have:=Ep b;exact .inr ⟨a,b,this.2.1,this.2.2⟩
    have h2:k'.tr=(c.s.k.ts,c.s.k.reqs,c.s.k.aw):=b;have:=Ep h2;exact .inl ⟨b,this.2.1,this.2.2⟩
   obtain⟨q1,q2,q3⟩:=rm FC;have VG:k'.aw=mN 0 sm/\kW k'.reqs (oE (c.s.hold kc.fW).L)=some c.m.reqs:=by
    rcases FC with ⟨_,a,b⟩|⟨a,_,b,d⟩
    ·have DN:¬c.s.k.aw<(c.s.hold kc.fW).held.aw:=by
      rcases r4 with ⟨a2,b2⟩|⟨a2,_⟩
      ·intro _;have:=(Ep b2).2.2;have a2:c.s.k.aw<(c.s.hold kc.fW).held.aw:=a2;omega
      exact a2
     obtain⟨e1,e2⟩:=Fo DN;rw[a,b];exact⟨e1,e2⟩
    rw[b,d,hl];exact⟨rfl,(B7 a).2⟩
   have Fp:=(hP.done (k':=k'.ka RS) VG.1 VG.2).mono (show j<=j+1 by omega);refine⟨tr,ik,[],RS,k'.d.R,⟨kV.2,iY,hM.al,hM.sg,hM.st1,hM.st2,hM.p3,kV.1,r2.run,by omega,jz,DQ,Fp.inv hc,⟨yyc _,show (0:Int)<=4503599627370496 by decide⟩,hM.mx,hM.late,hM.dr,hM.ids,hM.q,hM.ql,hM.pos,hM.last,hM.due,hM.now,hM.dl,hM.dw⟩,⟨r1,uO,?_,r2,A3,Fp,q1,q2,hA.la,hA.qp,hA.pl,hA.qq⟩⟩;exact hA.kv.wd (d':={ix RS [] k'.d with R:=RS}) rfl r1 kV.2.uy kV.2.vf
  rfl
 ·rw[zzb (by decide),zzc rfl];refine .inl ⟨?_,.inr ?_⟩
  ·have FC:(k'.tr=c.s.k.tr/\k'.reqs=c.s.k.reqs/\k'.aw=c.s.k.aw)\/(c.s.k.aw<(c.s.hold kc.fW).held.aw/\k'.tr=((ks c.s.k.ts (c.s.hold kc.fW).held.ops).1,L,(c.s.hold kc.fW).held.aw)/\k'.reqs=L/\k'.aw=(c.s.hold kc.fW).held.aw):=by
    rcases r4 with ⟨a,b⟩|b
    ·have:=Ep b;exact .inr ⟨a,b,this.2.1,this.2.2⟩
    have h2:k'.tr=(c.s.k.ts,c.s.k.reqs,c.s.k.aw):=b;have:=Ep h2;exact .inl ⟨b,this.2.1,this.2.2⟩
   obtain⟨q1,q2,q3⟩:=rm FC;have Fp:=hP.again iX (k':=k'.ka RS) (by
    rcases FC with ⟨_,a,b⟩|⟨a,_,b,d⟩
    ·exact .inl ⟨b.trans H9.2.symm,a.trans H9.1.symm⟩
    exact .inr ⟨d.trans hl,by show kW k'.reqs _=_;rw[b];exact (B7 a).2⟩) (vU c.now+vJ ((c.s.hold kc.fW).ll+1) kc.b kc.m kc.j c.draw)
   refine⟨tr,ik,sm,RS,k'.d.R,⟨kV.2,iY,hM.al,hM.sg,hM.st1,hM.st2,hM.p3,kV.1,r2.run,by omega,jz,DQ,Fp.inv hc,dW5,hM.mx,hM.late,hM.dr,hM.ids,hM.q,hM.ql,hM.pos,hM.last,hM.due,hM.now,?_,?_⟩,⟨r1,uO,?_,r2,A3,Fp,q1,q2,hA.la,hA.qp,hA.pl,hA.qq⟩⟩
   ·show (if (7:Int)=7 then c.iG.tail else c.iG).length<=1024;have:=hM.dl;rw[zzc rfl,List.length_tail];omega
   ·show ∀x∈(if (7:Int)=7 then c.iG.tail else c.iG),_;rw[zzc rfl];exact λx hx=>hM.dw x (List.mem_of_mem_tail hx)
   exact hA.kv.wd (d':={ix RS [] k'.d with R:=RS}) rfl r1 kV.2.uy kV.2.vf
  rfl
 rw[zzb (by decide),zzb (by decide)];have h2:k'.tr=(c.s.k.ts,c.s.k.reqs,c.s.k.aw):=r5;have h3:=Ep h2;obtain⟨q1,q2,q3⟩:=rm (.inl ⟨r5,h3.2.1,h3.2.2⟩);have hw:=hP.inv hc;refine .inr ⟨⟨r1,tr,xs,none,m',RS,k'.d.R,⟨kV.2,iY,hM.al,hM.sg,hM.st1,hM.st2,hM.p3,kV.1,?_,hM.xl,jz,DQ,⟨hw.Dc,hw.cap,hw.Bf,hw.fW,hw.it,hw.od,hw.room,hw.out,hw.held,hw.f0,by have:=hw.f1;show (c.s.hold kc.fW).ll<=_;omega⟩,?_,hM.mx,hM.late,hM.dr,hM.ids,hM.q,hM.ql,hM.pos,hM.last,hM.due,hM.now,hM.dl,hM.dw⟩,⟨uO,?_,⟨true,?_⟩,λx hx=>A3.w.m x hx,λt' ht=>?_⟩⟩,rfl⟩
 ·exact r3.run
 ·show 0<=(c.s.hold kc.fW).kB/\(c.s.hold kc.fW).kB<=_;have:(c.s.hold kc.fW).kB=c.s.kB:=by unfold km.hold;split<;>rfl
  rw[this];exact hb.kB
 ·exact (hA.kv.dead).wd (d':={ix RS [] k'.d with R:=RS}) rfl kV.2.uy kV.2.vf
 ·exact r3.wd (d':={ix RS [] k'.d with R:=k'.d.R,off:=true}) rfl r1.symm
 have FQ:(k'.ka RS).tr=c.s.k.tr:=r5;rcases ht with rfl|⟨x,hx,hs⟩
 ·exact⟨q1,q2,by show k'.aw<=_;omega⟩
 obtain⟨rfl,iw⟩:=r4 x hx;have iw:c.s.k.aw<(c.s.hold kc.fW).held.aw:=iw;rw[FQ,MV (t:=c.s.k.tr) (B7 iw).1 iw]at hs
 cases hs;obtain⟨_,_,hn⟩:=Ff (B7 iw).1;refine⟨Me _ hn (λr hr=>?_) VU,by show (tr:Int)<=(c.s.hold kc.fW).held.aw;omega,by show (c.s.hold kc.fW).held.aw<=_;rw[hl];omega⟩;have:=ha.rC r hr;exact⟨this.1,by show r.at_<=(c.s.hold kc.fW).held.aw;omega⟩
def CS.fault(h:CS cf kc n j AL c)(f:kY):CS cf kc n (j+1) AL (c.fault f).1:=by
 unfold dF.fault;split
 ·exact h.mono
 rename_i hf;split
 ·exact h.mono
 rename_i hl;have hf:nc f=true:=by cases hq:nc f with
  | true=>rfl
  | false=>exact absurd hq hf
 have hpm:∀g∈c.s.k.plan++[f],(∀g∈c.s.k.plan,nc g=true)->nc g=true:=λg hg hp=>by
  rcases zz0.1 hg with hg|hg
  ·exact hp g hg
  rw[zz3.1 hg];exact hf
 have jz:(c.s.k.plan++[f]).length<=1024:=by rw[zza,zz6];omega
 have hB:∀xs,CB cf kc n j AL xs c->CB cf kc n (j+1) AL xs {c with s:={c.s with k:={c.s.k with plan:=c.s.k.plan++[f]}}}:=λxs hb=>by
  have h:=hb.mono;have hw:=h.wt;exact⟨h.dk,h.ops,h.al,h.sg,h.st1,h.st2,h.p3,h.kg,h.run,h.xl,jz,λg hg=>hpm g hg h.rT,⟨hw.Dc,hw.cap,hw.Bf,hw.fW,hw.it,hw.od,hw.room,hw.out,hw.held,hw.f0,hw.f1⟩,h.kB,h.mx,h.late,h.dr,h.ids,h.q,h.ql,h.pos,h.last,h.due,h.now,h.dl,h.dw⟩
 rcases h with ⟨tr,xs,hd,RS,RK,hb,a⟩|⟨ho,tr,xs,t,m,RS,RK,hb,a⟩
 ·have a:=a.mono;have hp:=a.pj;exact .inl ⟨tr,xs,hd,RS,RK,hB xs hb,⟨a.off,a.dR,a.kv,a.si.plan _,⟨a.kw.w,a.kw.g⟩,⟨hp.it,hp.od,hp.le,hp.hn,hp.held,hp.room,hp.out,hp.l0,hp.aw,hp.st,hp.f0,hp.f1⟩,a.rC,a.tl,a.la,a.qp,a.pl,a.qq⟩⟩
 have a:=a.mono;obtain⟨o,FW⟩:=a.sd;exact .inr ⟨ho,tr,xs,t,m,RS,RK,hB xs hb,⟨a.dR,a.kd,⟨o,FW.plan _⟩,a.kb,a.nx⟩⟩
def CS.XK(h:CS cf kc n j AL c){now:Int}{dw:Ξ}(hn:0<=now/\now<=1125899906842624)(hl:dw.length<=1024)(hd:∀x∈dw,0<=x/\x<=1125899906842624):CS cf kc n (j+1) AL {c with now:=now,iG:=dw}:=by
 have hB:∀xs,CB cf kc n j AL xs c->CB cf kc n (j+1) AL xs {c with now:=now,iG:=dw}:=λxs hb=>by
  have h:=hb.mono;exact⟨h.dk,h.ops,h.al,h.sg,h.st1,h.st2,h.p3,h.kg,h.run,h.xl,h.pl,h.rT,h.wt,h.kB,h.mx,h.late,h.dr,h.ids,h.q,h.ql,h.pos,h.last,h.due,hn,hl,hd⟩
 rcases h with ⟨tr,xs,hd,RS,RK,hb,a⟩|⟨ho,tr,xs,t,m,RS,RK,hb,a⟩
 ·have a:=a.mono;exact .inl ⟨tr,xs,hd,RS,RK,hB xs hb,⟨a.off,a.dR,a.kv,a.si,a.kw,a.pj,a.rC,a.tl,a.la,a.qp,a.pl,a.qq⟩⟩
 have a:=a.mono;exact .inr ⟨ho,tr,xs,t,m,RS,RK,hB xs hb,⟨a.dR,a.kd,a.sd,a.kb,a.nx⟩⟩
def CS.tf(h:CS cf kc n j AL c):∃xs,CB cf kc n j AL xs c:=by
 rcases h with ⟨tr,xs,hd,RS,RK,hb,_⟩|⟨_,tr,xs,t,m,RS,RK,hb,_⟩
 ·exact⟨xs,hb⟩
 exact⟨xs,hb⟩
def CS.tick(h:CS cf kc n j AL c)(x:Int):CS cf kc n (j+1) AL (c.tick x).1:=by
 obtain⟨xs,hb⟩:=h.tf;have h1:=hb.now;unfold dF.tick;split
 ·exact h.mono
 split
 ·exact h.mono
 exact h.XK (now:=c.now+x) (dw:=c.iG) (by omega) hb.dl hb.dw
def CS.drawn(h:CS cf kc n j AL c)(x:Int):CS cf kc n (j+1) AL (c.drawn x).1:=by
 obtain⟨xs,hb⟩:=h.tf;unfold dF.drawn;split
 ·exact h.mono
 split
 ·exact h.mono
 refine h.XK (now:=c.now) (dw:=c.iG++[x]) hb.now (by rw[zza,zz6];omega) λy hy=>?_;rcases zz0.1 hy with hy|hy
 ·exact hb.dw y hy
 rw[zz3.1 hy];omega
def CS.arm(h:CS cf kc n j AL c)(x:Int):CS cf kc n (j+1) AL (c.Da x).1:=by
 unfold dF.Da;split
 ·exact h.mono
 rename_i hx;have xd:0<=(c.s.k.d.vg x).arm:=by show 0<=max x 0;omega
 have rh:(c.s.k.d.vg x).arm<=9223372036854775807:=by show max x 0<=_;omega
 have hB:∀xs,CB cf kc n j AL xs c->CB cf kc n (j+1) AL xs {c with s:={c.s with k:={c.s.k with d:=c.s.k.d.vg x}}}:=λxs hb=>by
  have h:=hb.mono;have hw:=h.wt;exact⟨h.dk.wd rfl xd rh,h.ops,h.al,h.sg,h.st1,h.st2,h.p3,h.kg,h.run,h.xl,h.pl,h.rT,⟨hw.Dc,hw.cap,hw.Bf,hw.fW,hw.it,hw.od,hw.room,hw.out,hw.held,hw.f0,hw.f1⟩,h.kB,h.mx,h.late,h.dr,h.ids,h.q,h.ql,h.pos,h.last,h.due,h.now,h.dl,h.dw⟩
 rcases h with ⟨tr,xs,hd,RS,RK,hb,a⟩|⟨ho,tr,xs,t,m,RS,RK,hb,a⟩
 ·have a:=a.mono;have hp:=a.pj;exact .inl ⟨tr,xs,hd,RS,RK,hB xs hb,⟨a.off,a.dR,a.kv.wd (d':={c.s.k.d.vg x with R:=RS}) rfl a.off xd rh,a.si.wd (d':={c.s.k.d.vg x with R:=RK}) rfl rfl,⟨a.kw.w,a.kw.g⟩,⟨hp.it,hp.od,hp.le,hp.hn,hp.held,hp.room,hp.out,hp.l0,hp.aw,hp.st,hp.f0,hp.f1⟩,a.rC,a.tl,a.la,a.qp,a.pl,a.qq⟩⟩
 have a:=a.mono;obtain⟨o,FW⟩:=a.sd;exact .inr ⟨ho,tr,xs,t,m,RS,RK,hB xs hb,⟨a.dR,a.kd.wd (d':={c.s.k.d.vg x with R:=RS}) rfl xd rh,⟨o,FW.wd (d':={c.s.k.d.vg x with R:=RK,off:=o}) rfl rfl⟩,a.kb,a.nx⟩⟩
end
def fw6{d d':DS}{n size:Int}{k:gF}(h:oX d n size=(d',.ok k)):jX d 8192 size=(d',.ok k.g)/\k.d=d'/\k.plan=[]:=by
 unfold oX at h;split at h
 ·cases h
 split at h
 ·cases h
 rename_i g hg;split at h
 ·cases h
 split at h
 ·cases h
 cases h;exact⟨hg,rfl,rfl⟩
def mW.base{n:Nat}{k:gF}{xs:List eF}(h:mW n k xs none)(ho:k.d.off=false):k.g.base=8192:=by
 rcases h.st with ⟨_,h⟩|⟨_,h⟩|⟨h,_⟩
 ·exact h
 ·exact h
 rw[ho]at h;cases h
def bF9(A B:List PF)(keep:Ξ):jV (A++B) keep=jV A keep++jV B (keep.drop A.length):=by
 have:=TU A B [] keep;rw[zzw]at this
 rw[this,show jV [] (keep.drop (A.length+B.length))=[] from rfl,zzw]
section
variable {cf:jI} {kc:jD} {n j:Nat} {AL:List fF} {tr:Nat} {xs hd:List eF} {RS RK:List PF} {c:dF}
def jU.vj(h:jU cf kc n j AL c)(hc:CC cf kc n)(hj:j<=190)(s:lZ):
  (∃x,jU cf kc n (j+1) (AL++[x]) (c.vj s).1/\(c.vj s).2=⟨0,(AL.length:Int)+1,0⟩)\/(tJ cf kc n (j+1) AL (c.vj s).1/\(c.vj s).2=⟨8,0,0⟩)\/(c.src.tg s.sg s.l=(c.src,(0,1))\/c.src.tg s.sg s.l=(c.src,(0,7))):=by
 have l9:c.src.ts.length=n:=by obtain⟨_,_,_,_,_,hb,_⟩:=h;exact hb.p3
 unfold dF.vj g_.tg;split
 ·rename_i hm;have ri:∀x∈s.l,mf n x=true:=λx hx=>by
   have h1:=CO.1 ((sA hm.1).2.2.2.2.2.1 x hx);have h2:=hm.2 x hx;exact zzm ⟨h1.1,by omega⟩
  rcases h.lK hc hj (t:=⟨1,1,s.l,s.sg,0⟩) hm.1 ri with ⟨k',e,h1⟩|⟨k',e,h1⟩|⟨e,_⟩
  ·rw[e];exact .inl ⟨_,h1,rfl⟩
  ·rw[e];exact .inr (.inl ⟨h1,rfl⟩)
  exact .inr (.inr (.inr e))
 exact .inr (.inr (.inl rfl))
def jU.start(hc:CC cf kc n){k1:g_}{k2:gF}{now:Int}(FK:0<=now/\now<=1125899906842624)(hk:KV n tr (nJ j) AL k1)(hs:mW n k2 xs none)(ho:k2.d.off=false)(A3:vN k1.d.R k2)(jz:k2.plan=[])(hg:mH k2.g (nJ j))(hd:(ix k1.d.R [] k2.d).Ok (nJ j))(iY:k2.d.ops<=250*(j+1))(B':AL.length<=j)(oC:xs.length<=j)(hj:j<=200)
  (rn:∀r∈k2.reqs,r.table<(n:Int)/\r.at_<=k2.aw) (h0:(tr:Int)<=k2.aw) (h1:k2.aw<=AL.length) (B:List PF):jU cf kc n j AL (dF.start cf (k1.ka B) (k2.ka k1.d.R) now):=by
 have hT:=ai5 hs.run (by omega);have vo:0<=k2.aw:=hT.l0;have A4:k2.aw<=1099511627776:=hT.l1;have Lq:lr k2.reqs:=hT.rq;have hP:nU kc n ⟨k2.ka k1.d.R,[],0,0,0,sY,0⟩ [] k2.aw k2.reqs j:=
  ⟨λx hx=>(by cases hx),trivial,by show (0:Int)<=k2.aw;exact vo,rfl,rfl,zz8 _,rfl,vo,yyc _,.inl ⟨trivial,rfl⟩,yyc _,by show (0:Int)<=(j:Int);omega⟩
 have HN:0<=nD cf.every now/\nD cf.every now<=4503599627370496:=by
  have:=hc.e1;have:=hc.e2;unfold nD;omega
 have uO:(ix k1.d.R [] k2.d).R=k1.d.R++k2.d.R:=by show k1.d.R++k2.d.R++[]=_;rw[zzw]
 refine⟨tr,xs,[],k1.d.R,k2.d.R,⟨hd,iY,B',hk.ok.g,hk.ok.rows,hk.ok.len,by show k1.ts.length=n;rw[hk.ts,u9],hg,hs.run,oC,by show k2.plan.length<=1024;rw[jz];decide,by show ∀f∈k2.plan,_;rw[jz];simp,hP.inv hc,⟨yyc _,show (0:Int)<=4503599627370496 by decide⟩,⟨hc.tables,vo,A4,Lq,rn,nV.rY n cf.chunk⟩,rfl,bWa,λm hm=>(by cases hm),λt ht=>(by cases ht),zz8 _,⟨vo,A4⟩,⟨vo,A4⟩,HN,FK,zz8 _,λx hx=>(by cases hx)⟩,
  ⟨ho,uO,?_,hs,A3,hP,rn,h0,yyc _,by show k2.aw=k2.aw+(0:Nat);omega,h1,λi hi=>(by cases hi)⟩⟩
 exact hk.wd (d':={ix k1.d.R [] k2.d with R:=k1.d.R}) rfl ho hd.uy hd.vf
def CD.jO{t:Option fF}{m:Option eF}(h:CD n j AL t tr xs m RS RK c)(hb:CB cf kc n j AL xs c)(hc:CC cf kc n)(hj:j<=190)(keep:Ξ):
  ∃k1 k2 kf,pG (c.s.k.d.jO keep) cf.tables cf.size=(k1.d,.ok k1)/\oX k1.d cf.tables cf.size=(k2.d,.ok k2)/\jU cf kc n (j+1) kf (dF.start cf k1 k2 c.now)/\(kf=AL\/∃x,kf=AL++[x]) /\
   (∀d' g,jX (c.s.k.d.jO keep) 16 cf.size=(d',.ok g)->(gR g.bF).length<=1001)/\(∀d' g,jX k1.d 8192 cf.size=(d',.ok g)->(gR g.bF).length<=200)/\k1.d.Ok (nJ (j+1))/\k1.d.ops<=250*(j+1)+2/\c.s.k.aw<=k2.aw:=by
 have B':=hb.al;have oC:=hb.xl;have j6:=hb.ops;have hB:∀x∈jV RK (keep.drop RS.length),8192<=x.id/\x.id<12288:=λx hx=>by
  obtain⟨y,hy,e⟩:=Gf hx;rw[<- e];exact h.kb y hy
 obtain⟨k1,kf,e1,hk,a1,p1,hA,su⟩:=h.kd.open hc.n1 hc.n8 keep hc.s0 hc.s1 (B:=jV RK (keep.drop RS.length)) λx hx=>(hB x hx).1;have ecr:c.s.k.d.jO keep=ix [] (jV RK (keep.drop RS.length)) (({c.s.k.d with R:=RS}:DS).jO keep):=by
  unfold DS.jO ix;simp only[zzp];rw[h.dR,bF9]
 rw[<- ecr]at e1 su
 have p1:k1.d.ops<=c.s.k.d.ops+1:=p1;obtain⟨o,FW⟩:=h.sd;have Cy:mW n {c.s.k with d:={c.s.k.d with R:=RK,off:=o,ops:=k1.d.ops}} xs m:=FW.wd (d':={c.s.k.d with R:=RK,off:=o,ops:=k1.d.ops}) rfl rfl;obtain⟨k2,ik,e2,kU,jz,Lj,B9,A8,hL,hx⟩:=mW.open (gw:=n) hc.n1 hc.n8 Cy (keep.drop RS.length) (by omega) hc.s0 hc.s1;have dF1:({c.s.k.d with R:=RK,off:=o,ops:=k1.d.ops}:DS).jO (keep.drop RS.length)={k1.d with R:=jV RK (keep.drop RS.length)}:=by
  have ho:=hk.off;unfold DS.jO;simp only;cases tX:k1.d;rw[tX]at ho a1
  simp only at ho a1;subst ho a1;rfl
 rw[dF1]at e2
 have F1:iO 8192 12288 k1.d.R [] ({k1.d with R:=jV RK (keep.drop RS.length)}:DS).R:=⟨hk.ids,hB,λx hx=>by cases hx⟩;have e3:=fw7 F1 (n:Int) cf.size;rw[e2]at e3
 have e4:ix k1.d.R [] {k1.d with R:=jV RK (keep.drop RS.length)}=ix [] (jV RK (keep.drop RS.length)) k1.d:=by unfold ix;simp
 rw[e4]at e3
 have e3:oX (ix [] (jV RK (keep.drop RS.length)) k1.d) n cf.size=(ix k1.d.R [] k2.d,.ok (k2.ka k1.d.R)):=e3;have dFz:=hb.dk.jO keep;have FA:=X3 e1;have tX:=IH (base:=16) (size:=cf.size) dFz;rw[FA]at tX
 have tX:(ix [] (jV RK (keep.drop RS.length)) k1.d).Ok (nJ j):=tX;obtain⟨Aa,_,_⟩:=fw6 e3;have AY:=IH (base:=8192) (size:=cf.size) tX;rw[Aa]at AY
 have wm:=Mn tX (by have:=tX.Gt;omega) Aa;have dFs:kf.length<=j+1:=by
  rcases hA with rfl|⟨x,_,rfl⟩
  ·omega
  rw[zza,zz6];omega
 have d_f:ik.length<=j+1:=by
  rcases hx with rfl|⟨x,_,rfl⟩
  ·omega
  rw[zza,zz6];omega
 have ud:=h.nx k2.tr (by
  rcases hx with rfl|⟨x,Ag,rfl⟩
  ·left;have:=hb.run.symm.trans kU.run;exact (xx2 this).symm
  right;refine⟨x,Ag,?_⟩;have:=kU.run;rw[Gu n xs x _ _ hb.run]at this
  exact this)
 have oT:c.s.k.aw<=k2.aw:=by
  rcases hx with rfl|⟨x,Ag,rfl⟩
  ·have:=xx2 (hb.run.symm.trans kU.run);have:=yyu (·.2.2) this;exact Int.le_of_eq this
  have:=kU.run;rw[Gu n xs x _ _ hb.run]at this
  unfold stepT at this;split at this
  ·split at this
   ·rename_i iw;have:=xx2 this;have h2:x.aw=k2.aw:=yyu (·.2.2) this;have iw:c.s.k.aw<x.aw:=iw;omega
   cases this
  cases this
 have hlen:AL.length<=kf.length:=by
  rcases hA with rfl|⟨x,_,rfl⟩
  ·exact zzi _
  rw[zza];omega
 have A0:vN k1.d.R k2:=by
  refine⟨⟨hk.ids,λx hx=>?_,λx hx=>by cases hx⟩,?_⟩
  ·have A0:=hL.laid.UY;have HF:=kU.base Lj;rw[hL.files]at hx
   obtain⟨s,hs,rfl⟩:=zzy.1 hx;have:=A0.bF s hs;show 8192<=s.file/\s.file<12288;omega
  have A0:=hL.laid.UY;rw[kU.base Lj]at A0
  exact A0
 have K8:nJ j+200000<=nJ (j+1):=by show 400000*(j+1)+200000<=400000*(j+1+1);omega
 have A8:k2.d.ops<=k1.d.ops+1:=A8;have A_:cf.tables=(n:Int):=hc.tables;refine⟨k1.ka (jV RK (keep.drop RS.length)),k2.ka k1.d.R,kf,by rw[A_];exact e1,by rw[A_];exact e3,?_,hA.imp id (λ⟨x,_,e⟩=>⟨x,e⟩),su,?_,tX.mono (by omega),by show k1.d.ops<=_;omega,oT⟩
 ·exact jU.start hc hb.now (hk.mono K8) kU Lj A0 jz (wm.mono (by omega)) (AY.mono (by omega)) (by omega) dFs d_f (by omega) ud.1 ud.2.1 (by have:=ud.2.2;show k2.aw<=_;have h3:k2.aw<=AL.length:=this;omega) _
 intro d' g hg;have dIm:jX (ix [] (jV RK (keep.drop RS.length)) k1.d) 8192 cf.size=_:=Aa;have hg:jX (ix [] (jV RK (keep.drop RS.length)) k1.d) 8192 cf.size=(d',.ok g):=hg;rw[dIm]at hg
 cases hg;show (gR k2.g.bF).length<=200;rw[hL.lG,zzs];omega
def CS.gwt(h:CS cf kc n j AL c):∃tr xs t m RS RK,CB cf kc n j AL xs c/\CD n j AL t tr xs m RS RK c:=by
 rcases h with ⟨tr,xs,hd,RS,RK,hb,a⟩|⟨_,tr,xs,t,m,RS,RK,hb,a⟩
 ·exact⟨tr,xs,none,none,RS,RK,hb,a.dead⟩
 exact⟨tr,xs,t,m,RS,RK,hb,a⟩
structure CrK(cf:jI)(kc:jD)(n j:Nat)(AL:List fF)(c:dF)(keep:Ξ)(k1:g_)(k2:gF)(kf:List fF):Prop where
 e1:pG (c.s.k.d.jO keep) cf.tables cf.size=(k1.d,.ok k1)
 e2:oX k1.d cf.tables cf.size=(k2.d,.ok k2)
 st:jU cf kc n (j+1) kf (dF.start cf k1 k2 c.now)
 al:kf=AL\/∃x,kf=AL++[x]
 n1:∀d' g,jX (c.s.k.d.jO keep) 16 cf.size=(d',.ok g)->(gR g.bF).length<=1001
 n2:∀d' g,jX k1.d 8192 cf.size=(d',.ok g)->(gR g.bF).length<=200
 dk:k1.d.Ok (nJ (j+1))
 ops:k1.d.ops<=250*(j+1)+2
 aw:c.s.k.aw<=k2.aw
 is:c.jO cf keep=dF.start cf k1 k2 c.now
def CS.jO(h:CS cf kc n j AL c)(hc:CC cf kc n)(hj:j<=190)(keep:Ξ):∃k1 k2 kf,CrK cf kc n j AL c keep k1 k2 kf:=by
 obtain⟨tr,xs,t,m,RS,RK,hb,a⟩:=h.gwt;obtain⟨k1,k2,kf,e1,e2,h1,h2,h3,h4,h5,h6,h7⟩:=a.jO hb hc hj keep;refine⟨k1,k2,kf,⟨e1,e2,h1,h2,h3,h4,h5,h6,h7,?_⟩⟩;unfold dF.jO X0;rw[e1];simp only[e2]
def jU.pick(h:jU cf kc n j AL c)(hc:CC cf kc n)(hj:j<=190)(comp:Int):∃kf,CS cf kc n (j+1) kf (c.pick cf kc comp).1/\(kf=AL\/∃x,kf=AL++[x]):=by
 have Aj:∃kf,CS cf kc n (j+1) kf c/\(kf=AL\/∃x,kf=AL++[x]):=⟨AL,.inl h.mono,.inl rfl⟩;unfold dF.pick;split
 ·exact Aj
 split
 ·exact Aj
 rename_i Vn pz;have pz:c.en kc comp=true:=by cases hq:c.en kc comp with
  | true=>rfl
  | false=>exact absurd hq pz
 split
 ·rename_i e;subst e;obtain⟨_,_,_,_,h1⟩:=h.read pz;exact⟨AL,.inl h1,.inl rfl⟩
 split
 ·rename_i e;subst e;obtain⟨_,_,_,_,_,_,_,_,_,_,_,h1⟩:=h.take hc pz;exact⟨AL,.inl h1,.inl rfl⟩
 split
 ·rename_i e;subst e;rcases h.snap hc hj pz with ⟨kf,h1,h2,_⟩|⟨h1,_⟩
  ·exact⟨kf,.inl h1,h2⟩
  exact⟨AL,.inr h1,.inl rfl⟩
 split
 ·rename_i e;subst e;rcases h.write hc hj pz with ⟨h1,_⟩|⟨h1,_⟩
  ·exact⟨AL,.inl h1,.inl rfl⟩
  exact⟨AL,.inr h1,.inl rfl⟩
 have:comp=4:=by omega
 subst this;exact⟨AL,.inl (h.tell hc pz).1,.inl rfl⟩
def CS.lT(h:CS cf kc n j AL c)(hc:CC cf kc n)(hj:j<=190)(s:lZ):∃kf,CS cf kc n (j+1) kf (c.lT cf kc s).1/\(kf=AL\/∃x,kf=AL++[x]):=by
 unfold dF.lT;split
 ·exact⟨AL,h.mono,.inl rfl⟩
 rename_i mT;by_cases k8:s.kind=8
 ·rw[zzb (by omega),zzb (by omega)];have e:(c.other cf s).1=c.jO cf s.keep:=by unfold dF.other;rw[zzb (by omega),zzb (by omega),zzb (by omega),zzb (by omega),zzb (by omega),zzc k8]
  show ∃kf,CS cf kc n (j+1) kf (c.other cf s).1/\_;obtain⟨k1,k2,kf,hk⟩:=h.jO hc hj s.keep;rw[e,hk.is];exact⟨kf,.inl hk.st,hk.al⟩
 have ho:c.s.k.d.off=false:=by
  cases hq:c.s.k.d.off with
  | false=>rfl
  | true=>exact absurd ⟨hq,k8⟩ mT
 have hA:jU cf kc n j AL c:=by
  rcases h with h|h
  ·exact h
  rw[h.1]at ho;cases ho
 split
 ·rcases hA.vj hc hj s with ⟨x,h1,_⟩|⟨h1,_⟩|e|e
  ·exact⟨_,.inl h1,.inr ⟨x,rfl⟩⟩
  ·exact⟨AL,.inr h1,.inl rfl⟩
  ·unfold dF.vj;rw[e];exact⟨AL,.inl hA.self.mono,.inl rfl⟩
  unfold dF.vj;rw[e];exact⟨AL,.inl hA.self.mono,.inl rfl⟩
 split
 ·exact hA.pick hc hj s.n
 show ∃kf,CS cf kc n (j+1) kf (c.other cf s).1/\_;unfold dF.other;split
 ·exact⟨AL,h.fault s.ft,.inl rfl⟩
 split
 ·exact⟨AL,h.tick s.n,.inl rfl⟩
 split
 ·exact⟨AL,h.drawn s.n,.inl rfl⟩
 split
 ·rcases hA.trim hc hj with ⟨_,h1⟩|⟨_,h1⟩
  ·exact⟨AL,.inl h1,.inl rfl⟩
  exact⟨AL,.inr h1,.inl rfl⟩
 split
 ·exact⟨AL,h.arm s.n,.inl rfl⟩
 exact⟨AL,h.mono,.inl rfl⟩
def wz(n:Nat)(size:Int):gF:=⟨⟨[],8192,size,none⟩,lS,(vG n).1,[],0,[]⟩
def eIm{n:Nat}(n1:1<=n)(n8:n<=8){size:Int}(s0:64<=size)(s1:size<=65536):oX lS ((n:Nat):Int) size=(lS,.ok (wz n size))/\mW n (wz n size) [] none/\∀M,mH (wz n size).g M:=by
 obtain⟨k,e,hP,_⟩:=Js.first n1 n8 s0 s1;have e2:oX lS ((n:Nat):Int) size=(lS,.ok (wz n size)):=by
  unfold oX;rw[zzb (by omega)];simp only[Mm (base:=8192) (by decide) (by decide) s0 s1];rw[zzv];rfl
 rw[e2]at e
 have e3:=yyu Prod.snd e;simp only at e3;cases e3;exact⟨e2,hP.s,λM=>⟨⟨by simp[wz],by show (0:Int)<=8192;decide,by show (8192:Int)<=12288;decide,s0,s1,by simp[wz]⟩,trivial,by show (0:Int)<=_;decide,λx hx=>by cases hx⟩⟩
def Df(cf:jI)(n:Nat):dF:=dF.start cf (Bb n cf.size) (wz n cf.size) 0
def jU.first(hc:CC cf kc n):pG lS cf.tables cf.size=(lS,.ok (Bb n cf.size))/\oX lS cf.tables cf.size=(lS,.ok (wz n cf.size))/\jU cf kc n 0 [] (Df cf n):=by
 obtain⟨e1,hL⟩:=f_0 hc.n1 hc.n8 hc.s0 hc.s1;obtain⟨e2,hs,hg⟩:=eIm hc.n1 hc.n8 hc.s0 hc.s1;have A_:cf.tables=(n:Int):=hc.tables;have hk:KV n 0 (nJ 0) [] (Bb n cf.size):=⟨rG.nil n,⟨[],lS,16,0,0,hL⟩,rfl,show (0:Int)<=0 by decide,(f_z hc.n1 hc.n8 hc.s0 hc.s1).mono (by omega)⟩;refine⟨by rw[A_];exact e1,by rw[A_];exact e2,?_⟩;have A3:vN [] (wz n cf.size):=⟨⟨λx hx=>(by cases hx),λx hx=>(by cases hx),λx hx=>(by cases hx)⟩,⟨show (8192:Int)<=8192 by decide,show (8192:Int)+4096<=12288 by decide,λs hs=>(by cases hs),λx hx=>(by cases hx)⟩⟩;exact jU.start (AL:=[]) (tr:=0) (xs:=[]) (j:=0) (k1:=Bb n cf.size) (k2:=wz n cf.size) (now:=0) hc (by decide) hk hs rfl A3 rfl (hg _) (Gv _) (show (0:Nat)<=250*(0+1) by decide) (zzi _) (zzi _) (by decide) (λr hr=>(by cases hr)) (yyc _) (yyc _) []
end
def AR(comp l6:Int):Prop:=(comp=0/\l6=1)\/(comp=1/\l6=2)\/(comp=2/\(l6=3\/l6=4\/l6=5))\/(comp=3/\(l6=6\/l6=7))\/(comp=4/\(l6=8\/l6=9))
section
variable {cf:jI} {kc:jD} {n j:Nat} {AL:List fF} {c:dF}
def jU.fFo(h:jU cf kc n j AL c)(hc:CC cf kc n)(hj:j<=190){comp:Int}(h0:0<=comp)(h5:comp<5):
  (c.en kc comp=false/\c.pick cf kc comp=(c,⟨0,0,0⟩))\/(c.en kc comp=true/\((∃l6,(c.pick cf kc comp).2=⟨0,0,l6⟩/\AR comp l6)\/(c.pick cf kc comp).2=⟨8,0,0⟩)):=by
 unfold dF.pick;rw[zzb (by omega)];cases he:c.en kc comp with
 | false=>rw[zzc rfl];exact .inl ⟨rfl,rfl⟩
 | true=>
  rw[zzb (by decide)];refine .inr ⟨rfl,?_⟩;unfold AR;split
  ·rename_i e;subst e;obtain⟨t,_,_,h3,_⟩:=h.read he;rw[h3];exact .inl ⟨1,rfl,.inl ⟨rfl,rfl⟩⟩
  split
  ·rename_i e;subst e;obtain⟨_,_,_,_,_,_,_,_,_,_,h7,_⟩:=h.take hc he;rw[h7];exact .inl ⟨2,rfl,.inr (.inl ⟨rfl,rfl⟩)⟩
  split
  ·rename_i e;subst e;rcases h.snap hc hj he with ⟨_,_,_,h3⟩|⟨_,h3⟩
   ·rcases h3 with h3|h3|h3
    ·rw[h3];exact .inl ⟨3,rfl,.inr (.inr (.inl ⟨rfl,.inl rfl⟩))⟩
    ·rw[h3];exact .inl ⟨4,rfl,.inr (.inr (.inl ⟨rfl,.inr (.inl rfl)⟩))⟩
    rw[h3];exact .inl ⟨5,rfl,.inr (.inr (.inl ⟨rfl,.inr (.inr rfl)⟩))⟩
   exact .inr h3
  split
  ·rename_i e;subst e;rcases h.write hc hj he with ⟨_,h3⟩|⟨_,h3⟩
   ·rcases h3 with h3|h3
    ·rw[h3];exact .inl ⟨6,rfl,.inr (.inr (.inr (.inl ⟨rfl,.inl rfl⟩)))⟩
    rw[h3];exact .inl ⟨7,rfl,.inr (.inr (.inr (.inl ⟨rfl,.inr rfl⟩)))⟩
   exact .inr h3
  have:comp=4:=by omega
  subst this;rcases (h.tell hc he).2 with ⟨_,h3⟩|⟨_,_,_,h3⟩
  ·rw[h3];exact .inl ⟨9,rfl,.inr (.inr (.inr (.inr ⟨rfl,.inr rfl⟩)))⟩
  rw[h3];exact .inl ⟨8,rfl,.inr (.inr (.inr (.inr ⟨rfl,.inl rfl⟩)))⟩
def CS.on(h:CS cf kc n j AL c)(ho:c.s.k.d.off=false):jU cf kc n j AL c:=by
 rcases h with h|h
 ·exact h
 rw[h.1]at ho;cases ho
def bRy(s:lZ)(hk:s.kind≠2):(c.lT cf kc s).2.l6=0:=by
 unfold dF.lT;split
 ·rfl
 split
 ·rfl
 rfl
def bRz(s:lZ)(ho:c.s.k.d.off=true)(hk:s.kind≠8):c.lT cf kc s=(c,⟨8,0,0⟩):=by
 unfold dF.lT;rw[zzc ⟨ho,hk⟩]
def bR0(s:lZ)(ho:c.s.k.d.off=false)(hk:s.kind=2):c.lT cf kc s=c.pick cf kc s.n:=by
 unfold dF.lT;rw[zzb (by rw[ho];rintro ⟨h,_⟩;cases h),zzb (by rw[hk];decide),zzc hk]
end
set_option maxRecDepth 100000
abbrev oN:jI:=⟨1,0,256,4,2,4,1,8,0,5⟩
abbrev oV:jD:=⟨4,4,1,8,0⟩
def xP:CC oN oV 1:=⟨by decide,by decide,rfl,by decide,by decide,by decide,by decide,rfl,by decide,by decide,by decide,by decide,rfl,by decide,by decide,rfl,rfl,rfl,by decide,by decide,by decide⟩
def El:lZ:=⟨1,0,[],[⟨0,5,false,⟨#[97]⟩⟩],oS,[]⟩
def tE(n:Int):lZ:=⟨2,n,[],[],oS,[]⟩
def BF:dF:=Df oN 1
def BG:dF:=(BF.lT oN oV El).1
def BH:dF:=(BG.lT oN oV (tE 0)).1
def BI:dF:=(BH.lT oN oV (tE 1)).1
def BJ:dF:=(BI.lT oN oV (tE 3)).1
def tA1:(BF.lT oN oV El).2=⟨0,1,0⟩:=by decide +kernel
def tA2:(BG.lT oN oV (tE 0)).2=⟨0,0,1⟩:=by decide +kernel
def tA3:(BH.lT oN oV (tE 1)).2=⟨0,0,2⟩:=by decide +kernel
def tA4:(BI.lT oN oV (tE 3)).2=⟨0,0,6⟩:=by decide +kernel
def fFs{after:Int}{C:List Row}{j:Nat}(h:j+1=C.length)(hj:j<C.length):pH after C=C[j].key:=by
 unfold pH;rw[xxy,show C.length-1=j by omega,zzd hj];rfl
def fFv(H:bw)(v:Ω)(C:List Row)(after n:Int)(hv:iD H 2 v C.length (C.map jA).flatten)(hn:C.length<=1000000):
  SP 233 [.int .i64 after,.int .i64 n,v] [.mem H] (e_ (.tuple #[.int .i64 (pH after C),.bool (decide ((C.length:Int)<n))]) [.mem H]):=by
 refine Enzz λW F w hS=>?_;apply gWt;delta PB aI a_ ai;refine zo hv ?_;refine cF (λh=>?_) (λh=>?_)
 ·obtain⟨j,hj⟩:∃j:Nat,j+1=C.length:=⟨C.length-1,by omega⟩;have lV:j<C.length:=by omega
  rw[fFs (after:=after) hj lV];refine zo hv ?_;refine Gp ?_;rw[show (C.length:Int)-1=(j:Int) by omega];refine QM hS Xh nj hv (x:=C[j]) (zzd lV) lV (i:=0) rfl ?_;refine zo hv ?_;refine Gp ?_;(exact dW hS)
 have he:C=[]:=zzo (by omega);rw[show pH after C=after by rw[he];rfl];refine zo hv ?_;refine Gp ?_;(exact dW hS)
abbrev rX(w:iM)(rv:Ω):Γ:=[.int .i64 w.mark,.int .i64 w.after,.int .i64 w.id,.int .i64 w.table,rv,.int .i64 w.iH,.bool w.last,.int .i64 w.n,.int .i64 w.state]
def iN(wp:Nat)(k:iM):zB:=nT λrv:Ω=>zG True [.pt wp (rX k rv) 192,kD rv k.rows]
def iN.iff{W w:Α}{l:Ψ}{wp:Nat}{k:iM}:SL W (.ob (iN wp k)::l) w↔∃rv,SL W (.pt wp (rX k rv) 192::kD rv k.rows::l) w:=by
 unfold iN;simp only[SL.ex,SL.fact,uus,zzu,zzp]
def iN.put{W w:Α}{l F:Ψ}{wp:Nat}(k:iM)(rv:Ω)(hS:SL W l w)(p:lJ [.pt wp (rX k rv) 192,kD rv k.rows] l F):SL W (.ob (iN wp k)::F) w:=iN.iff.2 ⟨rv,hS.pick p⟩
def kD.nil{W w:Α}{l:Ψ}(h:SL W l w):SL W (kD (.slice none 0 0) []::l) w:=bR.nil h
def icj(n:Int):SP 206 [.int .i64 n] [] (λv post=>(¬(1<=n/\n<=64)/\v= .tuple #[.pointer none,.int .i64 1]/\post=[])\/((1<=n/\n<=64)/\∃wp:Nat,v= .tuple #[fw wp,.int .i64 0]/\post=[.ob (iN wp (rY n))])):=by
 intro W F w hS;apply gR2;delta O' aI ai h_ bI;(try simp only[app]at hS);refine Gp ?_;refine za (λh=>⟨_,.inl ⟨by omega,rfl,rfl⟩,hS⟩) (λh1=>?_);refine Gp ?_;refine za (λh=>⟨_,.inl ⟨by omega,rfl,rfl⟩,hS⟩) (λh2=>?_);refine Gp ?_;refine⟨_,rfl,zD hS λwp w hS=>?_⟩;have hS:=kD.nil hS;exact⟨_,.inr ⟨by omega,wp,rfl,rfl⟩,SL.cR (iN.put (wp:=wp) (rY n) (.slice none 0 0) hS Xp) Xi⟩
section
variable (wp:Nat) (k:iM)
def yW:SP 55 [fw wp] [.ob (iN wp k)] (e_ (.int .i64 k.state) [.ob (iN wp k)]):=by
 refine Enzz λW F w hS=>?_;apply iba;delta SB bW;obtain⟨rv,hS⟩:=iN.iff.1 hS;unfold rX at hS;refine Gp ?_;exact⟨_,⟨rfl,rfl⟩,SL.cR (iN.put k rv hS Xp) Xi⟩
def ich:SP 235 [fw wp] [.ob (iN wp k)] (e_ (.int .i64 k.mark) [.ob (iN wp k)]):=by
 refine Enzz λW F w hS=>?_;apply gWv;delta PD a_ b_;obtain⟨rv,hS⟩:=iN.iff.1 hS;unfold rX at hS;refine Gp ?_;exact⟨_,⟨rfl,rfl⟩,SL.cR (iN.put k rv hS Xp) Xi⟩
def qU:SP 173 [fw wp] [.ob (iN wp k)] (e_ (.int .i64 k.table) [.ob (iN wp k)]):=by
 refine Enzz λW F w hS=>?_;apply gI8;delta OG a_ b_;obtain⟨rv,hS⟩:=iN.iff.1 hS;unfold rX at hS;refine Gp ?_;exact⟨_,⟨rfl,rfl⟩,SL.cR (iN.put k rv hS Xp) Xi⟩
def qS:SP 174 [fw wp] [.ob (iN wp k)] (e_ (.int .i64 k.after) [.ob (iN wp k)]):=by
 refine Enzz λW F w hS=>?_;apply gI9;delta OH a_ b_;obtain⟨rv,hS⟩:=iN.iff.1 hS;unfold rX at hS;refine Gp ?_;exact⟨_,⟨rfl,rfl⟩,SL.cR (iN.put k rv hS Xp) Xi⟩
def icm(hn:k.rows.length<=1000000):SP 56 [fw wp] [.ob (iN wp k)] (λu post=>post=[kD u k.rows,.ob (iN wp k)]):=by
 refine Enzz λW F w hS=>?_;apply ibb;delta SC a_ b_;obtain⟨rv,hS⟩:=iN.iff.1 hS;unfold rX at hS;refine Gp ?_;refine Cc (TM rv k.rows hn) ?_;clear hS;rintro u post rfl w hS;try simp only[app]at hS
 exact⟨_,rfl,SL.cR (iN.put k rv hS Xp) Xi⟩
def ick(mark id table after:Int):SP 232 [fw wp,.int .i64 mark,.int .i64 id,.int .i64 table,.int .i64 after] [.ob (iN wp k)] (λv post=>(∃q,v= .bool q)/\post=[.ob (iN wp (k.xB mark id table after))]):=by
 refine Enzz λW F w hS=>?_;apply gWs;delta PA aI bW ia b_ cW ai bI;obtain⟨rv,hS⟩:=iN.iff.1 hS;unfold rX at hS;have kz:∀{w:Α},k.CW mark id table after->SL W (.pt wp [.int .i64 k.mark,.int .i64 k.after,.int .i64 k.id,.int .i64 k.table,rv,.int .i64 k.iH,.bool k.last,.int .i64 k.n,.int .i64 k.state] 192::kD rv k.rows::F) w->∃post,((∃q,Value.bool false= .bool q)/\post=[.ob (iN wp (k.xB mark id table after))])/\SL W (app post F) w:=λh hS=>by
  rw[show k.xB mark id table after=k from zzc h];exact⟨_,⟨⟨_,rfl⟩,rfl⟩,SL.cR (iN.put k rv hS Xp) Xi⟩
 refine Gp ?_;refine za (λh=>kz (.inl h) hS) (λh0=>?_);refine Gp ?_;refine za (λh=>kz (.inr (by omega)) hS) (λh1=>?_);refine Gp ?_;refine za (λh=>kz (.inr (by omega)) hS) (λh2=>?_);refine Gp ?_;refine za (λh=>kz (.inr (by omega)) hS) (λh3=>?_);refine Gp ?_;refine za (λh=>kz (.inr (by omega)) hS) (λh4=>?_);refine Gp ?_;refine za (λh=>kz (.inr (by omega)) hS) (λh5=>?_);refine Gp ?_;refine za (λh=>kz (.inr (by omega)) hS) (λh6=>?_);refine Gp ?_;refine za (λh=>kz (.inr (by omega)) hS) (λh7=>?_);refine Gp ?_;refine za (λh=>kz (.inr (by omega)) hS) (λh8=>?_);clear kz;have eW:¬k.CW mark id table after:=by unfold iM.CW;omega
 rw[show k.xB mark id table after=⟨k.n,1,mark,after,id,table,[],0,false⟩ from zzb eW];refine Gp ?_;refine Yd hS Xu rfl (by simp) (by simp[Value.oneCell']) λw hS=>?_;simp only[List.take,List.drop,zzu,zzp]at hS;refine Gn λw hS=>?_;have hS:=kD.nil hS;exact⟨_,⟨⟨_,rfl⟩,rfl⟩,SL.cR (iN.put (wp:=wp) ⟨k.n,1,mark,after,id,table,[],0,false⟩ (.slice none 0 0) hS Xp) Xi⟩
def ico:SP 236 [fw wp] [.ob (iN wp k)] (λv post=>(∃q,v= .bool q)/\post=[.ob (iN wp k.shut)]):=by
 refine Enzz λW F w hS=>?_;apply gWw;delta PE aI bW ia cW ai;obtain⟨rv,hS⟩:=iN.iff.1 hS;unfold rX at hS;unfold iM.shut;refine cF (λh=>?_) (λh=>?_)
 ·rw[zzb h];exact⟨_,⟨⟨_,rfl⟩,rfl⟩,SL.cR (iN.put k rv hS Xp) Xi⟩
 rw[zzc (by omega)];refine Gn λw hS=>?_;exact⟨_,⟨⟨_,rfl⟩,rfl⟩,SL.cR (iN.put {k with state:=3} rv hS Xp) Xi⟩
def icg(mark:Int):SP 226 [fw wp,.int .i64 mark] [.ob (iN wp k)] (λv post=>(∃q,v= .bool q)/\post=[.ob (iN wp (k.low mark))]):=by
 refine Enzz λW F w hS=>?_;apply gWm;delta Pu aI bW a_ ia b_ cW ai;obtain⟨rv,hS⟩:=iN.iff.1 hS;unfold rX at hS;unfold iM.low;refine cF (λh=>?_) (λh=>?_)
 ·rw[zzb (by omega)];exact⟨_,⟨⟨_,rfl⟩,rfl⟩,SL.cR (iN.put k rv hS Xp) Xi⟩
 refine cF (λh2=>?_) (λh2=>?_)
 ·rw[zzb (by omega)];exact⟨_,⟨⟨_,rfl⟩,rfl⟩,SL.cR (iN.put k rv hS Xp) Xi⟩
 rw[zzc (by omega)];refine Gn λw hS=>?_;exact⟨_,⟨⟨_,rfl⟩,rfl⟩,SL.cR (iN.put {k with state:=4} rv hS Xp) Xi⟩
def qV(x:s9):SP 106 [fw wp,agg (kJ x)] [.ob (iN wp k)] (e_ (.bool (k.waits x.kind x.mark)) [.ob (iN wp k)]):=by
 refine Enzz λW F w hS=>?_;apply gFk;delta NG aI bW a_ b_ cW ai;obtain⟨rv,hS⟩:=iN.iff.1 hS;unfold rX at hS;refine zw hS λxb w hS=>?_;unfold kJ at hS;unfold iM.waits;refine Gn λw hS=>?_;refine za (λh=>?_) (λh=>?_)
 ·refine cF (λh2=>?_) (λh2=>?_)
  ·refine cF (λh3=>?_) (λh3=>?_)
   ·rw[zzm (by omega)];exact⟨_,⟨rfl,rfl⟩,SL.cR (iN.put k rv hS Xp) Xi⟩
   refine Gp ?_;rw[show decide (x.kind=2/\x.mark=k.mark/\(k.state=1\/k.state=2))=decide (k.state=2) by rw[yyg];omega];exact⟨_,⟨rfl,rfl⟩,SL.cR (iN.put k rv hS Xp) Xi⟩
  rw[zzz (by omega)];exact⟨_,⟨rfl,rfl⟩,SL.cR (iN.put k rv hS Xp) Xi⟩
 rw[zzz (by omega)];exact⟨_,⟨rfl,rfl⟩,SL.cR (iN.put k rv hS Xp) Xi⟩
end
def MH:∀(A B:List Row) (k:Int),s6 k (A++B)=(s6 k A && s6 (pH k A) B)
 | [],B,k=>by simp[s6,pH]
 | r::A,B,k=>by
  have e:pH k (r::A)=pH r.key A:=by
   unfold pH;cases A with
   | nil=>rfl
   | cons y A=>rw[uug];rfl
  show (decide (k<r.key/\r.key<=1099511627776) && s6 r.key (A++B))=((decide (k<r.key/\r.key<=1099511627776) && s6 r.key A) && s6 (pH k (r::A)) B);rw[MH A B r.key,e,Bool.and_assoc]
def fFt(a:Int)(A:List Row)(r:Row):pH a (A++[r])=r.key:=by
 unfold pH;rw[List.getLast?_append];simp
def Q7(wp:Nat)(k:iM)(H:bw)(v:Ω)(C:List Row)(hv:iD H 2 v C.length (C.map jA).flatten)(hn:C.length<=1000000):
  SP 171 [fw wp,v] [.ob (iN wp k),.mem H] (λu post=>(∃q,u= .bool q)/\post=[.ob (iN wp (k.fill C)),.mem H]):=by
 refine Enzz λW F w hS=>?_;apply gI6;delta OE aI bW a_ ia b_ cW ai gI;obtain⟨rv,hS⟩:=iN.iff.1 hS;have kz:∀{w:Α} {l:Ψ},k.BZ C->SL W l w->oq [.pt wp (rX k rv) 192,kD rv k.rows,.mem H] l->True:=λ_ _ _=>trivial;clear kz;unfold rX at hS;have kz:∀{w:Α},k.BZ C->SL W (.pt wp [.int .i64 k.mark,.int .i64 k.after,.int .i64 k.id,.int .i64 k.table,rv,.int .i64 k.iH,.bool k.last,.int .i64 k.n,.int .i64 k.state] 192::kD rv k.rows::.mem H::F) w->∃post,((∃q,Value.bool false= .bool q)/\post=[.ob (iN wp (k.fill C)),.mem H])/\SL W (app post F) w:=λh hS=>by
  rw[show k.fill C=k from zzc h];exact⟨_,⟨⟨_,rfl⟩,rfl⟩,SL.cR (iN.put k rv hS Xp) Xi⟩
 refine Gp ?_;refine za (λh=>kz (.inl h) hS) (λh1=>?_);refine zo hv ?_;refine Gp ?_;refine za (λh=>kz (.inr (.inl (by omega))) hS) (λh2=>?_);refine Gp ?_;refine zo hv ?_;refine⟨λus w=>∃i:Nat,us=[.int .i64 (pH k.after (C.take i)),.int .i64 i]/\i<=C.length/\s6 k.after (C.take i)=true/\SL W (.pt wp [.int .i64 k.mark,.int .i64 k.after,.int .i64 k.id,.int .i64 k.table,rv,.int .i64 k.iH,.bool k.last,.int .i64 k.n,.int .i64 k.state] 192::kD rv k.rows::.mem H::F) w,
  λus _=>match us with|[_,.int _ i]=>(C.length-i).toNat|_=>0,⟨0,rfl,by omega,rfl,hS⟩,?_⟩
 clear hS;rintro v5 v29 w ⟨i,gW,hi,hr,hS⟩;cases gW;refine cF (λh=>?_) (λh=>?_)
 ·have d_:i<C.length:=by omega
  have hx:C[i]?=some C[i]:=zzd d_;have k_:C.take (i+1)=C.take i++[C[i]]:=zze d_;have jJ:s6 k.after C=true->s6 k.after (C.take (i+1))=true:=λh=>by
   rw[<- yyl (i+1) C,MH,zz9]at h;exact h.1
  have sV:s6 k.after (C.take (i+1))=decide (pH k.after (C.take i)<C[i].key/\C[i].key<=1099511627776):=by
   rw[k_,MH,hr];unfold s6;simp[s6]
  refine zE hS Xh nj hv hx d_ ?_;generalize C[i]=r at *
  refine Gb λxb w hS=>?_;have lU:∀{w:Α},¬(pH k.after (C.take i)<r.key/\r.key<=1099511627776)->SL W (.pt xb (jA r) 66::.pt wp [.int .i64 k.mark,.int .i64 k.after,.int .i64 k.id,.int .i64 k.table,rv,.int .i64 k.iH,.bool k.last,.int .i64 k.n,.int .i64 k.state] 192::kD rv k.rows::.mem H::F) w->∃post,((∃q,Value.bool false= .bool q)/\post=[.ob (iN wp (k.fill C)),.mem H])/\SL W (app post F) w:=λhb hS=>by
   refine kz (.inr (.inr ?_)) (aW hS);cases hq:s6 k.after C with
   | false=>rfl
   | true=>rw[jJ hq]at sV;exact absurd (zzl sV.symm) hb
  have Vy:=@lU;clear kz lU;refine za (λh=>Vy (by omega) hS) (λh3=>?_);refine Gp ?_;refine za (λh=>Vy (by omega) hS) (λh4=>?_);refine Gp ?_;refine⟨⟨i+1,?_,by omega,?_,aW hS⟩,by dsimp only;omega⟩
  ·rw[k_,fFt]
  rw[sV];exact zzm (by omega)
 have he:C.take i=C:=zz2 (by omega);rw[he]at hr
 have eW:¬k.BZ C:=by
  rintro (h|h|h)
  ·exact h1 h
  ·omega
  rw[hr]at h;cases h
 rw[show k.fill C={k with state:=2,rows:=C,iH:=pH k.after C,last:=decide ((C.length:Int)<k.n)} from zzb eW];clear kz;refine Cc (TN (λv0 w R h=>M_ v0 w R h) rfl (by decide) hv (xC AN C) (by omega) (by omega)) ?_;clear hS;rintro u post rfl w hS;try simp only[app]at hS
 have hS:SL W (kD u C::_) w:=hS;have o1:u.oneCell'=true:=bR.one hS;refine Gn λw hS=>?_;refine Cg (fFv H v C k.after k.n hv hn) λw hS=>?_;exact⟨_,⟨⟨_,rfl⟩,rfl⟩,SL.cR (iN.put (wp:=wp) {k with state:=2,rows:=C,iH:=pH k.after C,last:=decide ((C.length:Int)<k.n)} u hS Xp) Xi⟩
def cIm{D:List Row}{i:Nat}(hi:i<D.length)(x:Row)(rest:Γ):((D.map jA).flatten++rest).take (0+i*2)++jA x++((D.map jA).flatten++rest).drop (0+i*2+2)=((D.set i x).map jA).flatten++rest:=by
 have hl:((D.map jA).flatten).length=D.length*2:=tR nj D;rw[yyd,yy9 (by omega),xxa (by omega),show i*2+2=(i+1)*2 by omega,xV nj,AS nj,xxb,zzc hi];simp
def YL(cb:Nat)(c:jB)(r:Row):SP 339 [agg (jA r),fw cb] [.pt cb (kQ c) 56] (e_ (.bool (decide (r.key=c.key))) [.pt cb (kQ c) 56]):=by
 refine Enzz λW F w hS=>?_;apply h_5;delta RY a_;refine zw hS λxb w hS=>?_;unfold jA at hS;unfold kQ at hS ⊢;refine Gp ?_;(exact dW hS)
def bRo(cb:Nat)(c:jB)(v:Ω)(C:List Row)(hn:C.length<=1000000):
  SP 338 [v,.func (.func 339) #[] #[fw cb]] [.pt cb (kQ c) 56,kD v C] (λu post=>post=[.pt cb (kQ c) 56,kD u (C.filter λr=>!decide (r.key=c.key))]):=by
 refine Enzz λW F w hS=>?_;apply h_4;delta RX aI gi ai gI;have hC:=LJ (t:=66) nj rfl (λv0 v1 w R h=>iam v0 v1 w R h) (λr=>YL cb c r) v C (by omega);simp only[zzu,zzp]at hC;refine Cg (hC) λw hS=>?_;cases hf:C.findIdx? (λr=>decide (r.key=c.key)) with
 | none=>
  simp only[pC];refine za (λ_=>?_) (λh=>absurd trivial h);have e:C.filter (λr=>!decide (r.key=c.key))=C:=yy2.2 λr hr=>by
   have:=xxl.1 hf r hr;rw[this];rfl
  rw[e];exact⟨_,rfl,aW hS⟩
 | some i0=>
  obtain⟨A1,Cj,vp⟩:=yyk.1 hf;have y_:(C.take (i0+1)).filter (λr=>!decide (r.key=c.key))=C.take i0:=by
   rw[zze A1,yy0,yy2.2 λr hr=>by
    obtain⟨j,hj,rfl⟩:=yyi hr;rw[zzf]at hj
    rw[uuj];have:=vp j (by omega);simpa using this]
   simp at Cj;simp[Cj]
  simp only[pC];refine za (λh=>by omega) (λ_=>?_);rcases bR.open (SL.cR hS (t:=kD v C::.pt cb (kQ c) 56::F) Xi) with ⟨_,h0,_⟩|⟨b,cap,rest,rfl,tW,hlen,nY,hS⟩
  ·omega
  refine Gp ?_;refine⟨λus w=>∃(i j:Nat) (D:List Row),us=[.int .i64 i,.int .i64 j]/\i<j/\j<=C.length/\D.length=C.length/\D.take i=(C.take j).filter (λr=>!decide (r.key=c.key))/\D.drop j=C.drop j/\SL W (.pt b ((D.map jA).flatten++rest) 66::.pt cb (kQ c) 56::F) w,
   λus _=>match us with|[_,.int _ j]=>(C.length-j).toNat|_=>0,⟨i0,i0+1,C,rfl,by omega,by omega,rfl,y_.symm,rfl,aW hS⟩,?_⟩
  clear hS hf A1 Cj vp y_;rintro v5 v6 w ⟨i,j,D,gW,wq,hj,hD,ht,hd,hS⟩;cases gW;refine cF (λh=>?_) (λh=>?_)
  ·have lV:j<C.length:=by omega
   have VD:j<D.length:=by omega
   have hxe:D[j]=C[j]:=by
    have h1:(D.drop j)[0]?=(C.drop j)[0]?:=by rw[hd]
    rw[wwi,wwi,xxg,zzd VD,zzd lV]at h1
    simpa using h1
   have k_:C.take (j+1)=C.take j++[C[j]]:=zze lV;have HM:D.drop (j+1)=C.drop (j+1):=by
    rw[<- ww0,<- ww0,hd]
   have HI:∀q u,(jA D[j])[q]?=some u->((D.map jA).flatten++rest)[0+j*2+q]?=some u:=λq u hu=>by
    rw[yyd];have:=uJ nj D j q D[j] u (zzd VD) hu;rw[zzr (zzh.1 this).1];exact this
   refine zF lV ?_;refine yD hS Xh rfl HI ?_;rw[hxe];generalize C[j]=r at *
   refine Gb λxb w hS=>?_;refine yf (args':=[agg (jA r),fw cb]) rfl (YL cb c r) rfl hS Xp ?_;clear hS;rintro _ post ⟨rfl,rfl⟩ w hS;(try simp only[app]at hS);refine Gp ?_
   refine zu (λhq=>?_) (λhq=>?_)
   ·refine zC hS Xh rfl ?_;refine zF (show i<C.length by omega) ?_;refine Yd hS Xu rfl ?_ (AN _) λw hS=>?_
    ·rw[zza,tR nj];omega
    rw[cIm (by omega)]at hS
    refine Gp ?_;refine⟨⟨i+1,j+1,D.set i r,rfl,by omega,by omega,by rw[yyh];exact hD,?_,?_,aW hS⟩,by dsimp only;omega⟩
    ·rw[k_,yy0,<- ht];have:([r].filter λr=>!decide (r.key=c.key))=[r]:=by simp[hq]
     rw[this,zze (by rw[yyh];omega),List.getElem_set_self,List.take_set_of_le (zzi _)]
    rw[List.drop_set_of_lt (by omega)];exact HM
   refine Gp ?_;refine⟨⟨i,j+1,D,rfl,by omega,by omega,hD,?_,HM,aW hS⟩,by dsimp only;omega⟩;rw[k_,yy0,<- ht];have:([r].filter λr=>!decide (r.key=c.key))=[]:=by simp[hq]
   rw[this,zzw]
  have hjc:j=C.length:=by omega
  subst hjc;rw[zz1]at ht
  rw[<- ht];have hl:((D.map jA).flatten).length=D.length*2:=tR nj D;refine⟨some ⟨b,0,none⟩,C.length,cap,i,C.length,cap,rfl,rfl,rfl,⟨_,rfl⟩,by omega,by omega,by omega,?_⟩;rw[zzb (show ¬cap=i by omega)];simp only[yyf,yyb,yyd];have hA:((D.map jA).flatten.take (i*2)).length=i*2:=by rw[zzf,hl];omega
  have e2:((D.map jA).flatten++rest).take (i*2)++fR [.int .i64 0,.string ⟨#[]⟩] (C.length-i)++((D.map jA).flatten++rest).drop (i*2+(fR [.int .i64 0,.string ⟨#[]⟩] (C.length-i)).length)=(D.map jA).flatten.take (i*2)++(fR [.int .i64 0,.string ⟨#[]⟩] (C.length-i)++rest):=by
   have:=TO ((D.map jA).flatten.take (i*2)) ((D.map jA).flatten.drop (i*2)) (fR [.int .i64 0,.string ⟨#[]⟩] (C.length-i)) rest (by rw[zzq,hl,p5];show _=(C.length-i)*2;omega);rw[hA,<- zzk ((D.map jA).flatten.take (i*2)) ((D.map jA).flatten.drop (i*2)) rest,yyl]at this
   exact this
  refine awc (tt:=66) (z:=[.int .i64 0,.string ⟨#[]⟩]) (zv:=.agg #[.int .i64 0,.string ⟨#[]⟩]) (n:=C.length-i) (o:=i*2) (cs:=(D.map jA).flatten++rest) (l':=.pt b ((D.map jA).flatten.take (i*2)++(fR [.int .i64 0,.string ⟨#[]⟩] (C.length-i)++rest)) 66::.pt cb (kQ c) 56::F) hS ?_ xx1 (λw=>by kernel_rfl) rfl (by simp[Value.oneCell']) (by omega) (by rw[zza,hl];show i*2+(C.length-i)*2<=_;omega) ?_
  ·rw[show (C.length-i)*([Value.int .i64 0,Value.string ⟨#[]⟩]:Γ).length=(fR [.int .i64 0,.string ⟨#[]⟩] (C.length-i)).length from (p5 _ _).symm,e2];exact lk.hd
  intro u w hS;refine⟨some ⟨b,0,none⟩,C.length,cap,0,i,cap,rfl,rfl,⟨_,rfl⟩,rfl,by omega,by omega,by omega,?_⟩;rw[zzb (show ¬cap=0 by omega)];simp only[yyf,yyb,uuh,xxg,wwu];have hS:=bR.mk (n:=i) (cap:=cap) (sz:=2) (rest:=fR [.int .i64 0,.string ⟨#[]⟩] (C.length-i)++rest) (by omega) hA (by rw[zza,nY,p5];show (C.length-i)*2+_=_;omega) hS;rw[xV nj]at hS
  have d_:(D.take i).length=i:=by rw[zzf];omega
  refine⟨_,rfl,?_⟩;have hS:SL W (kD (.slice (some ⟨b,0,none⟩) i cap) (D.take i)::.pt cb (kQ c) 56::F) w:=by unfold kD;rw[d_];exact hS
  exact aW hS
def dIu(t:Int)(l:List jB)(i:Nat)(h:i<l.length)(r:Row):pA t (l.take (i+1)) r=(pA t (l.take i) r || decide (l[i].table=t/\l[i].key=r.key)):=by
 unfold pA;rw[zze h,List.any_append];simp
def icn(wp:Nat)(k:iM)(H:bw)(v:Ω)(l:List jB)(hv:iD H 4 v l.length (l.map kQ).flatten)(hn:k.rows.length<=1000000)(hl:l.length<=140737488351232):
  SP 293 [fw wp,v] [.ob (iN wp k),.mem H] (λu post=>(∃q,u= .int .i64 q)/\post=[.ob (iN wp (k.vF l)),.mem H]):=by
 refine Enzz λW F w hS=>?_;apply g_3;delta Rl aI bW a_ b_ ai gI;obtain⟨rv,hS⟩:=iN.iff.1 hS;unfold rX at hS;unfold iM.vF;refine cF (λh=>?_) (λh=>?_)
 ·rw[zzb h];exact⟨_,⟨⟨_,rfl⟩,rfl⟩,SL.cR (iN.put k rv hS Xp) Xi⟩
 rw[zzc (by omega)];refine Gp ?_;refine zt hS (v:=rv) (t:=66) (sz:=2) (n:=k.rows.length) (cells:=(k.rows.map jA).flatten) Xh ?_;refine zo hv ?_;refine⟨λus w=>∃(i:Nat) (ru:Ω),us=[.int .i64 i]/\i<=l.length/\SL W (.pt wp [.int .i64 k.mark,.int .i64 k.after,.int .i64 k.id,.int .i64 k.table,ru,.int .i64 k.iH,.bool k.last,.int .i64 k.n,.int .i64 k.state] 192::kD ru (k.rows.filter λr=>!pA k.table (l.take i) r)::.mem H::F) w,
  λus _=>match us with|[.int _ i]=>(l.length-i).toNat|_=>0,⟨0,rv,rfl,by omega,?_⟩,?_⟩
 ·have:(k.rows.filter λr=>!pA k.table (l.take 0) r)=k.rows:=yy2.2 λr _=>by simp[pA]
  rw[this];exact aW hS
 clear hS;rintro v21 w ⟨i,ru,gW,hi,hS⟩;cases gW;refine cF (λh=>?_) (λh=>?_)
 ·have d_:i<l.length:=by omega
  have hx:l[i]?=some l[i]:=zzd d_;have sq:(k.rows.filter λr=>!pA k.table (l.take i) r).length<=k.rows.length:=yyp _ _;refine zE hS Xh wW hv hx d_ ?_;have pB:∀r,pA k.table (l.take (i+1)) r=(pA k.table (l.take i) r || decide (l[i].table=k.table/\l[i].key=r.key)):=dIu k.table l i d_;generalize l[i]=c at *
  refine Gb λxb w hS=>?_;refine za (λh2=>?_) (λh2=>?_)
  ·refine Gp ?_;refine Cc (bRo xb c ru (k.rows.filter λr=>!pA k.table (l.take i) r) (by omega)) ?_;clear hS;rintro u post rfl w hS;try simp only[app]at hS
   have hS:SL W (kD u ((k.rows.filter λr=>!pA k.table (l.take i) r).filter λr=>!decide (r.key=c.key))::.pt xb (kQ c) 56::.pt wp [.int .i64 k.mark,.int .i64 k.after,.int .i64 k.id,.int .i64 k.table,ru,.int .i64 k.iH,.bool k.last,.int .i64 k.n,.int .i64 k.state] 192::.mem H::F) w:=aW hS;have o1:u.oneCell'=true:=bR.one hS;refine Gn λw hS=>?_;refine⟨⟨i+1,u,rfl,by omega,?_⟩,by dsimp only;omega⟩;have e:(k.rows.filter λr=>!pA k.table (l.take (i+1)) r)=((k.rows.filter λr=>!pA k.table (l.take i) r).filter λr=>!decide (r.key=c.key)):=by
    rw[List.filter_filter];refine uum λr _=>?_;rw[pB r];have:decide (c.table=k.table/\c.key=r.key)=decide (r.key=c.key):=by rw[yyg];omega
    rw[this];cases pA k.table (l.take i) r<;>cases decide (r.key=c.key)<;>rfl
   rw[e];exact aW hS
  refine Gp ?_;refine⟨⟨i+1,ru,rfl,by omega,?_⟩,by dsimp only;omega⟩;have e:(k.rows.filter λr=>!pA k.table (l.take (i+1)) r)=(k.rows.filter λr=>!pA k.table (l.take i) r):=by
   refine uum λr _=>?_;rw[pB r,zzz (by omega),Bool.or_false]
  rw[e];exact aW hS
 have:l.take i=l:=zz2 (by omega);rw[this]at hS
 have sq:(k.rows.filter λr=>!pA k.table l r).length<=k.rows.length:=yyp _ _;refine Gp ?_;refine zt hS (v:=ru) (t:=66) (sz:=2) (n:=(k.rows.filter λr=>!pA k.table l r).length) (cells:=((k.rows.filter λr=>!pA k.table l r).map jA).flatten) Xh ?_;refine Gp ?_;exact⟨_,⟨⟨_,rfl⟩,rfl⟩,SL.cR (iN.put {k with rows:=k.rows.filter λr=>!pA k.table l r} ru hS Xp) Xi⟩
abbrev An:mA:=⟨0,.slice none 0 0,.slice none 0 0⟩
def Bs(wp:Nat)(k:iM)(H:bw)(mark aw:Int)(u:Ω)(post:Ψ):Prop:=match (k.high mark aw).2 with
 | none=>u= .tuple #[agg (jP An),.bool false]/\post=[.ob (iN wp k),.mem H]
 | some t=>∃(x:mA) (H':bw),H.le H'/\u= .tuple #[agg (jP x),.bool true]/\ma H' x t/\post=[.ob (iN wp (rY k.n)),.mem H']
def Mk{a:Int}{u v:Ω}(h1:u.oneCell'=true)(h2:v.oneCell'=true):∀x∈[Value.int .i64 a,u,v],x.oneCell'=true:=by
 intro x hx;simp only[zz7,xxj,vvv]at hx;rcases hx with rfl|rfl|rfl
 ·rfl
 ·exact h1
 exact h2
def Yj(wp:Nat)(k:iM)(H:bw)(mark aw:Int)(hn:k.rows.length<=1000000):SP 294 [fw wp,.int .i64 mark,.int .i64 aw] [.ob (iN wp k),.mem H] (Bs wp k H mark aw):=by
 refine Enzz λW F w hS=>?_;apply g_4;delta Rm aI bW a_ ia aR b_ ai gI bI;obtain⟨rv,hS⟩:=iN.iff.1 hS;have kz:∀{w:Α} {rb:Nat},k.Ac mark aw->SL W (.pt rb [.int .i64 0,.slice none 0 0,.slice none 0 0] 214::.pt wp (rX k rv) 192::kD rv k.rows::.mem H::F) w->∃post,Bs wp k H mark aw (.tuple #[agg (jP An),.bool false]) post/\SL W (app post F) w:=λh hS=>by
  have e:(k.high mark aw).2=none:=by unfold iM.high;rw[zzc h]
  refine⟨[.ob (iN wp k),.mem H],?_,SL.cR (iN.put k rv hS Xp) Xi⟩;unfold Bs;rw[e];exact⟨rfl,rfl⟩
 refine Gb λrb w hS=>?_;refine za (λh=>?_) (λh1=>?_)
 ·refine Gn λw hS=>?_;exact kz (.inl h) hS
 refine cF (λh=>?_) (λh2=>?_)
 ·refine Gn λw hS=>?_;exact kz (.inr (.inl h)) hS
 refine cF (λh=>?_) (λh3=>?_)
 ·refine Gn λw hS=>?_;exact kz (.inr (.inr (by omega))) hS
 refine cF (λh=>?_) (λh4=>?_)
 ·refine Gn λw hS=>?_;exact kz (.inr (.inr (by omega))) hS
 clear kz;have eW:¬k.Ac mark aw:=by unfold iM.Ac;omega
 have e:(k.high mark aw).2=some ⟨aw,oF k aw,[vA k]⟩:=by unfold iM.high;rw[zzb eW]
 refine⟨λus w=>∃(b nb:Nat),us=[fw b]/\SL W (.pt b [.int .i64 aw,.slice none 0 0,.slice (some ⟨nb,0,none⟩) 1 1] 214::.pt nb [.int .i64 2,.int .i64 k.id,.int .i64 0,.int .i64 0,.int .i64 0,.int .i64 k.iH,.bool k.last] 393::.pt rb [.int .i64 0,.slice none 0 0,.slice none 0 0] 214::.pt wp (rX k rv) 192::kD rv k.rows::.mem H::F) w,?_,?_⟩
 ·refine Gn λw hS=>?_;refine⟨?_,?_⟩
  ·refine Gb λnb w hS=>?_;refine Gb λb w hS=>?_;exact⟨b,nb,rfl,aW hS⟩
  refine Gb λb w hS=>?_;refine Gb λnb w hS=>?_;exact⟨b,nb,rfl,aW hS⟩
 clear hS;rintro v8 w ⟨b,nb,gW,hS⟩;cases gW;refine Gp ?_;refine zt hS (v:=rv) (t:=66) (sz:=2) (n:=k.rows.length) (cells:=(k.rows.map jA).flatten) Xh ?_;have Cs:(oF k aw).length=k.rows.length:=zzs ..;have hS:SL W (.ob (bR (.slice none 0 0) 390 5 ((oF k aw).take 0).length (((oF k aw).take 0).map nN).flatten)::_) w:=bR.nil hS;refine⟨λus w=>∃(i:Nat) (ov:Ω),us=[.int .i64 i]/\i<=k.rows.length/\SL W (.ob (bR ov 390 5 ((oF k aw).take i).length (((oF k aw).take i).map nN).flatten)::.pt b [.int .i64 aw,ov,.slice (some ⟨nb,0,none⟩) 1 1] 214::.pt nb [.int .i64 2,.int .i64 k.id,.int .i64 0,.int .i64 0,.int .i64 0,.int .i64 k.iH,.bool k.last] 393::.pt rb [.int .i64 0,.slice none 0 0,.slice none 0 0] 214::.pt wp (rX k rv) 192::kD rv k.rows::.mem H::F) w,
  λus _=>match us with|[.int _ i]=>(k.rows.length-i).toNat|_=>0,⟨0,.slice none 0 0,rfl,by omega,aW hS⟩,?_⟩
 clear hS;rintro v59 w ⟨i,ov,gW,hi,hS⟩;cases gW;refine cF (λh=>?_) (λh=>?_)
 ·have d_:i<k.rows.length:=by omega
  have hx:k.rows[i]?=some k.rows[i]:=zzd d_;have j6:(oF k aw)[i]'(by omega)=⟨aw,k.table,k.rows[i].key,false,k.rows[i].val⟩:=by unfold oF;rw[xxw]
  have k_:(oF k aw).take (i+1)=(oF k aw).take i++[⟨aw,k.table,k.rows[i].key,false,k.rows[i].val⟩]:=by rw[zze (by omega),j6]
  have HY:((oF k aw).take i).length=i:=by rw[zzf];omega
  refine zU hS (v:=rv) (t:=66) Xh nj hx d_ ?_;generalize k.rows[i]=r at *
  refine Gb λxb w hS=>?_;refine Gb λyb w hS=>?_;refine yu (n:=((oF k aw).take i).length) (xs:=(oF k aw).take i) (y:=⟨aw,k.table,r.key,false,r.val⟩) (enc:=nN) hS Xr Xh BV (λx=>E8 x) rfl (by omega) (by omega) λv2 w hS=>?_;have hS:=hS.u7 (x:=(⟨aw,k.table,r.key,false,r.val⟩:lA));rw[<- k_]at hS
  have o1:v2.oneCell'=true:=bR.one hS;refine Gn λw hS=>?_;exact⟨⟨i+1,v2,rfl,by omega,aW hS⟩,by dsimp only;omega⟩
 have he:(oF k aw).take i=oF k aw:=zz2 (by omega);rw[he]at hS
 have o1:ov.oneCell'=true:=bR.one hS;refine Gp ?_;refine Yd hS Xu rfl (by simp) (by simp[Value.oneCell']) λw hS=>?_;simp only[List.take,List.drop,zzu,zzp]at hS;refine Gn λw hS=>?_;refine zr (vs:=[.int .i64 aw,ov,.slice (some ⟨nb,0,none⟩) 1 1]) hS Xu rfl rfl (Mk o1 rfl) λw hS=>?_;refine Gp ?_;obtain⟨H1,iA,nO,hS⟩:=zz (H:=H) (v:=ov) hS Xp;obtain⟨H2,iW,uK,hS⟩:=SL.MG (sz:=7) (H:=H1) (b:=nb) hS Xp rfl;have hS:=kD.nil hS;have hS:=iN.put (wp:=wp) (rY k.n) (.slice none 0 0) hS Xp;refine⟨[.ob (iN wp (rY k.n)),.mem H2],?_,aW hS⟩;unfold Bs;rw[e];exact⟨⟨aw,ov,.slice (some ⟨nb,0,none⟩) 1 1⟩,H2,bw.le_trans iA iW,rfl,⟨rfl,nO.mono iW,uK⟩,rfl⟩
abbrev btc(e u l:Int):Γ:=[.int .i64 e,.int .i64 u,.int .i64 l]
abbrev om(p:Nat)(e u l:Int):Η:=.pt p (btc e u l) 201
def ZB(p:Nat)(e u l now:Int)(he:1<=e/\e<=1073741824):SP 204 [.pointer (some ⟨p,0,none⟩),.int .i64 now] [om p e u l] (e_ (.tuple #[]) [om p e (nD e now) l]):=by
 refine Enzz λW F w hS=>?_;apply gR0;delta O8 bW ia ai;have e1:min (max now 0) 1125899906842624+e=nD e now:=rfl;refine Gn λw hS=>?_;rw[e1]at hS
 (exact dW hS)
def bwq(e now aw:Int)(he:1<=e/\e<=1073741824)(hn:0<=now/\now<=1125899906842624)(hl:0<=aw/\aw<=1099511627776):SP 147 [.int .i64 e,.int .i64 now,.int .i64 aw] [] (λv post=>∃p:Nat,v= .tuple #[.pointer (some ⟨p,0,none⟩),.int .i64 0]/\post=[om p e (nD e now) aw]):=by
 refine Enzz λW F w hS=>?_;apply gIh;delta Ob aI b_ ai h_;refine Gp ?_;refine za (λh=>by omega) (λ_=>?_);refine Gp ?_;refine za (λh=>by omega) (λ_=>?_);refine Gp ?_;refine za (λh=>by omega) (λ_=>?_);refine Gp ?_;refine za (λh=>by omega) (λ_=>?_);refine Gp ?_;refine za (λh=>by omega) (λ_=>?_);refine Gp ?_;refine za (λh=>by omega) (λ_=>?_);refine Gp ?_;refine⟨_,rfl,zD hS λp w hS=>?_⟩;refine Gp ?_;refine Cg (ZB p e 0 aw now he) λw hS=>?_;exact⟨_,⟨p,rfl,rfl⟩,aW hS⟩
def Yk(p:Nat)(e u l x:Int):SP 169 [.pointer (some ⟨p,0,none⟩),.int .i64 x] [om p e u l] (e_ (.tuple #[]) [om p e u (max l x)]):=by
 refine Enzz λW F w hS=>?_;apply gI4;delta OC bW ia;refine Gn λw hS=>?_;(exact dW hS)
def Zh(p:Nat)(e u l now at_ cr:Int):SP 66 [.pointer (some ⟨p,0,none⟩),.int .i64 now,.int .i64 at_,.int .i64 cr] [om p e u l] (e_ (.bool (decide (u<=now/\(at_<=l\/0<cr)))) [om p e u l]):=by
 refine Enzz λW F w hS=>?_;apply ibk;delta SM aI bW a_ b_ cW ai;refine cF (λh1=>?_) (λh1=>?_)
 ·refine cF (λh2=>?_) (λh2=>?_)
  ·rw[zzm (p:=u<=now/\(at_<=l\/0<cr)) ⟨by omega,.inl (by omega)⟩];(exact dW hS)
  refine Gp ?_;rw[show decide (u<=now/\(at_<=l\/0<cr))=decide (0<cr) from yyg.2 ⟨λh=>by omega,λh=>by omega⟩];(exact dW hS)
 rw[zzz (p:=u<=now/\(at_<=l\/0<cr)) (by omega)];(exact dW hS)
def qX(p:Nat)(e u l:Int):SP 59 [.pointer (some ⟨p,0,none⟩)] [om p e u l] (e_ (.int .i64 u) [om p e u l]):=by
 refine Enzz λW F w hS=>?_;apply ibe;delta SF a_ b_;refine Gp ?_;(exact dW hS)
def yh(p:Nat)(e u l now at_ cr:Int)(he:1<=e/\e<=1073741824)(hr:u<=now/\(at_<=l\/0<cr)):SP 177 [.pointer (some ⟨p,0,none⟩),.int .i64 now,.int .i64 at_,.int .i64 cr] [om p e u l]
  (λv post=>if at_<=l then v= .tuple #[agg (jP An),.int .i64 9]/\post=[om p e (nD e now) l] else v= .tuple #[agg (jP ⟨at_,.slice none 0 0,.slice none 0 0⟩),.int .i64 8]/\post=[om p e (nD e now) at_]):=by
 refine Enzz λW F w hS=>?_;apply gRc;delta OK aI bW ia b_ gi ai bI;refine Gb λxb w hS=>?_;refine Cg (Zh p e u l now at_ cr) λw hS=>?_;refine zu (λh=>by rw[zzm hr]at h;cases h) (λ_=>?_);refine Gp ?_;refine Cg (ZB p e u l now he) λw hS=>?_;refine za (λh=>?_) (λh=>?_)
 ·refine Gn λw hS=>?_;exact⟨_,(zzc h).mpr ⟨rfl,rfl⟩,aW hS⟩
 refine Gn λw hS=>?_;exact⟨_,(zzb h).mpr ⟨rfl,rfl⟩,aW hS⟩

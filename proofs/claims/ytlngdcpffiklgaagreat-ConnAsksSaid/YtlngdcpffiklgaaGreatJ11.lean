/- Part. -/
import Derived.Test.YtlngdcpffiklgaaGreatJ10
namespace Go.Proofs.YtlngdcpffiklgaaGreat
set_option linter.all false
set_option maxRecDepth 100000
open Go.RowKit
def vvv:=@Int.natCast_nonneg
def uup:=@List.filter_congr
structure dL where
 tables:Int
 late:Int
 size:Int
 queue:Int
 chunk:Int
 batch:Int
 base:Int
 cN:Int
 sO:Int
 every:Int
def ml(c:dL):Ξ:=[Γ c.tables,Γ c.late,Γ c.size,Γ c.queue,Γ c.chunk,Γ c.batch,Γ c.base,Γ c.cN,Γ c.sO,Γ c.every]
def bIo(c:dL):∀v∈ml c,v.oneCell'=true:=by simp[ml,Value.oneCell']
def uu(j:Nat):Int:=([64,128,256,1024]:Ω)[j]!
def a_w{j:Nat}(h:j<4):([Γ 64,Γ 128,Γ 256,Γ 1024]:Ξ)[0+j*1]?=some (Γ (uu j)):=by
 match j,h with
 | 0,_=>rfl
 | 1,_=>rfl
 | 2,_=>rfl
 | 3,_=>rfl
def a_x{j:Nat}(h:j<4):64<=uu j/\uu j<=1024:=by
 match j,h with
 | 0,_=>decide
 | 1,_=>decide
 | 2,_=>decide
 | 3,_=>decide
def Cz(c:dL):dL:=
 ⟨1+(md c.tables 4:Int),(md c.late (2 ^ (1+md c.tables 4)):Int),uu (md c.size 4),1+(md c.queue 5:Int),1+(md c.chunk 4:Int),1+(md c.batch 4:Int),1+(md c.base 4:Int),1+(md c.base 4:Int)+(md c.cN 12:Int),(md c.sO 4:Int),1+(md c.every 8:Int)⟩
def Q7{a:Int}{k:IntKind}{n:Nat}{K:Ε->Prop}(hn:n<=60)(hr : -9223372036854775808<=a*2 ^ n/\a*2 ^ n<=9223372036854775807)(h:K (Γ (a*2 ^ n))):zc .shl (Γ a) (.int k (n:Int)) K:=by
 refine⟨Γ (a*2 ^ n),?_,h⟩;have xN:min n 64=n:=xxw (by omega);show (if ((n:Nat):Int)<0 then none else some (Γ (IntKind.i64.wrap (a*2 ^ (min ((n:Nat):Int).toNat 64)))))=_;rw[zzb (by omega),zzz,xN,xx1 _ hr]
def cGg{j:IntKind}{n:Nat}{K:Ε->Prop}(hr:n<=9223372036854775807)(h:K (.int .u64 (n:Int))):zP .u64 (.int j (n:Int)) K:=zW (by rw[show IntKind.u64.wrap (n:Int)=n by rw[vva];omega];exact h)
def mz(v n:Int):Int:=(md v n.toNat:Int)
def cBu(v n:Int)(h:0<n/\n<=9223372036854775807):SP 32 [Γ v,Γ n] [] (cE (Γ (mz v n)) []):=by
 have:=yl v n.toNat (by omega) (by omega);rw[show ((n.toNat:Nat):Int)=n by omega]at this
 exact this
def cGx{b o len cap sz:Nat}{k:IntKind}{j:Int}{K:Ε->Prop}(h0:0<=j)(hj:j<len)(h:K (.pointer (some ⟨b,o+j.toNat*sz,none⟩))):zk sz (.slice (some ⟨b,o,none⟩) len cap) (.int k j) K:=by
 obtain⟨m,rfl⟩:∃m:Nat,j=m:=⟨j.toNat,by omega⟩;rw[zzz]at h
 exact zG (by omega) h
def a_v{j:Int}(h0:0<=j)(h:j<4):([Γ 64,Γ 128,Γ 256,Γ 1024]:Ξ)[0+j.toNat*1]?=some (Γ (uu j.toNat)):=a_w (by omega)
set_option maxHeartbeats 4000000 in
def qA(c:dL):SP 4 [agg (ml c)] [] (cE (agg (ml (Cz c))) []):=by
 refine Enzz λW F w hS=>?_;apply vc4;delta a_ aW vq HA HB EH HC HD HE HF HG ai iA;refine zu hS λcb w hS=>?_;unfold ml at hS;refine Gb λxb w hS=>?_;obtain⟨ct,cl,cs,cq,cc,uq,AN,cm,cj,ce⟩:=c;simp only at hS;have h1:=ix ct 4 (by decide);have h2:=ix cs 4 (by decide);have h3:=ix cq 5 (by decide);have h4:=ix cc 4 (by decide);have h5:=ix uq 4 (by decide);have h6:=ix AN 4 (by decide);have h7:=ix cm 12 (by decide);have h8:=ix cj 4 (by decide);have h9:=ix ce 8 (by decide);have g1:0<=mz ct 4/\mz ct 4<4:=⟨vvv _,by show (md ct 4:Int)<4;omega⟩;have g2:0<=mz cs 4:=vvv _;have Tu:mz cs 4<((4:Nat):Int):=by show (md cs 4:Int)<4;omega
 have bWf:mz cs 4<4:=Tu;have g3:0<=mz cq 5/\mz cq 5<5:=⟨vvv _,by show (md cq 5:Int)<5;omega⟩;have g4:0<=mz cc 4/\mz cc 4<4:=⟨vvv _,by show (md cc 4:Int)<4;omega⟩;have g5:0<=mz uq 4/\mz uq 4<4:=⟨vvv _,by show (md uq 4:Int)<4;omega⟩;refine⟨λus w=>∃yb:Nat,us=[Δ yb]/\SL W (.pt yb [Γ (1+mz ct 4),Γ 0,Γ (uu (mz cs 4).toNat),Γ (1+mz cq 5),Γ (1+mz cc 4),Γ (1+mz uq 4),Γ 0,Γ 0,Γ 0,Γ 0] 23 ::
   .pt xb [Γ 0,Γ 0,Γ 0,Γ 0,Γ 0,Γ 0,Γ 0,Γ 0,Γ 0,Γ 0] 23::.pt cb [Γ ct,Γ cl,Γ cs,Γ cq,Γ cc,Γ uq,Γ AN,Γ cm,Γ cj,Γ ce] 23::F) w,?_,?_⟩
 ·repeat' (first
   | refine Gp ?_
   | refine Gw λw hS=>?_
   | refine Gb λb w hS=>?_
   | ((with_reducible refine yK (cBu _ _ (by decide)) hS (.nil) ?_);clear hS;(rintro v post ⟨rfl,rfl⟩ w hS);(try simp only[app]at hS))
   | (with_reducible refine cGx (by assumption) (by assumption) ?_)
   | (with_reducible refine zT hS (t:=3) Xh (a_v (by assumption) (by assumption)) ?_)
   | with_reducible refine And.intro ?_ ?_
   | exact⟨_,rfl,aR hS⟩)
 clear hS;rintro _ w ⟨yb,cT,hS⟩;cases cT;clear g1 g2 Tu bWf g3 g4 g5;have hS:SL W (.pt yb [Γ (1+(md ct 4:Int)),Γ 0,Γ (uu (md cs 4)),Γ (1+(md cq 5:Int)),Γ (1+(md cc 4:Int)),Γ (1+(md uq 4:Int)),Γ 0,Γ 0,Γ 0,Γ 0] 23::_) w:=hS;refine Gp ?_;rw[show (1:Int)+(md ct 4:Int)=((1+md ct 4:Nat):Int) by omega]at hS ⊢
 refine cGg (by omega) ?_;have hp:2 ^ (1+md ct 4)<=16:=vv3 (by decide) (show 1+md ct 4<=4 by omega);have vX:0<2 ^ (1+md ct 4):=Nat.pow_pos (by decide);have UN:(1:Int)*2 ^ (1+md ct 4)=((2 ^ (1+md ct 4):Nat):Int):=by simp
 refine Q7 (by omega) (by rw[UN];omega) ?_;rw[UN];have mR:=ix cl (2 ^ (1+md ct 4)) vX;have e:Cz ⟨ct,cl,cs,cq,cc,uq,AN,cm,cj,ce⟩=⟨((1+md ct 4:Nat):Int),(md cl (2 ^ (1+md ct 4)):Int),uu (md cs 4),1+(md cq 5:Int),1+(md cc 4:Int),1+(md uq 4:Int),1+(md AN 4:Int),1+(md AN 4:Int)+(md cm 12:Int),(md cj 4:Int),1+(md ce 8:Int)⟩:=by
  unfold Cz;simp only;rw[show (1:Int)+(md ct 4:Int)=((1+md ct 4:Nat):Int) by omega]
 rw[e];generalize hP:2 ^ (1+md ct 4)=P at *
 refine Cg (yl cl P vX (by omega)) λw hS=>?_;refine Cg (zQ AN 4 (by decide) (by decide)) λw hS=>?_;refine Cg (zQ cm 12 (by decide) (by decide)) λw hS=>?_;refine Cg (zQ cj 4 (by decide) (by decide)) λw hS=>?_;refine Cg (zQ ce 8 (by decide) (by decide)) λw hS=>?_;(exact cF hS)
structure g_ where
 kind:Int
 n:Int
 sg:Ψ
 l:List d_
 ft:fZ
 keep:Ω
instance (a b:fZ):Decidable (a=b):=decidable_of_iff (a.kind=b.kind/\a.keep=b.keep) (by obtain⟨a1,a2⟩:=a;obtain⟨b1,b2⟩:=b;simp)
def WE{α β:Type}(f:α->β):∀l:List α,(l.map λs=>[f s]).flatten=l.map f
 | []=>rfl
 | a::l=>by rw[zzr,zz9,WE f l];rfl
def kE:fZ:=⟨0,0⟩
structure mH where
 kind:Int
 n:Int
 sv:Ε
 cv:Ε
 ft:fZ
 kv:Ε
def ji(x:mH):Ξ:=[Γ x.kind,Γ x.n,x.sv,x.cv,Γ x.ft.kind,Γ x.ft.keep,x.kv]
def vA(x:mH):(ji x).length=7:=rfl
structure lK(H:bw)(x:mH)(s:g_):Prop where
 kind:x.kind=s.kind
 n:x.n=s.n
 ft:x.ft=s.ft
 sv:de H 1 x.sv s.sg.length (s.sg.map Value.string)
 cv:de H 4 x.cv s.l.length (s.l.map dC).flatten
 kv:de H 1 x.kv s.keep.length (s.keep.map (Value.int .i64))
def lK.mono{H H':bw}(hh:H.le H'){x:mH}{s:g_}(h:lK H x s):lK H' x s:=⟨h.kind,h.n,h.ft,h.sv.mono hh,h.cv.mono hh,h.kv.mono hh⟩
def Et(H:bw)(v:Ε)(l:List g_):Prop:=∃xs:List mH,xs.length=l.length/\de H 7 v l.length (xs.map ji).flatten/\∀i (h:i<l.length) (h':i<xs.length),lK H xs[i] l[i]
def czn(l:Ω):Bool:=l.all λk=>decide (0<=k/\k<=2147483647)
def cA8(s:g_):Bool:=
 decide ((1<=s.kind/\s.kind<=8)/\(0<=s.n/\s.n<=1125899906842624)/\(s.n=0\/s.kind=2\/s.kind=4\/s.kind=5\/s.kind=7)/\(s.ft=kE\/s.kind=3)/\(s.sg.length=0\/s.kind=1)/\(s.l.length=0\/s.kind=1)/\(s.keep.length=0\/s.kind=8)/\(s.kind=3->jm s.ft=true/\s.ft.keep<=2147483647)/\s.keep.length<=64) && eG ⟨1,1,s.l,s.sg,0⟩ && czn s.keep
def cA9(l:List g_):Bool:=l.all cA8 && decide (l.length<=1000)
def XO(x:(Int × List g_) × dh):Prop:=(x.2.bad=false/\x.2.l=[])/\cA9 x.1.2=true
instance (x:(Int × List g_) × dh):Decidable (XO x):=by unfold XO;infer_instance
structure CC(c:dL)(k:dW)(n:Nat):Prop where
 n1:1<=n
 n8:n<=8
 tables:c.tables=n
 VP:0<=c.late
 VQ:c.late<2 ^ n
 s0:64<=c.size
 s1:c.size<=65536
 queue:c.queue=k.cap
 q1:1<=k.cap
 D2:k.cap<=64
 c1:1<=c.chunk
 wR:c.chunk<=64
 batch:c.batch=k.cN
 b1:1<=k.cN
 HQ:k.cN<=64
 base:c.base=k.b
 cm:c.cN=k.m
 VA:c.sO=k.j
 may:rr k.b k.m k.j
 e1:1<=c.every
 e2:c.every<=1073741824
structure cx where
 s:fA
 k:cW
 m:dJ
 dr:dH
 q:List cM
 pos:Int
 due:Int
 last:Int
 dD:Ω
 now:Int
def cx.src(c:cx):cW:={c.k with d:=c.s.k.d}
def cx.j8(c:cx)(k:cW):cx:={c with k:=k,s:={c.s with k:={c.s.k with d:=k.d}}}
def cx.l4(cf:dL)(c:cx):fI:=⟨c.src,c.m,c.dr,cf.chunk⟩
def cx.GS(c:cx)(p:fI):cx:={c.j8 p.k with m:=p.m,dr:=p.d}
def cx.lg(kc:dW)(c:cx):Nat:=kc.cap-c.s.L.length-c.s.out
def cx.head(c:cx):Int:=cO c.k.g.bI
def cx.en(kc:dW)(c:cx)(comp:Int):Bool:=
 if c.s.k.d.off=true then false
 else if comp=0 then decide (c.pos<c.head/\c.q.length<kc.cap)
 else if comp=1 then (match c.q with
  | []=>false
  | t::_=>decide (0<c.lg kc) && !(c.m.cI.waits t.kind t.mark))
 else if comp=2 then D3 c.m
 else if comp=3 then c.s.ready c.now
 else if comp=4 then decide (c.due<=c.now/\(c.m.at_<=c.last\/0<c.lg kc))
 else false
structure pJ where
 err:Int
 aw:Int
 th:Int
deriving DecidableEq
def tj(t:pJ):Ξ:=[Γ t.err,Γ t.aw,Γ t.th]
def cx.put(c:cx)(x:cJ):cx:={c with s:={c.s with L:=c.s.L++[x]}}
def cx.read(c:cx):cx × pJ:=match c.src.gN (c.pos+1) with
 | .error e=>(c,⟨e,0,0⟩)
 | .ok t=>({c with q:=c.q++[t],pos:=c.pos+1},⟨0,0,1⟩)
def cx.BY(c:cx)(x:cJ):cx:=if 0<x.ops.length+x.notes.length then {c.put x with last:=max c.last x.aw} else c
def cx.take(c:cx):cx × pJ:=match c.q with
 | []=>(c,⟨0,0,0⟩)
 | t::q=>let r:=c.m.take t;(({c with q:=q,m:=r.1}:cx).BY r.2.1,⟨0,0,2⟩)
def cx.draw(c:cx):Int:=c.dD.headD 0
def cx.write(kc:dW)(c:cx):cx × pJ:=
 let r:=c.s.step kc c.now c.draw
 ({c with s:=r.1,dD:=if r.2.1=7 then c.dD.tail else c.dD},⟨r.2.2,0,r.2.1⟩)
def jE(every now:Int):Int:=min (max now 0) 1125899906842624+every
def cx.tell(cf:dL)(c:cx):cx × pJ:=
 if c.m.at_<=c.last then ({c with due:=jE cf.every c.now},⟨0,0,9⟩)
 else ({c.put ⟨c.m.at_,[],[]⟩ with due:=jE cf.every c.now,last:=c.m.at_},⟨0,0,8⟩)
def cx.snap(cf:dL)(c:cx):cx × pJ:=let r:=(c.l4 cf).step;(c.GS r.1,⟨r.2.2,0,r.2.1⟩)
def cx.pick(cf:dL)(kc:dW)(c:cx)(comp:Int):cx × pJ:=
 if comp<0\/5<=comp then (c,⟨1,0,0⟩)
 else if c.en kc comp=false then (c,⟨0,0,0⟩)
 else if comp=0 then c.read
 else if comp=1 then c.take
 else if comp=2 then c.snap cf
 else if comp=3 then c.write kc
 else c.tell cf
def cx.fault(c:cx)(f:fZ):cx × Int:=
 if jm f=false then (c,1)
 else if 1024<=c.s.k.plan.length then (c,7)
 else ({c with s:={c.s with k:={c.s.k with plan:=c.s.k.plan++[f]}}},0)
def cx.tick(c:cx)(n:Int):cx × Int:=
 if n<1\/1073741824<n then (c,1) else if 1125899906842624<c.now+n then (c,7) else ({c with now:=c.now+n},0)
def cx.drawn(c:cx)(x:Int):cx × Int:=
 if x<0\/1125899906842624<x then (c,1) else if 1024<=c.dD.length then (c,7) else ({c with dD:=c.dD++[x]},0)
def cx.AI(c:cx)(x:Int):cx × Int:=
 if x<0\/1073741824<x then (c,1) else ({c with s:={c.s with k:={c.s.k with d:=c.s.k.d.rA x}}},0)
def cx.trim(c:cx):cx × Int:=let r:=c.src.iR c.s.k.aw;(c.j8 r.1,r.2)
def cx.start(cf:dL)(k:cW)(sk:cV)(now:Int):cx:=
 ⟨⟨sk,[],0,0,0,n_,0⟩,k,⟨cf.tables,cf.late,sk.aw,sk.reqs,nf cf.chunk⟩,w9,[],sk.aw,jE cf.every now,sk.aw,[],now⟩
def WJ(cf:dL)(d:DS)(now:Int):DS × Except Int cx:=match lD d cf.tables cf.size with
 | (d1,.error e)=>(d1,.error e)
 | (_,.ok k)=>match kI k.d cf.tables cf.size with
  | (d2,.error e)=>(d2,.error e)
  | (_,.ok sk)=>(sk.d,.ok (cx.start cf k sk now))
def cx.eO(cf:dL)(c:cx)(keep:Ω):cx:=match WJ cf (c.s.k.d.eO keep) c.now with
 | (_,.ok c')=>c'
 | (_,.error _)=>c
def cx.other(cf:dL)(c:cx)(s:g_):cx × Int:=
 if s.kind=3 then c.fault s.ft
 else if s.kind=4 then c.tick s.n
 else if s.kind=5 then c.drawn s.n
 else if s.kind=6 then c.trim
 else if s.kind=7 then c.AI s.n
 else if s.kind=8 then (c.eO cf s.keep,0)
 else (c,1)
def cx.pP(c:cx)(s:g_):cx × pJ:=let r:=c.src.oD s.sg s.l;(c.j8 r.1,⟨r.2.2,r.2.1,0⟩)
def cx.h_(cf:dL)(kc:dW)(c:cx)(s:g_):cx × pJ:=
 if c.s.k.d.off=true/\s.kind≠8 then (c,⟨8,0,0⟩)
 else if s.kind=1 then c.pP s
 else if s.kind=2 then c.pick cf kc s.n
 else ((c.other cf s).1,⟨(c.other cf s).2,0,0⟩)
structure Ep where
 aw:Int
 head:Int
 low:Int
 clock:Int
 at_:Int
 pos:Int
 read:Int
 KO:Int
 held:Int
 lg:Int
 cI:Int
 rows:Int
 fW:Int
 eQ:Int
 due:Int
 down:Bool
deriving DecidableEq
def CK(l:Ep):Ξ:=[Γ l.aw,Γ l.head,Γ l.low,Γ l.clock,Γ l.at_,Γ l.pos,Γ l.read,Γ l.KO,Γ l.held,Γ l.lg,Γ l.cI,Γ l.rows,Γ l.fW,Γ l.eQ,Γ l.due,.bool l.down]
def cx.look(kc:dW)(c:cx):Ep:=
 ⟨c.s.k.aw,c.head,fk c.k.g.bI,c.now,c.m.at_,c.pos,c.q.length,c.s.L.length,c.s.out,(c.lg kc:Nat),c.m.cI.state,c.m.cI.rows.length,c.s.fW,c.s.eQ,c.due,c.s.k.d.off⟩
def ko(l:List cJ):List iC:=(l.map (·.notes)).flatten
def cCe(l l':List cJ):ko (l++l')=ko l++ko l':=by simp[ko]
def VK(l:List cJ):(km l).notes=ko l:=by
 suffices h:∀(l:List cJ) (a:cJ),(l.foldl jn a).notes=a.notes++ko l from h l n_
 intro l;induction l with
 | nil=>intro a;simp[ko]
 | cons x l ih=>intro a;rw[xxq,ih];simp[jn,ko]
def VO{l:List cJ}(h:l≠[])(b b':Int):iW b l=iW b' l:=by
 cases l with
 | nil=>exact absurd rfl h
 | cons x l=>rfl
structure uf(n:Nat)(x:cJ):Prop where
 w:vp n x
 nt:∀m∈x.notes,m.kind≠2->m.table<(n:Int)
structure jU(kc:dW)(n:Nat)(s:fA)(hd:List cJ)(last:Int)(R:List Rq)(f:Nat):Prop where
 it:∀x∈hd++s.L,uf n x
 j7:fQ 0 (hd++s.L)
 le:iW 0 (hd++s.L)<=last
 hn:hd.length=s.n
 held:s.held=km hd
 room:s.L.length+s.out<=kc.cap
 out:s.out=s.n
 l0:0<=s.k.aw
 aw:s.k.aw<=last
 st:(fQ s.k.aw (hd++s.L)/\ga s.k.reqs (ko (hd++s.L))=some R)\/(hd≠[]/\s.k.aw=iW 0 hd/\ga s.k.reqs (ko s.L)=some R)
 f0:0<=s.fW
 f1:s.fW<=f
def jU.mono{kc:dW}{n:Nat}{s:fA}{hd:List cJ}{last:Int}{R:List Rq}{f f':Nat}(h:jU kc n s hd last R f)(hf:f<=f'):jU kc n s hd last R f':=⟨h.it,h.j7,h.le,h.hn,h.held,h.room,h.out,h.l0,h.aw,h.st,h.f0,by have:=h.f1;omega⟩
def jU.inv{kc:dW}{n:Nat}{s:fA}{hd:List cJ}{last:Int}{R:List Rq}{f:Nat}(h:jU kc n s hd last R f){cf:dL}(hc:CC cf kc n):pK kc n s f:=by
 have h1:=fQ.append.1 h.j7;refine⟨hc.q1,hc.D2,hc.b1,hc.HQ,λx hx=>(h.it x (xxm _ hx)).w,h1.2.mono h1.1.last,h.room,h.out,?_,h.f0,h.f1⟩;have hn:=h.hn;by_cases h0:s.n=0
 ·have:hd=[]:=wwj.1 (by omega);subst this;exact .inl ⟨h0,h.held⟩
 have:=DJ (n:=n) (l:=hd) (λx hx=>(h.it x (yyo _ hx)).w) h1.1;rw[hn,<- h.held]at this
 exact .inr ⟨by omega,this⟩
def jU.put{kc:dW}{n:Nat}{s:fA}{hd:List cJ}{last:Int}{R R':List Rq}{f:Nat}(h:jU kc n s hd last R f){x:cJ}(hx:uf n x)(hl:last<x.aw)(hR:ga R x.notes=some R')(hr:s.L.length+s.out<kc.cap):jU kc n {s with L:=s.L++[x]} hd x.aw R' f:=by
 have hle:=h.le;have kh:=h.aw;have UD:∀A:List cJ,ko (A++[x])=ko A++x.notes:=λA=>by simp[ko]
 have e:hd++(s.L++[x])=(hd++s.L)++[x]:=(zzk _ _ _).symm;refine⟨λy hy=>?_,?_,?_,h.hn,h.held,?_,h.out,h.l0,by show s.k.aw<=x.aw;omega,?_,h.f0,h.f1⟩
 ·have hy:y∈hd++(s.L++[x]):=hy;rw[e]at hy
  rcases zz6.1 hy with hy|hy
  ·exact h.it y hy
  rw[zz8.1 hy];exact hx
 ·show fQ 0 (hd++(s.L++[x]));rw[e];exact h.j7.snoc (by omega)
 ·show iW 0 (hd++(s.L++[x]))<=x.aw;rw[e,cz1];exact yyf _
 ·show (s.L++[x]).length+s.out<=kc.cap;rw[zza,yyc];omega
 rcases h.st with ⟨a,b⟩|⟨a,b,c⟩
 ·refine .inl ⟨?_,?_⟩
  ·show fQ s.k.aw (hd++(s.L++[x]));rw[e];refine a.snoc ?_;by_cases hn:hd++s.L=[]
   ·rw[hn];show s.k.aw<x.aw;omega
   rw[VO hn _ 0];omega
  show ga s.k.reqs (ko (hd++(s.L++[x])))=some R';rw[e,UD,DV,b];exact hR
 refine .inr ⟨a,b,?_⟩;show ga s.k.reqs (ko (s.L++[x]))=some R';rw[UD,DV,c];exact hR
def jU.hold{kc:dW}{n:Nat}{s:fA}{hd:List cJ}{last:Int}{R:List Rq}{f:Nat}(h:jU kc n s hd last R f)(h1:1<=kc.cN){now:Int}(hr:s.ready now=true):
  ∃ny,jU kc n (s.hold kc.cN) ny last R f/\ny≠[]/\(s.hold kc.cN).k=s.k/\(s.hold kc.cN).fW=s.fW/\(s.hold kc.cN).eQ=s.eQ:=by
 have hn:=h.hn;have JF:=h.room;have UK:=h.out;unfold fA.ready at hr;unfold fA.hold;by_cases h0:s.n=0
 ·rw[zzd h0];rw[zzb (by omega),zzw]at hr
  have tI:hd=[]:=wwj.1 (by omega);subst tI;have e:s.L.take kc.cN++s.L.drop kc.cN=[]++s.L:=by simp
  refine⟨s.L.take kc.cN,⟨by show ∀x∈s.L.take kc.cN++s.L.drop kc.cN,_;rw[e];exact h.it,by show fQ 0 (s.L.take kc.cN++s.L.drop kc.cN);rw[e];exact h.j7,by show iW 0 (s.L.take kc.cN++s.L.drop kc.cN)<=last;rw[e];exact h.le,by show (s.L.take kc.cN).length=min kc.cN s.L.length;rw[zzg],rfl,?_,?_,h.l0,h.aw,.inl ?_,h.f0,h.f1⟩,λhh=>?_,rfl,rfl,rfl⟩
  ·show (s.L.drop kc.cN).length+(s.out+min kc.cN s.L.length)<=kc.cap;rw[zzs];omega
  ·show s.out+min kc.cN s.L.length=min kc.cN s.L.length;omega
  ·show fQ s.k.aw (s.L.take kc.cN++s.L.drop kc.cN)/\ga s.k.reqs (ko (s.L.take kc.cN++s.L.drop kc.cN))=some R;rw[e];rcases h.st with a|⟨a,_⟩
   ·exact a
   exact absurd rfl a
  have:=yy1 List.length hh;rw[zzg,yym]at this
  omega
 rw[zzb h0];exact⟨hd,h,λhh=>by rw[hh]at hn;exact h0 (by rw[<- hn];rfl),rfl,rfl,rfl⟩
def jU.fits{kc:dW}{n:Nat}{s:fA}{hd:List cJ}{last:Int}{R:List Rq}{f:Nat}(h:jU kc n s hd last R f){cf:dL}(hc:CC cf kc n)(dO:hd≠[]):
  eH s.held=true/\s.held.aw=iW 0 hd/\∃L,(s.k.aw<s.held.aw->gf n s.k.reqs s.held=some L/\ga L (ko s.L)=some R)/\(¬s.k.aw<s.held.aw->s.k.aw=iW 0 hd/\ga s.k.reqs (ko s.L)=some R):=by
 have h1:=fQ.append.1 h.j7;have hJ:=DJ (n:=n) (l:=hd) (λx hx=>(h.it x (yyo _ hx)).w) h1.1;have hp:0<hd.length:=wwb.2 dO;have hn:=h.hn;have JF:=h.room;have UK:=h.out;have hq:=hc.D2;obtain⟨hm,ht⟩:=hJ.may hp (by omega);have hl:s.held.aw=iW 0 hd:=by rw[h.held,VI]
 rw[<- h.held]at hm ht
 refine⟨hm,hl,?_⟩;rcases h.st with ⟨a,b⟩|⟨_,a,b⟩
 ·rw[cCe]at b
  obtain⟨L,b1,b2⟩:=cCf b;have dj:s.k.aw<s.held.aw:=by
   rw[hl];have:=(fQ.append.1 a).1;cases hd with
   | nil=>exact absurd rfl dO
   | cons x l=>have h2:=this.2.last;have h3:=this.1;show s.k.aw<iW x.aw l;omega
  refine⟨L,λ_=>⟨?_,b2⟩,λhh=>absurd dj hh⟩;unfold gf;rw[zzd ⟨hm,ht⟩,h.held,VK];exact b1
 exact⟨R,λhh=>by omega,λ_=>⟨a,b⟩⟩
def jU.done{kc:dW}{n:Nat}{s:fA}{hd:List cJ}{last:Int}{R:List Rq}{f:Nat}(h:jU kc n s hd last R f){k':cV}(hl:k'.aw=iW 0 hd)(hR:ga k'.reqs (ko s.L)=some R):jU kc n {s with k:=k',out:=s.out-oI s.n s.out,fW:=0,eQ:=0,held:=n_,n:=0} [] last R f:=by
 have h1:=fQ.append.1 h.j7;have hle:=h.le;have kh:=h.aw;have pw:=h.l0;have JF:=h.room;have UK:=h.out;have h2:=h1.1.last;have h3:=h1.2.last;rw[J8]at hle
 have hg:oI s.n s.out=s.n:=by unfold oI;omega
 have nB:iW 0 ([]++s.L)<=last:=by
  rw[zzq];by_cases hL:s.L=[]
  ·rw[hL];show (0:Int)<=last;omega
  rw[VO hL 0 (iW 0 hd)];exact hle
 refine⟨λx hx=>h.it x (xxm _ hx),h1.2.mono h2,nB,rfl,rfl,?_,?_,?_,?_,.inl ⟨?_,hR⟩,yyf _,by show (0:Int)<=(f:Int);omega⟩
 ·show s.L.length+(s.out-oI s.n s.out)<=kc.cap;omega
 ·show s.out-oI s.n s.out=0;omega
 ·show 0<=k'.aw;rw[hl];exact h2
 ·show k'.aw<=last;rw[hl];omega
 show fQ k'.aw s.L;rw[hl];exact h1.2
def jU.again{kc:dW}{n:Nat}{s:fA}{hd:List cJ}{last:Int}{R:List Rq}{f:Nat}(h:jU kc n s hd last R f)(dO:hd≠[]){k':cV}(hk:(k'.aw=s.k.aw/\k'.reqs=s.k.reqs)\/(k'.aw=iW 0 hd/\ga k'.reqs (ko s.L)=some R))(eQ:Int):jU kc n {s with k:=k',fW:=s.fW+1,eQ:=eQ} hd last R (f+1):=by
 have h1:=fQ.append.1 h.j7;have hle:=h.le;have h2:=h1.1.last;have h3:=h1.2.last;have uK:=h.f0;have Bb:=h.f1;rw[J8]at hle
 refine⟨h.it,h.j7,h.le,h.hn,h.held,h.room,h.out,?_,?_,?_,by show 0<=s.fW+1;omega,by show s.fW+1<=((f+1:Nat):Int);omega⟩
 ·show 0<=k'.aw;rcases hk with ⟨e,_⟩|⟨e,_⟩
  ·rw[e];exact h.l0
  rw[e];exact h2
 ·show k'.aw<=last;rcases hk with ⟨e,_⟩|⟨e,_⟩
  ·rw[e];exact h.aw
  rw[e];omega
 show (fQ k'.aw (hd++s.L)/\ga k'.reqs (ko (hd++s.L))=some R)\/(hd≠[]/\k'.aw=iW 0 hd/\ga k'.reqs (ko s.L)=some R);rcases hk with ⟨e1,e2⟩|⟨e1,e2⟩
 ·rw[e1,e2];exact h.st
 exact .inr ⟨dO,e1,e2⟩
structure jW(n:Nat)(ch:Int)(w:dM):Prop where
 nn:w.n=ch
 st:0<=w.state/\w.state<=4
 rows:∀r∈w.rows,sX r
 len:w.rows.length<=64
 after:0<=w.after/\w.after<=1099511627776
 cur:0<=w.dG/\w.dG<=1099511627776
 id:0<=w.id/\w.id<=64
 live:w.state≠0->(0<=w.table/\w.table<(n:Int))/\1<=w.id/\1<=w.mark/\w.mark<=1099511627776
def jW.nf(n:Nat)(ch:Int):jW n ch (nf ch):=⟨rfl,⟨yyf _,show (0:Int)<=4 by decide⟩,λr hr=>(by cases hr),zz4 _,⟨yyf _,show (0:Int)<=1099511627776 by decide⟩,⟨yyf _,show (0:Int)<=1099511627776 by decide⟩,⟨yyf _,show (0:Int)<=64 by decide⟩,λh=>absurd rfl h⟩
def jW.tY{n:Nat}{ch:Int}{w:dM}(h:jW n ch w){mark id table after:Int}(ht:table<(n:Int)):jW n ch (w.tY mark id table after):=by
 unfold dM.tY;split
 ·exact h
 rename_i hb;unfold dM.Ai at hb;exact⟨h.nn,⟨show (0:Int)<=1 by decide,show (1:Int)<=4 by decide⟩,λr hr=>(by cases hr),zz4 _,⟨by show 0<=after;omega,by show after<=_;omega⟩,⟨yyf _,show (0:Int)<=1099511627776 by decide⟩,⟨by show 0<=id;omega,by show id<=64;omega⟩,λ_=>⟨⟨by show 0<=table;omega,ht⟩,by show 1<=id;omega,by show 1<=mark;omega,by show mark<=_;omega⟩⟩
def cD3{after:Int}{C:List Row}(ha:0<=after/\after<=1099511627776)(h:∀r∈C,sX r):0<=lE after C/\lE after C<=1099511627776:=by
 unfold lE;cases hl:C.getLast? with
 | none=>exact ha
 | some r=>
  have:=h r (xx3 hl);unfold sX at this;show 0<=r.key/\r.key<=_;omega
def jW.fill{n:Nat}{ch:Int}{w:dM}(h:jW n ch w)(IP:ch<=64){C:List Row}(hC:∀r∈C,sX r):jW n ch (w.fill C):=by
 unfold dM.fill;split
 ·exact h
 rename_i hb;unfold dM.xj at hb;have hn:=h.nn;exact⟨h.nn,⟨show (0:Int)<=2 by decide,show (2:Int)<=4 by decide⟩,hC,by show C.length<=64;omega,h.after,cD3 h.after hC,h.id,λ_=>h.live (by omega)⟩
def jW.shut{n:Nat}{ch:Int}{w:dM}(h:jW n ch w):jW n ch w.shut:=by
 unfold dM.shut;split
 ·exact⟨h.nn,⟨show (0:Int)<=3 by decide,show (3:Int)<=4 by decide⟩,h.rows,h.len,h.after,h.cur,h.id,λ_=>h.live (by omega)⟩
 exact h
def jW.low{n:Nat}{ch:Int}{w:dM}(h:jW n ch w)(mark:Int):jW n ch (w.low mark):=by
 unfold dM.low;split
 ·rename_i hs;exact⟨h.nn,⟨show (0:Int)<=4 by decide,yyf _⟩,h.rows,h.len,h.after,h.cur,h.id,λ_=>h.live (by omega)⟩
 exact h
def jW.rU{n:Nat}{ch:Int}{w:dM}(h:jW n ch w)(l:List d_):jW n ch (w.rU l):=by
 unfold dM.rU;split
 ·exact⟨h.nn,h.st,λr hr=>h.rows r (yy0.1 hr).1,yyw (yyp _ _) h.len,h.after,h.cur,h.id,h.live⟩
 exact h
structure Aw(n:Nat)(ch:Int)(m:dJ):Prop where
 nH:m.tables=n
 mg:0<=m.at_
 oZ:m.at_<=1099511627776
 may:gm m.reqs
 rq:∀r∈m.reqs,r.table<(n:Int)/\r.at_<=m.at_
 cI:jW n ch m.cI
def RH{L L':List Rq}{t w a:Int}(h:pL L t w a=some L'):L'=L++[Ag L t w a]/\1<=L'.length/\L'.length<=64/\0<=t/\t<8/\1<=w/\w<=8/\1<=a:=by
 have hM:=Cu h;have he:L'=L++[Ag L t w a]:=by
  unfold pL at h;split at h
  ·cases h;rfl
  cases h
 have hl:L'.length=L.length+1:=by rw[he];simp
 have h1:=(hM.2 L.length (by omega)).1;have e:L'[L.length]=Ag L t w a:=by simp[he]
 rw[e]at h1
 unfold wm Ag at h1;exact⟨he,by omega,hM.1,h1.2.1,h1.2.2.1,h1.2.2.2.1,h1.2.2.2.2.1,h1.2.2.2.2.2.1⟩
def Sj{L L':List Rq}{id c:Int}{dn:Bool}(h:mi L id c dn=some L'):∀r∈L',∃r0∈L,r.table=r0.table/\r.at_=r0.at_:=by
 unfold mi at h;split at h
 ·split at h
  ·rename_i r0 tQ;split at h
   ·cases h
   cases h;intro r hr;obtain⟨j,hj,rfl⟩:=yyl hr;rw[xxr];obtain⟨tK,e0⟩:=zzf.1 tQ;split
   ·exact⟨r0,by rw[<- e0];exact zzh _,rfl,rfl⟩
   rw[yyh]at hj
   exact⟨_,zzh hj,rfl,rfl⟩
  cases h
 cases h
def aRt{m:dJ}{n:Nat}(ht:m.tables=n){aw:Int}(l1:1<=aw)(s:Η):
  ga m.reqs (m.accept s aw).2=some (m.accept s aw).1/\(m.accept s aw).2.length<=1/\(∀x∈(m.accept s aw).2,jx x aw=true/\x.table<(n:Int))/\∀r∈(m.accept s aw).1,r∈m.reqs\/(r.table<(n:Int)/\r.at_=aw):=by
 unfold dJ.accept;split
 ·exact⟨rfl,zz4 _,λx hx=>(by cases hx),λr hr=>.inl hr⟩
 split
 ·exact⟨rfl,zz4 _,λx hx=>(by cases hx),λr hr=>.inl hr⟩
 split
 ·exact⟨rfl,zz4 _,λx hx=>(by cases hx),λr hr=>.inl hr⟩
 rename_i g _ v_ _ L hL;obtain⟨e,a1,a2,a3,a4,a5,a6,a7⟩:=RH hL;refine⟨?_,zzi _,λx hx=>?_,λr hr=>?_⟩
 ·simp only;unfold ga ga oR;rw[zzb (show ¬(1:Int)=2 by decide)];simp only[hL];rw[zzd trivial]
 ·rw[zz8.1 hx];refine⟨DN.2 ⟨by show (1:Int)<=L.length;omega,by show (L.length:Int)<=64;omega,.inl ⟨rfl,a3,a4,a5,a6,l1,yyf _,rfl,rfl⟩⟩,by show g.1<(n:Int);omega⟩
 simp only at hr;rw[e]at hr
 rcases zz6.1 hr with hr|hr
 ·exact .inl hr
 rw[zz8.1 hr];exact .inr ⟨by show g.1<(n:Int);omega,rfl⟩
def RJ{n:Nat}{aw:Int}(l1:1<=aw):∀(sg:Ψ) {m:dJ},m.tables=n ->
  ga m.reqs (m.fr aw sg).2=some (m.fr aw sg).1.reqs/\(m.fr aw sg).2.length<=sg.length/\(∀x∈(m.fr aw sg).2,jx x aw=true/\x.table<(n:Int))/\∀r∈(m.fr aw sg).1.reqs,r∈m.reqs\/(r.table<(n:Int)/\r.at_=aw)
 | [],m,_=>⟨rfl,zzi _,λx hx=>(by cases hx),λr hr=>.inl hr⟩
 | s::sg,m,ht=>by
  obtain⟨a1,a2,a3,a4⟩:=aRt ht l1 s;obtain⟨b1,b2,b3,b4⟩:=RJ l1 sg (m:={m with reqs:=(m.accept s aw).1}) ht;have e:m.fr aw (s::sg)=((dJ.fr {m with reqs:=(m.accept s aw).1} aw sg).1,(m.accept s aw).2++(dJ.fr {m with reqs:=(m.accept s aw).1} aw sg).2):=rfl;rw[e];refine⟨?_,?_,λx hx=>?_,λr hr=>?_⟩
  ·simp only;rw[DV,a1];exact b1
  ·simp only;rw[zza,zzj];omega
  ·rcases zz6.1 hx with hx|hx
   ·exact a3 x hx
   exact b3 x hx
  rcases b4 r hr with h|h
  ·exact a4 r h
  exact .inr h
def Gl{aw:Int}{ops:List gx}{notes:List iC}(h1:1<=aw/\aw<=1099511627776)(h2:ops.length<=64)(h3:notes.length<=4)(ho:∀o∈ops,kY o aw=true)(hn:∀m∈notes,jx m aw=true):eH ⟨aw,ops,notes⟩=true:=
 oQ.2 ⟨⟨h1.1,h1.2,by show ops.length<=4096;omega,by show notes.length<=256;omega⟩,ho,hn⟩
def Lf{n:Nat}{x:cJ}(h:∀o∈x.ops,o.table<(n:Int)):sZ n x=true:=by
 unfold sZ;rw[zz5];exact λo ho=>zzo (h o ho)
def uf.empty{n:Nat}{aw:Int}(h:1<=aw/\aw<=1099511627776):uf n ⟨aw,[],[]⟩:=⟨⟨Gl h (zz4 _) (zz4 _) (λo ho=>by cases ho) (λo ho=>by cases ho),rfl,zz4 _,zz4 _⟩,λm hm=>by cases hm⟩
structure TkM(n:Nat)(ch:Int)(m:dJ)(t:cM)(m':dJ)(x:cJ):Prop where
 ok:Aw n ch m'
 at_:m'.at_=t.aw
 late:m'.late=m.late
 aw:x.aw=t.aw
 it:uf n x
 nr:ga m.reqs x.notes=some m'.reqs
def Aw.take{n:Nat}{ch:Int}{m:dJ}(h:Aw n ch m){t:cM}(hm:eG t=true)(hl:t.aw=m.at_+1)(hw:m.cI.waits t.kind t.mark=false)(n8:n<=8):(m.take t).2.2=0/\TkM n ch m t (m.take t).1 (m.take t).2.1:=by
 obtain⟨h1,h2,h3,h4,h5,h6,h7⟩:=my hm;have iu:=h.mg;unfold dJ.take;rw[zzb (by rw[hm];decide),zzb (by rw[hw];rintro (h|h);exact h hl;cases h)];have lP:∀r∈m.reqs,r.table<(n:Int)/\r.at_<=t.aw:=λr hr=>by have:=h.rq r hr;exact⟨this.1,by omega⟩
 split
 ·refine⟨rfl,?_⟩;simp only;unfold dJ.AO;simp only;obtain⟨_,a2,a3,a4,a5,a6⟩:=HJ t.aw t.signals {m with at_:=t.aw};obtain⟨b1,b2,b3,b4⟩:=RJ (n:=n) h1.1 t.signals (m:={m with at_:=t.aw}) h.nH;generalize ({m with at_:=t.aw}:dJ).fr t.aw t.signals=y at *
  refine⟨⟨a4.trans h.nH,by rw[a6];exact (by omega:0<=t.aw),by rw[a6];exact h1.2,a2 h.may,λr hr=>?_,?_⟩,a6,a5,rfl,⟨⟨?_,?_,?_,?_⟩,λx hx _=>(b3 x hx).2⟩,b1⟩
  ·rw[a6];rcases b4 r hr with hr|⟨c1,c2⟩
   ·exact lP r hr
   exact⟨c1,by rw[c2];exact yyf _⟩
  ·show jW n ch (y.1.cI.rU t.changes);rw[a3];exact h.cI.rU _
  ·have fj:(mB y.1 t.aw t.changes).length<=16:=by
    unfold mB;rw[zzn];exact yyw (yyp _ _) h4
   refine Gl h1 (by omega) (by omega) (λo ho=>?_) λx hx=>(b3 x hx).1;unfold mB at ho;obtain⟨c,hc,rfl⟩:=zzx.1 ho;have:=Ac.1 (h6 c (yy0.1 hc).1);exact DO.2 ⟨h1.1,yyf _,this⟩
  ·refine Lf λo ho=>?_;have ho:o∈mB y.1 t.aw t.changes:=ho;unfold mB at ho;obtain⟨c,hc,rfl⟩:=zzx.1 ho;have ph:=(yy0.1 hc).2;unfold dJ.captured at ph;rw[zzu,zzw,a4]at ph
   have Ja:c.table<m.tables:=ph.1.2;have ht:=h.nH;show c.table<(n:Int);omega
  ·show (mB y.1 t.aw t.changes).length<=64;unfold mB;rw[zzn];have:=yyp (λc=>y.1.captured c.table) t.changes;omega
  show y.2.length<=4;omega
 split
 ·refine⟨rfl,?_⟩;simp only;unfold dJ.high;simp only;unfold dM.high;split
  ·rename_i hx;split at hx
   ·cases hx;exact⟨⟨h.nH,by show 0<=t.aw;omega,h1.2,h.may,lP,h.cI⟩,rfl,rfl,rfl,uf.empty h1,rfl⟩
   cases hx
  rename_i w x hx;split at hx
  ·cases hx
  rename_i hb;cases hx;unfold dM.uN at hb;have hs:m.cI.state=4:=by omega
  obtain⟨⟨v1,v2⟩,v3,v4,v5⟩:=h.cI.live (by omega);have hid:=h.cI.id;have T':=h.cI.cur;have hlen:=h.cI.len;have ed:∀o∈kq m.cI t.aw,kY o t.aw=true/\o.table<(n:Int):=λo ho=>by
   unfold kq at ho;obtain⟨r,hr,rfl⟩:=zzx.1 ho;have:=h.cI.rows r hr;unfold sX at this;exact⟨DO.2 ⟨h1.1,yyf _,v1,by show m.cI.table<8;omega,this.1,this.2.1,this.2.2,λhh=>by cases hh⟩,v2⟩
  have xS:(kq m.cI t.aw).length<=64:=by unfold kq;rw[zzn];exact hlen
  have hn:jx (rP m.cI) t.aw=true:=DN.2 ⟨v3,hid.2,.inr ⟨rfl,rfl,rfl,rfl,T'.1,T'.2⟩⟩;have U7:jW n ch (nf m.cI.n):=by rw[h.cI.nn];exact jW.nf n ch
  split
  ·refine⟨⟨h.nH,by show 0<=t.aw;omega,h1.2,h.may,lP,U7⟩,rfl,rfl,rfl,⟨⟨Gl h1 xS (zz4 _) (λo ho=>(ed o ho).1) (λo ho=>by cases ho),Lf λo ho=>(ed o ho).2,xS,zz4 _⟩,λx hx=>by cases hx⟩,rfl⟩
  rename_i L hL;refine⟨⟨h.nH,by show 0<=t.aw;omega,h1.2,EU hL,λr hr=>?_,U7⟩,rfl,rfl,rfl,⟨⟨Gl h1 xS (by show 1<=4;decide) (λo ho=>(ed o ho).1) (λo ho=>by rw[zz8.1 ho];exact hn),Lf λo ho=>(ed o ho).2,xS,by show 1<=4;decide⟩,λx hx hk=>?_⟩,?_⟩
  ·obtain⟨r0,tQ,e1,e2⟩:=Sj hL r hr;have:=lP r0 tQ;rw[e1,e2];exact this
  ·rw[zz8.1 hx]at hk
   exact absurd rfl hk
  show ga m.reqs [rP m.cI]=some L;unfold ga ga oR;rw[zzd (show (rP m.cI).kind=2 from rfl)];have hL:mi m.reqs (rP m.cI).id (rP m.cI).dG (rP m.cI).done=some L:=hL;rw[hL]
 refine⟨rfl,⟨h.nH,by show 0<=t.aw;omega,h1.2,h.may,lP,h.cI.low _⟩,rfl,rfl,rfl,uf.empty h1,rfl⟩
abbrev nJ(j:Nat):Nat:=400000*(j+1)
structure CB(cf:dL)(kc:dW)(n j:Nat)(AL:List cM)(xs:List cJ)(c:cx):Prop where
 dk:c.s.k.d.Ok (nJ j)
 ops:c.s.k.d.ops<=250*(j+1)
 al:AL.length<=j
 sg:ij c.k.g (nJ j)
 st1:∀C∈c.k.ts,nS C
 st2:∀C∈c.k.ts,C.length<=1000
 l5:c.k.ts.length=n
 kg:ij c.s.k.g (nJ j)
 run:runT n xs (rV n)=some c.s.k.tr
 xl:xs.length<=j
 pl:c.s.k.plan.length<=1024
 mX:∀f∈c.s.k.plan,jm f=true
 wt:pK kc n c.s j
 eQ:0<=c.s.eQ/\c.s.eQ<=4503599627370496
 mx:Aw n cf.chunk c.m
 late:c.m.late=cf.late
 dr:c.dr.Ok
 ids:∀m∈c.dr.l,m.1<=c.m.reqs.length
 q:∀t∈c.q,eG t=true
 ql:c.q.length<=kc.cap
 pos:0<=c.pos/\c.pos<=1099511627776
 last:0<=c.last/\c.last<=1099511627776
 due:0<=c.due/\c.due<=4503599627370496
 now:0<=c.now/\c.now<=1125899906842624
 dl:c.dD.length<=1024
 dw:∀x∈c.dD,0<=x/\x<=1125899906842624
def cx.kS(c:cx)(RS:List PF):cW:={c.k with d:={c.s.k.d with R:=RS}}
def cx.kK(c:cx)(RK:List PF):cV:={c.s.k with d:={c.s.k.d with R:=RK}}
structure CA(cf:dL)(kc:dW)(n j:Nat)(AL:List cM)(tr:Nat)(xs hd:List cJ)(RS RK:List PF)(c:cx):Prop where
 off:c.s.k.d.off=false
 dR:c.s.k.d.R=RS++RK
 kv:KV n tr (nJ j) AL (c.kS RS)
 si:jf n (c.kK RK) xs none
 kw:se RS (c.kK RK)
 kZ:jU kc n c.s hd c.last c.m.reqs j
 mD:∀r∈c.s.k.reqs,r.table<(n:Int)/\r.at_<=c.s.k.aw
 tl:(tr:Int)<=c.s.k.aw
 la:c.last<=c.m.at_
 qp:c.pos=c.m.at_+c.q.length
 pl:c.pos<=AL.length
 qq:∀i (h:i<c.q.length),AL[c.m.at_.toNat+i]?=some c.q[i]
structure CD(n j:Nat)(AL:List cM)(t:Option cM)(tr:Nat)(xs:List cJ)(m:Option cJ)(RS RK:List PF)(c:cx):Prop where
 dR:c.s.k.d.R=RS++RK
 kd:KD n tr (nJ j) AL t {c.s.k.d with R:=RS}
 sd:∃o,jf n {c.s.k with d:={c.s.k.d with R:=RK,off:=o}} xs m
 kb:∀x∈RK,8192<=x.id/\x.id<12288
 nx:∀t',(t'=c.s.k.tr\/∃x,m=some x/\stepT n c.s.k.tr x=some t')->(∀r∈t'.2.1,r.table<(n:Int)/\r.at_<=t'.2.2)/\(tr:Int)<=t'.2.2/\t'.2.2<=AL.length
def fg(cf:dL)(kc:dW)(n j:Nat)(AL:List cM)(c:cx):Prop:=∃tr xs hd RS RK,CB cf kc n j AL xs c/\CA cf kc n j AL tr xs hd RS RK c
def oV(cf:dL)(kc:dW)(n j:Nat)(AL:List cM)(c:cx):Prop:=c.s.k.d.off=true/\∃tr xs t m RS RK,CB cf kc n j AL xs c/\CD n j AL t tr xs m RS RK c
def CS(cf:dL)(kc:dW)(n j:Nat)(AL:List cM)(c:cx):Prop:=fg cf kc n j AL c\/oV cf kc n j AL c
section
variable {cf:dL} {kc:dW} {n j:Nat} {AL:List cM} {tr:Nat} {xs hd:List cJ} {RS RK:List PF} {c:cx}
def BG(j:Nat):nJ j<=nJ (j+1):=uu1 _ (by omega)
def tX(j:Nat):nJ j=400000*j+400000:=by show 400000*(j+1)=_;omega
def Ki(j:Nat):nJ (j+1)=nJ j+400000:=by show 400000*(j+1+1)=400000*(j+1)+400000;omega
def CB.mono(h:CB cf kc n j AL xs c):CB cf kc n (j+1) AL xs c:=
 ⟨h.dk.mono (BG j),by have:=h.ops;omega,by have:=h.al;omega,h.sg.mono (BG j),h.st1,h.st2,h.l5,h.kg.mono (BG j),h.run,by have:=h.xl;omega,h.pl,h.mX,h.wt.mono (by omega),h.eQ,h.mx,h.late,h.dr,h.ids,h.q,h.ql,h.pos,h.last,h.due,h.now,h.dl,h.dw⟩
def CA.mono(h:CA cf kc n j AL tr xs hd RS RK c):CA cf kc n (j+1) AL tr xs hd RS RK c:=
 ⟨h.off,h.dR,h.kv.mono (BG j),h.si,h.kw,h.kZ.mono (by omega),h.mD,h.tl,h.la,h.qp,h.pl,h.qq⟩
def CD.mono{t:Option cM}{m:Option cJ}(h:CD n j AL t tr xs m RS RK c):CD n (j+1) AL t tr xs m RS RK c:=⟨h.dR,h.kd.mono (BG j),h.sd,h.kb,h.nx⟩
def fg.mono(h:fg cf kc n j AL c):fg cf kc n (j+1) AL c:=by
 obtain⟨tr,xs,hd,RS,RK,hb,ha⟩:=h;exact⟨tr,xs,hd,RS,RK,hb.mono,ha.mono⟩
def oV.mono(h:oV cf kc n j AL c):oV cf kc n (j+1) AL c:=by
 obtain⟨ho,tr,xs,t,m,RS,RK,hb,hd⟩:=h;exact⟨ho,tr,xs,t,m,RS,RK,hb.mono,hd.mono⟩
def CS.mono(h:CS cf kc n j AL c):CS cf kc n (j+1) AL c:=h.imp fg.mono oV.mono
def DS.split{d:DS}{A B:List PF}(h:d.R=A++B):d={d with R:=A++B}:=by
 cases d;simp only at h;subst h;rfl
def CA.X8(h:CA cf kc n j AL tr xs hd RS RK c):c.src=(c.kS RS).fw RK:=by
 unfold cx.src cx.kS cW.fw dz;simp only[zzq];rw[<- DS.split h.dR]
def CA.cH4(h:CA cf kc n j AL tr xs hd RS RK c):c.s.k=(c.kK RK).fw RS:=by
 unfold cx.kK cV.fw dz;simp only[zz2];rw[<- DS.split h.dR]
def CA.hB(h:CA cf kc n j AL tr xs hd RS RK c):∀x∈RK,8192<=x.id:=λx hx=>(h.kw.w.m x hx).1
def Xn{xs:List cJ}{t:Tr}(h:runT n xs (rV n)=some t)(hl:xs.length<=240):TX t n 4:=by
 have:=TX.run (n:=n) xs (rV n) t (244-xs.length) (by rw[show 244-xs.length+xs.length=244 by omega];exact TX.zero n 244 (by decide)) h;exact⟨⟨this.k.len,this.k.ok,XS this.k.room (by omega),this.k.rq⟩,this.l0,this.l1,this.rq⟩
def CB.VN(h:CB cf kc n j AL xs c)(hj:j<=190)(n8:n<=8):Ca c.s.k (nJ j) 4:=by
 have ht:=Xn h.run (by have:=h.xl;omega);have ho:=h.ops;have gR:c.s.k.ts.length=n:=ht.k.len;have xQ:=tX j;exact⟨h.kg,h.dk,by omega,by omega,h.pl,h.mX,by omega,ht.k.ok,ht.k.room,ht.k.rq⟩
def CB.D'(h:CB cf kc n j AL xs c)(n1:1<=n)(n8:n<=8):jH c.src (nJ j):=⟨h.sg,h.dk,h.st1,h.st2,by rw[show c.src.ts=c.k.ts from rfl,h.l5];exact n1,by rw[show c.src.ts=c.k.ts from rfl,h.l5];exact n8⟩
def CB.TE(h:CB cf kc n j AL xs c)(hc:CC cf kc n):(c.l4 cf).Good (nJ j):=by
 have hm:=h.mx;have IP:=hc.wR;have hn:=hm.cI.nn;have ht:=hm.nH;have h1:=hc.n1;have h8:=hc.n8;exact⟨hm.may,⟨by show 1<=c.m.tables;omega,by show c.m.tables<=8;omega⟩,⟨hm.mg,hm.oZ⟩,by show c.m.cI.n<=64;omega,hm.cI.len,hm.cI.id,h.dr,h.ids,⟨hc.c1,hc.wR⟩,h.D' hc.n1 hc.n8⟩
def CA.nx(h:CA cf kc n j AL tr xs hd RS RK c):(∀r∈c.s.k.reqs,r.table<(n:Int)/\r.at_<=c.s.k.aw)/\(tr:Int)<=c.s.k.aw/\c.s.k.aw<=AL.length:=by
 have h1:=h.kZ.aw;have h2:=h.la;have h3:=h.qp;have h4:=h.pl;exact⟨h.mD,h.tl,by omega⟩
def CA.dead(h:CA cf kc n j AL tr xs hd RS RK c):CD n j AL none tr xs none RS RK c:=by
 refine⟨h.dR,h.kv.dead,⟨false,h.si.wd rfl ?_⟩,λx hx=>h.kw.w.m x hx,λt' ht=>?_⟩
 ·show false=c.s.k.d.off;rw[h.off]
 rcases ht with rfl|⟨x,hx,_⟩
 ·exact h.nx
 cases hx
def KV.ids{n tr N:Nat}{AL:List cM}{k:cW}(h:KV n tr N AL k):∀x∈k.d.R,x.id<8192:=λx hx=>((h.Ea (B:=[]) (λx hx=>by cases hx)).w.m x hx).2
def CA.j8(h:CA cf kc n j AL tr xs hd RS RK c){k':cW}{fx:List cM}{Am:Nat}(hk:KV n Am (nJ (j+1)) fx k')(ly:(Am:Int)<=c.s.k.aw)(hA:fx=AL\/∃x,fx=AL++[x]):CA cf kc n (j+1) fx Am xs hd k'.d.R RK (c.j8 (k'.fw RK)):=by
 have hid:=hk.ids;have p_:∀(i:Nat) (t:cM),AL[i]?=some t->fx[i]?=some t:=λi t e=>by
  rcases hA with rfl|⟨x,rfl⟩
  ·exact e
  rw[zzm (zzf.1 e).1];exact e
 have hlen:AL.length<=fx.length:=by
  rcases hA with rfl|⟨x,rfl⟩
  ·exact zzi _
  rw[zza];omega
 refine⟨hk.off,rfl,hk,h.si.wd rfl (hk.off.trans h.off.symm),⟨⟨hid,h.kw.w.m,λx hx=>(by cases hx)⟩,h.kw.g⟩,?_,h.mD,ly,h.la,h.qp,by have:=h.pl;show c.pos<=_;omega,λi hi=>p_ _ _ (h.qq i hi)⟩;have hp:=h.kZ;exact⟨hp.it,hp.j7,hp.le,hp.hn,hp.held,hp.room,hp.out,hp.l0,hp.aw,hp.st,hp.f0,by have:=hp.f1;show c.s.fW<=_;omega⟩
def CA.XQ(h:CA cf kc n j AL tr xs hd RS RK c){k':cW}{t:Option cM}{Am:Nat}(hk:KD n Am (nJ (j+1)) AL t k'.d)(ly:(Am:Int)<=c.s.k.aw):CD n (j+1) AL t Am xs none k'.d.R RK (c.j8 (k'.fw RK)):=by
 refine⟨rfl,hk,⟨false,?_⟩,λx hx=>h.kw.w.m x hx,λt' ht=>?_⟩
 ·exact h.si.wd (d':={dz [] RK k'.d with R:=RK,off:=false}) rfl h.off.symm
 rcases ht with rfl|⟨x,hx,_⟩
 ·exact⟨h.mD,ly,h.nx.2.2⟩
 cases hx
def CB.j8(h:CB cf kc n j AL xs c){k':cW}{fx:List cM}(hs:jH k' (nJ (j+1)))(gR:k'.ts.length=n)(ed:k'.d.ops<=250*(j+2))(hA:fx.length<=j+1):CB cf kc n (j+1) fx xs (c.j8 k'):=by
 have hm:=h.mono;have hw:=hm.wt;exact⟨hs.d,ed,hA,hs.g,hs.rows,hs.len,gR,hm.kg,hm.run,hm.xl,hm.pl,hm.mX,⟨hw.AM,hw.cap,hw.wk,hw.cN,hw.it,hw.j7,hw.room,hw.out,hw.held,hw.f0,hw.f1⟩,hm.eQ,hm.mx,hm.late,hm.dr,hm.ids,hm.q,hm.ql,hm.pos,hm.last,hm.due,hm.now,hm.dl,hm.dw⟩
def aRu(k:cW)(t:cM):(k.gK t).1.ts.length=k.ts.length:=by
 unfold cW.gK;split
 ·rfl
 split
 ·rfl
 simp only;split
 ·exact um _ _
 rfl
def fg.gK(h:fg cf kc n j AL c)(hc:CC cf kc n)(hj:j<=190){t:cM}(hm:eG t=true)(mq:∀x∈t.changes,iq n x=true):
  (∃k',c.src.gK t=(k',((AL.length:Int)+1,0))/\fg cf kc n (j+1) (AL++[o7 t AL.length]) (c.j8 k')) \/
  (∃k',c.src.gK t=(k',(0,8))/\oV cf kc n (j+1) AL (c.j8 k')) \/
  (c.src.gK t=(c.src,(0,7))/\mM (fO n AL) t.changes=false):=by
 obtain⟨tr,xs,hd,RS,RK,hb,ha⟩:=h;have hw:=aRv (ha.kv.Ea ha.hB) t;have oK:=hb.al;have fj:=hb.ops;have UE:=Ki j;have nD:=(hb.D' hc.n1 hc.n8).add hm;have gR:=aRu c.src t;have gR:(c.src.gK t).1.ts.length=n:=gR.trans hb.l5;rw[ha.X8]at nD gR ⊢
 rcases ha.kv.add (by omega) hm mq with ⟨k',e,hk,_,ho⟩|⟨k',e,ho,hk,_,vW⟩|⟨e,hf⟩
 ·rw[e]at hw
  rw[hw.1]at nD gR ⊢
  have ho:k'.d.ops<=c.s.k.d.ops+2:=ho;refine .inl ⟨_,rfl,tr,xs,hd,_,RK,?_,ha.j8 (hk.mono (by omega)) ha.tl (.inr ⟨_,rfl⟩)⟩;exact hb.j8 (nD.mono (by omega)) gR (by show k'.d.ops<=_;omega) (by rw[zza,yyc];omega)
 ·rw[e]at hw
  rw[hw.1]at nD gR ⊢
  have vW:k'.d.ops<=c.s.k.d.ops+2:=vW;refine .inr (.inl ⟨_,rfl,ho,tr,xs,some (o7 t AL.length),none,_,RK,?_,ha.XQ (hk.mono (by omega)) ha.tl⟩);exact hb.j8 (nD.mono (by omega)) gR (by show k'.d.ops<=_;omega) (by omega)
 rw[e]at hw
 exact .inr (.inr ⟨hw.1,hf⟩)
def bF6(k:cW):k.jb.1.ts=k.ts:=by
 unfold cW.jb;simp only;split<;>rfl
def cKk(k:cW)(aw:Int):(k.iR aw).1.ts=k.ts:=by
 unfold cW.iR;split
 ·rfl
 split
 ·rfl
 have:(if k.image<aw then k.jb else (k,0)).1.ts=k.ts:=by
  split
  ·exact bF6 k
  rfl
 simp only;generalize (if k.image<aw then k.jb else (k,0))=r at *
 split
 ·exact this
 exact this
def fg.trim(h:fg cf kc n j AL c)(hc:CC cf kc n)(hj:j<=190):(c.trim.2=0/\fg cf kc n (j+1) AL c.trim.1)\/(c.trim.2≠0/\oV cf kc n (j+1) AL c.trim.1):=by
 obtain⟨tr,xs,hd,RS,RK,hb,ha⟩:=h;obtain⟨aw,hl⟩:=wwi ha.kZ.l0;have hle:aw<=AL.length:=by have:=ha.nx.2.2;omega
 have ly:=ha.tl;have hw:=cKl (ha.kv.Ea ha.hB) (aw:Int);have oK:=hb.al;have fj:=hb.ops;have UE:=Ki j;have nD:=(hb.D' hc.n1 hc.n8).trim (aw:Int);have gR:(c.src.iR aw).1.ts.length=n:=by rw[cKk];exact hb.l5
 unfold cx.trim;rw[hl];rw[ha.X8]at nD gR ⊢
 rcases ha.kv.trim hc.n1 hc.n8 hle with ⟨k',e,hk,_,ho⟩|⟨k',e',e,he,ho,hk,_,vW⟩
 ·rw[e]at hw
  rw[hw.1]at nD gR ⊢
  have ho:k'.d.ops<=c.s.k.d.ops+(AL.length+5):=ho;refine .inl ⟨rfl,max tr aw,xs,hd,_,RK,?_,ha.j8 (hk.mono (by omega)) (by rw[hl];omega) (.inl rfl)⟩;exact hb.j8 (nD.mono (by omega)) gR (by show k'.d.ops<=_;omega) (by omega)
 rw[e]at hw
 rw[hw.1]at nD gR ⊢
 have vW:k'.d.ops<=c.s.k.d.ops+(AL.length+5):=vW;refine .inr ⟨he,ho,max tr aw,xs,none,none,_,RK,?_,ha.XQ (hk.mono (by omega)) (by rw[hl];omega)⟩;exact hb.j8 (nD.mono (by omega)) gR (by show k'.d.ops<=_;omega) (by omega)
end
section
variable {cf:dL} {kc:dW} {n j:Nat} {AL:List cM} {tr:Nat} {xs hd:List cJ} {RS RK:List PF} {c:cx}
def CA.head(h:CA cf kc n j AL tr xs hd RS RK c):c.head=AL.length:=h.kv.head
def CA.ord(h:CA cf kc n j AL tr xs hd RS RK c):(tr:Int)<=c.s.k.aw/\c.s.k.aw<=c.last/\c.last<=c.m.at_/\c.m.at_<=c.pos/\c.pos<=AL.length/\0<=c.s.k.aw:=by
 have:=h.kZ.aw;have:=h.qp;exact⟨h.tl,h.kZ.aw,h.la,by omega,h.pl,h.kZ.l0⟩
def w_{comp:Int}(h:c.en kc comp=true):c.s.k.d.off=false:=by
 unfold cx.en at h;split at h
 ·cases h
 rename_i h1;simpa using h1
def fg.read(h:fg cf kc n j AL c)(he:c.en kc 0=true):∃t,c.src.gN (c.pos+1)= .ok t/\eG t=true/\c.read=({c with q:=c.q++[t],pos:=c.pos+1},⟨0,0,1⟩)/\fg cf kc n (j+1) AL c.read.1:=by
 obtain⟨tr,xs,hd,RS,RK,hb,ha⟩:=h;have ho:=w_ he;unfold cx.en at he;rw[zzb (by rw[ho];decide),zzd rfl,zzw,ha.head]at he
 obtain⟨o1,o2,o3,o4,o5,o6⟩:=ha.ord;obtain⟨p,hp⟩:=wwi hb.pos.1;have eg:p<AL.length:=by omega
 have hr:c.src.gN (c.pos+1)= .ok AL[p]:=by
  rw[hp];exact ha.kv.read (j:=p) (by omega) eg
 have ki:=ha.kv.mn.ok.may _ (zzh eg);have oK:=hb.al;have dQ:c.read=({c with q:=c.q++[AL[p]],pos:=c.pos+1},⟨0,0,1⟩):=by unfold cx.read;rw[hr]
 refine⟨AL[p],hr,ki,dQ,?_⟩;rw[dQ];have hm:=hb.mono;have fM:=ha.mono;have hlen:=ha.kv.mn.len;refine⟨tr,xs,hd,RS,RK,⟨hm.dk,hm.ops,hm.al,hm.sg,hm.st1,hm.st2,hm.l5,hm.kg,hm.run,hm.xl,hm.pl,hm.mX,hm.wt,hm.eQ,hm.mx,hm.late,hm.dr,hm.ids,λt ht=>?_,?_,?_,hm.last,hm.due,hm.now,hm.dl,hm.dw⟩,⟨fM.off,fM.dR,fM.kv,fM.si,fM.kw,fM.kZ,fM.mD,fM.tl,fM.la,?_,?_,λi hi=>?_⟩⟩
 ·rcases zz6.1 ht with ht|ht
  ·exact hm.q t ht
  rw[zz8.1 ht];exact ki
 ·show (c.q++[AL[p]]).length<=kc.cap;rw[zza,yyc];omega
 ·show 0<=c.pos+1/\c.pos+1<=_;omega
 ·show c.pos+1=c.m.at_+((c.q++[AL[p]]).length:Nat);rw[zza,yyc];have:=ha.qp;omega
 ·show c.pos+1<=(AL.length:Int);omega
 show AL[c.m.at_.toNat+i]?=some (c.q++[AL[p]])[i];have hi:i<(c.q++[AL[p]]).length:=hi;rw[zza,yyc]at hi
 have hq:=ha.qp;by_cases h1:i<c.q.length
 ·rw[ww0 h1];exact ha.qq i h1
 have:i=c.q.length:=by omega
 subst this;rw[vvg (zzi _)];simp only[Nat.sub_self,List.getElem_singleton];rw[show c.m.at_.toNat+c.q.length=p by omega,zzc eg]
def bIm(he:c.en kc 1=true):∃t q,c.q=t::q/\0<c.lg kc/\c.m.cI.waits t.kind t.mark=false:=by
 have ho:=w_ he;unfold cx.en at he;rw[zzb (by rw[ho];decide),zzb (by decide),zzd rfl]at he
 cases hq:c.q with
 | nil=>rw[hq]at he;cases he
 | cons t q=>
  rw[hq]at he
  simp only[zzu,zzw,wwn]at he;exact⟨t,q,rfl,he.1,he.2⟩
def fg.take(h:fg cf kc n j AL c)(hc:CC cf kc n)(he:c.en kc 1=true):∃t q m' x,c.q=t::q/\eG t=true/\0<c.lg kc/\c.m.take t=(m',(x,0))/\eH x=true/\x.aw=t.aw/\c.take=(({c with q:=q,m:=m'}:cx).BY x,⟨0,0,2⟩)/\fg cf kc n (j+1) AL c.take.1:=by
 obtain⟨tr,xs,hd,RS,RK,hb,ha⟩:=h;obtain⟨t,q,hq,mr,hw⟩:=bIm he;obtain⟨o1,o2,o3,o4,o5,o6⟩:=ha.ord;have ki:=hb.q t (by rw[hq];exact .head _);have cWk:=hb.mx.mg;have US:=ha.qp;have kh:t.aw=c.m.at_+1:=by
  have h1:=ha.qq 0 (by rw[hq];simp);simp only[hq,vvq]at h1;obtain⟨h2,h3⟩:=zzf.1 h1;have:=ha.kv.mn.ok.aw _ h2;rw[h3]at this
  omega
 obtain⟨e0,hT⟩:=hb.mx.take ki kh hw hc.n8;have hk:=(cJp (t:=t) hb.mx.may hb.mx.cI.len (by rw[hb.mx.cI.nn];exact hc.wR) hb.mx.cI.id ⟨hb.mx.mg,hb.mx.oZ⟩).1;obtain⟨m',x,e,sL⟩:∃m' x e,c.m.take t=(m',(x,e)):=⟨_,_,_,rfl⟩;rw[sL]at e0 hT hk
 simp only at e0 hT hk;subst e0;have mT:c.take=(({c with q:=q,m:=m'}:cx).BY x,⟨0,0,2⟩):=by unfold cx.take;rw[hq];simp only[sL]
 refine⟨t,q,m',x,hq,ki,mr,sL,hT.it.w.may,hT.aw,mT,?_⟩;rw[mT];have hm:=hb.mono;have fM:=ha.mono;have kj:=hT.aw;have Di:=hT.at_;have hlen:=ha.kv.mn.len;have FY:=hb.ql;rw[hq]at US FY
 simp only[zzj]at US FY;have UR:∀y∈q,eG y=true:=λy hy=>hb.q y (by rw[hq];exact .tail _ hy);have vQ:∀m∈c.dr.l,m.1<=(m'.reqs.length:Int):=λm vU=>by have:=hb.ids m vU;omega
 have UT:∀i (hi:i<q.length),AL[m'.at_.toNat+i]?=some q[i]:=λi hi=>by
  have h1:=ha.qq (i+1) (by rw[hq];simp;omega);simp only[hq,vvs]at h1;rw[show m'.at_.toNat+i=c.m.at_.toNat+(i+1) by rw[Di,kh];omega];exact h1
 unfold cx.BY;split
 ·rename_i dO;have hp:=ha.kZ.put hT.it (by rw[kj,kh];omega) hT.nr (by unfold cx.lg at mr;omega);have Dp:=hp.mono (show j<=j+1 by omega);have uR:max c.last x.aw=x.aw:=by rw[kj,kh];omega
  refine⟨tr,xs,hd,RS,RK,⟨hm.dk,hm.ops,hm.al,hm.sg,hm.st1,hm.st2,hm.l5,hm.kg,hm.run,hm.xl,hm.pl,hm.mX,Dp.inv hc,hm.eQ,hT.ok,hT.late.trans hb.late,hm.dr,vQ,UR,by show q.length<=_;omega,hm.pos,?_,hm.due,hm.now,hm.dl,hm.dw⟩,⟨fM.off,fM.dR,fM.kv,fM.si,fM.kw,?_,fM.mD,fM.tl,?_,?_,ha.pl,UT⟩⟩
  ·show 0<=max c.last x.aw/\max c.last x.aw<=_;rw[uR,kj];have:=(my ki).1;omega
  ·show jU kc n _ hd (max c.last x.aw) m'.reqs (j+1);rw[uR];exact Dp
  ·show max c.last x.aw<=m'.at_;rw[uR,Di,kj];exact yyf _
  show c.pos=m'.at_+q.length;rw[Di,kh];omega
 rename_i dO;have Js:x.notes=[]:=wwj.1 (by omega);have hR:m'.reqs=c.m.reqs:=by
  have:=hT.nr;rw[Js]at this
  exact (wwe this).symm
 refine⟨tr,xs,hd,RS,RK,⟨hm.dk,hm.ops,hm.al,hm.sg,hm.st1,hm.st2,hm.l5,hm.kg,hm.run,hm.xl,hm.pl,hm.mX,hm.wt,hm.eQ,hT.ok,hT.late.trans hb.late,hm.dr,vQ,UR,by show q.length<=_;omega,hm.pos,hm.last,hm.due,hm.now,hm.dl,hm.dw⟩,⟨fM.off,fM.dR,fM.kv,fM.si,fM.kw,?_,fM.mD,fM.tl,?_,?_,ha.pl,UT⟩⟩
 ·show jU kc n c.s hd c.last m'.reqs (j+1);rw[hR];exact fM.kZ
 ·show c.last<=m'.at_;rw[Di,kh];omega
 show c.pos=m'.at_+q.length;rw[Di,kh];omega
def CB.s3(h:CB cf kc n j AL xs c){w:dM}{dr:dH}(hw:jW n cf.chunk w)(hd:dr.Ok)(hi:∀m∈dr.l,m.1<=c.m.reqs.length):CB cf kc n j AL xs {c with m:={c.m with cI:=w},dr:=dr}:=
 ⟨h.dk,h.ops,h.al,h.sg,h.st1,h.st2,h.l5,h.kg,h.run,h.xl,h.pl,h.mX,h.wt,h.eQ,⟨h.mx.nH,h.mx.mg,h.mx.oZ,h.mx.may,h.mx.rq,hw⟩,h.late,hd,hi,h.q,h.ql,h.pos,h.last,h.due,h.now,h.dl,h.dw⟩
def CA.s3(h:CA cf kc n j AL tr xs hd RS RK c)(w:dM)(dr:dH):CA cf kc n j AL tr xs hd RS RK {c with m:={c.m with cI:=w},dr:=dr}:=⟨h.off,h.dR,h.kv,h.si,h.kw,h.kZ,h.mD,h.tl,h.la,h.qp,h.pl,h.qq⟩
def fg.s3(h:fg cf kc n j AL c){w:dM}{dr:dH}(hw:jW n cf.chunk w)(hd:dr.Ok)(hi:∀m∈dr.l,m.1<=c.m.reqs.length):fg cf kc n j AL {c with m:={c.m with cI:=w},dr:=dr}:=by
 obtain⟨tr,xs,ny,RS,RK,hb,ha⟩:=h;exact⟨tr,xs,ny,RS,RK,hb.s3 hw hd hi,ha.s3 w dr⟩
def oV.s3(h:oV cf kc n j AL c){w:dM}{dr:dH}(hw:jW n cf.chunk w)(hd:dr.Ok)(hi:∀m∈dr.l,m.1<=c.m.reqs.length):oV cf kc n j AL {c with m:={c.m with cI:=w},dr:=dr}:=by
 obtain⟨ho,tr,xs,t,m,RS,RK,hb,h⟩:=h;exact⟨ho,tr,xs,t,m,RS,RK,hb.s3 hw hd hi,⟨h.dR,h.kd,h.sd,h.kb,h.nx⟩⟩
def fg.self(h:fg cf kc n j AL c):fg cf kc n j AL (c.j8 c.src):=by
 obtain⟨tr,xs,hd,RS,RK,h,a⟩:=h;exact⟨tr,xs,hd,RS,RK,⟨h.dk,h.ops,h.al,h.sg,h.st1,h.st2,h.l5,h.kg,h.run,h.xl,h.pl,h.mX,h.wt,h.eQ,h.mx,h.late,h.dr,h.ids,h.q,h.ql,h.pos,h.last,h.due,h.now,h.dl,h.dw⟩,⟨a.off,a.dR,a.kv,a.si,a.kw,a.kZ,a.mD,a.tl,a.la,a.qp,a.pl,a.qq⟩⟩
def cAz{kind mark:Int}(hk:kind=2\/kind=3)(hm:1<=mark/\mark<=1099511627776):eG ⟨1,kind,[],[],mark⟩=true:=wg.2 ⟨⟨yyf _,show (1:Int)<=1099511627776 by decide⟩,.inr ⟨hk,hm.1,hm.2,rfl,rfl⟩⟩
def fg.mark(h:fg cf kc n j AL c)(hc:CC cf kc n)(hj:j<=190){kind mark:Int}(hk:kind=2\/kind=3)(hm:1<=mark/\mark<=1099511627776):
  (∃k' x,c.src.nE kind mark=(k',((AL.length:Int)+1,0))/\fg cf kc n (j+1) (AL++[x]) (c.j8 k'))\/(∃k',c.src.nE kind mark=(k',(0,8))/\oV cf kc n (j+1) AL (c.j8 k')):=by
 have sL:=cAz hk hm;have e:c.src.nE kind mark=c.src.gK ⟨1,kind,[],[],mark⟩:=by unfold cW.nE;rw[zzd ⟨hk,sL⟩]
 rw[e];have cnk:mI n AL:=by obtain⟨_,_,_,_,_,_,ha⟩:=h;exact ha.kv.mn
 rcases h.gK hc hj sL (λx hx=>by cases hx) with ⟨k',e1,h1⟩|⟨k',e1,h1⟩|⟨_,hf⟩
 ·exact .inl ⟨k',_,e1,h1⟩
 ·exact .inr ⟨k',e1,h1⟩
 exfalso;have:mM (fO n AL) []=true:=by
  unfold mM;rw[zzu,zz5,zz5];exact⟨λx hx=>(by cases hx),λC hC=>zzo (cnk.nH.2 C hC)⟩
 rw[this]at hf
 cases hf
def aRz{C:List Row}(h:nS C)(key m:Int):∀r∈oA C key m,sX r:=λr hr=>by
 unfold oA at hr;exact h.rows r (yy0.1 (yys hr)).1
def fg.snap(h:fg cf kc n j AL c)(hc:CC cf kc n)(hj:j<=190)(he:c.en kc 2=true):
  (∃fx,fg cf kc n (j+1) fx (c.snap cf).1/\(fx=AL\/∃x,fx=AL++[x])/\((c.snap cf).2=⟨0,0,3⟩\/(c.snap cf).2=⟨0,0,4⟩\/(c.snap cf).2=⟨0,0,5⟩))\/(oV cf kc n (j+1) AL (c.snap cf).1/\(c.snap cf).2=⟨8,0,0⟩):=by
 have ho:=w_ he;obtain⟨tr,xs,hd,RS,RK,hb,ha⟩:=id h;have Jg:=hb.TE hc;unfold cx.en at he;rw[zzb (by rw[ho];decide),zzb (by decide),zzb (by decide),zzd rfl]at he
 have rM:=hb.mx.cI;have mQ:=ha.head;have oK:=hb.al;unfold cx.snap fI.step;rw[zzb (by rw[show (c.l4 cf).m=c.m from rfl,he];decide)];rw[show (c.l4 cf).m=c.m from rfl];have gg:=rM.st;by_cases h0:c.m.cI.state=0
 ·rw[zzd h0];have fj:je c.m.reqs≠[]:=by
   unfold D3 at he;rw[zzw]at he
   rcases he with e|e|e
   ·omega
   ·omega
   exact e.2
  obtain⟨r,hr,JE,cXd⟩:=Jg.nI fj;obtain⟨Ds,uT⟩:=Jg.row;have vM:(mC c.dr c.m.reqs).next.1.Ok:=Ds.next;have mu:∀m∈(mC c.dr c.m.reqs).next.1.l,m.1<=c.m.reqs.length:=by rw[cB8];exact uT
  have hr:vg c.m.reqs (mC c.dr c.m.reqs).next.2=some r:=hr;have FZ:=hb.mx.rq r JE;unfold fI.DL fI.we fI.DM;rw[show (c.l4 cf).m=c.m from rfl,show (c.l4 cf).d=c.dr from rfl,show (c.l4 cf).k=c.src from rfl,hr];simp only;have hh:cO c.src.g.bI=AL.length:=mQ;rw[hh];rcases h.mark hc hj (kind:=2) (mark:=(AL.length:Int)+1) (.inl rfl) (by omega) with ⟨k',x,e,h1⟩|⟨k',e,h1⟩
  ·rw[e];simp only;rw[zzb (by decide)];exact .inl ⟨_,h1.s3 (rM.tY FZ.1) vM mu,.inr ⟨x,rfl⟩,.inl rfl⟩
  rw[e];simp only;rw[zzd (by decide)];exact .inr ⟨h1.s3 rM vM mu,rfl⟩
 rw[zzb h0];by_cases h1:c.m.cI.state=1
 ·rw[zzd h1];have cwv:∀r∈c.src.wY c.m.cI.table c.m.cI.after cf.chunk,sX r:=by
   unfold cW.wY;have ht:=(rM.live h0).1;exact aRz (hb.st1 _ (Ec (by show 0<=c.m.cI.table/\c.m.cI.table<(c.k.ts.length:Int);rw[hb.l5];exact ht))) _ _
  exact .inl ⟨AL,(h.self.s3 (rM.fill hc.wR cwv) hb.dr hb.ids).mono,.inl rfl,.inr (.inl rfl)⟩
 rw[zzb h1];unfold fI.Dc;rw[show (c.l4 cf).m=c.m from rfl,show (c.l4 cf).k=c.src from rfl];simp only;have FU:=(rM.live h0).2.2;rcases h.mark hc hj (kind:=3) (mark:=c.m.cI.mark) (.inr rfl) FU with ⟨k',x,e,h2⟩|⟨k',e,h2⟩
 ·rw[e];simp only;rw[zzb (by decide)];exact .inl ⟨_,h2.s3 rM.shut hb.dr hb.ids,.inr ⟨x,rfl⟩,.inr (.inr rfl)⟩
 rw[e];simp only;rw[zzd (by decide)];exact .inr ⟨h2.s3 rM hb.dr hb.ids,rfl⟩
def fg.tell(h:fg cf kc n j AL c)(hc:CC cf kc n)(he:c.en kc 4=true):fg cf kc n (j+1) AL (c.tell cf).1/\((c.m.at_<=c.last/\(c.tell cf).2=⟨0,0,9⟩)\/(c.last<c.m.at_/\0<c.lg kc/\eH ⟨c.m.at_,[],[]⟩=true/\(c.tell cf).2=⟨0,0,8⟩)):=by
 have ho:=w_ he;obtain⟨tr,xs,hd,RS,RK,hb,ha⟩:=h;unfold cx.en at he;rw[zzb (by rw[ho];decide),zzb (by decide),zzb (by decide),zzb (by decide),zzb (by decide),zzd rfl,zzw]at he
 have hm:=hb.mono;have fM:=ha.mono;have FE:0<=jE cf.every c.now/\jE cf.every c.now<=4503599627370496:=by
  have:=hc.e1;have:=hc.e2;have:=hb.now;unfold jE;omega
 have hla:=hb.last;have iu:=hb.mx.oZ;unfold cx.tell;split
 ·rename_i hl;exact⟨⟨tr,xs,hd,RS,RK,⟨hm.dk,hm.ops,hm.al,hm.sg,hm.st1,hm.st2,hm.l5,hm.kg,hm.run,hm.xl,hm.pl,hm.mX,hm.wt,hm.eQ,hm.mx,hm.late,hm.dr,hm.ids,hm.q,hm.ql,hm.pos,hm.last,FE,hm.now,hm.dl,hm.dw⟩,⟨fM.off,fM.dR,fM.kv,fM.si,fM.kw,fM.kZ,fM.mD,fM.tl,fM.la,fM.qp,fM.pl,fM.qq⟩⟩,.inl ⟨hl,rfl⟩⟩
 rename_i hl;have mr:0<c.lg kc:=by omega
 have FQ:uf n ⟨c.m.at_,[],[]⟩:=uf.empty (by omega);have hp:=ha.kZ.put FQ (R':=c.m.reqs) (by show c.last<c.m.at_;omega) rfl (by unfold cx.lg at mr;omega);have Dp:=hp.mono (show j<=j+1 by omega);exact⟨⟨tr,xs,hd,RS,RK,⟨hm.dk,hm.ops,hm.al,hm.sg,hm.st1,hm.st2,hm.l5,hm.kg,hm.run,hm.xl,hm.pl,hm.mX,Dp.inv hc,hm.eQ,hm.mx,hm.late,hm.dr,hm.ids,hm.q,hm.ql,hm.pos,⟨hb.mx.mg,iu⟩,FE,hm.now,hm.dl,hm.dw⟩,⟨fM.off,fM.dR,fM.kv,fM.si,fM.kw,Dp,fM.mD,fM.tl,yyf _,fM.qp,fM.pl,fM.qq⟩⟩,.inr ⟨by omega,mr,FQ.w.may,rfl⟩⟩
end
def Kl{n:Nat}{b:Int}:∀(A:List iC) {L L':List Rq},ga L A=some L'->(∀r∈L,r.table<(n:Int)/\r.at_<=b)->(∀m∈A,jx m b=true/\(m.kind≠2->m.table<(n:Int)))->∀r∈L',r.table<(n:Int)/\r.at_<=b
 | [],L,L',h,hL,_=>by cases h;exact hL
 | m::A,L,L',h,hL,hA=>by
  unfold ga at h;cases hn:oR L m with
  | none=>rw[hn]at h;cases h
  | some L2=>
   rw[hn]at h
   refine Kl A h (λr hr=>?_) λy hy=>hA y (.tail _ hy);obtain⟨Dh,uQ⟩:=hA m (.head _);unfold oR at hn;split at hn
   ·obtain⟨r0,h0,e1,e2⟩:=Sj hn r hr;rw[e1,e2];exact hL r0 h0
   rename_i hk;split at hn
   ·rename_i L3 h3;split at hn
    ·cases hn;obtain⟨e,_⟩:=RH h3;rw[e]at hr
     rcases zz6.1 hr with hr|hr
     ·exact hL r hr
     rw[zz8.1 hr];obtain⟨_,_,h5⟩:=DN.1 Dh;refine⟨uQ hk,?_⟩;rcases h5 with h5|h5
     ·exact h5.2.2.2.2.2.2.1
     exact absurd h5.1 hk
    cases hn
   cases hn
def bwn{k:cV}{N:Nat}(hg:ij k.g N)(hd:k.d.Ok N)(x:cJ):ij (k.fX x).1.g (N+400000)/\(k.fX x).1.d.Ok (N+400000):=by
 rcases bwk k x with ⟨e1,e2⟩|⟨hm,⟨e1,e2⟩|⟨n,e1,e2⟩⟩
 ·rw[e1,e2];exact⟨hg.mono (by omega),hd.mono (by omega)⟩
 ·have hb:=(Cx hm).2;rw[e1,e2];exact⟨(RU hg _).mono (by omega),(RV hd _).mono (by omega)⟩
 have hb:=(Cx hm).2;rw[e1,e2];exact⟨(cJv hg _ _).mono (by omega),(cJ1 hd _ _).mono (by omega)⟩
section
variable {cf:dL} {kc:dW} {n j:Nat} {AL:List cM} {tr:Nat} {xs hd:List cJ} {RS RK:List PF} {c:cx}
def jU.notes{s:fA}{last:Int}{R:List Rq}{f:Nat}(h:jU kc n s hd last R f):∀m∈s.held.notes,jx m s.held.aw=true/\(m.kind≠2->m.table<(n:Int)):=λm hm=>by
 have h1:=fQ.append.1 h.j7;have hJ:=DJ (n:=n) (l:=hd) (λx hx=>(h.it x (yyo _ hx)).w) h1.1;rw[h.held]at hm ⊢
 refine⟨hJ.Km m hm,λhk=>?_⟩;rw[VK]at hm
 unfold ko at hm;obtain⟨l,hl,hm⟩:=wwg.1 hm;obtain⟨x,hx,rfl⟩:=zzx.1 hl;exact (h.it x (yyo _ hx)).nt m hm hk
def BZ{k:cV}{a:List (List Cell)}{L:List Rq}{l:Int}(h:k.tr=(a,L,l)):k.ts=a/\k.reqs=L/\k.aw=l:=by
 unfold cV.tr at h;simp only[wwl]at h;exact h
def fg.write(h:fg cf kc n j AL c)(hc:CC cf kc n)(hj:j<=190)(he:c.en kc 3=true):
  (fg cf kc n (j+1) AL (c.write kc).1/\((c.write kc).2=⟨0,0,6⟩\/(c.write kc).2=⟨0,0,7⟩))\/(oV cf kc n (j+1) AL (c.write kc).1/\(c.write kc).2=⟨8,0,0⟩):=by
 have ho:=w_ he;obtain⟨tr,xs,hd,RS,RK,hb,ha⟩:=h;unfold cx.en at he;rw[zzb (by rw[ho];decide),zzb (by decide),zzb (by decide),zzb (by decide),zzd rfl]at he
 obtain⟨ny,hP,dO,hk,_,_⟩:=ha.kZ.hold hc.b1 he;obtain⟨hm,hl,L,xw,C3⟩:=hP.fits hc dO;have UF:=hP.notes;have gg:c.s.step kc c.now c.draw=(c.s.hold kc.cN).hand kc c.now c.draw:=by unfold fA.step;rw[zzd he]
 have FX:=ha.ord;have hM:=hb.mono;have hA:=ha.mono;have kj:=hb.xl;have fj:=hb.ops;have xK:nJ j+400000=nJ (j+1):=by show 400000*(j+1)+400000=400000*(j+1+1);omega
 have f_:=bwn hb.kg hb.dk (c.s.hold kc.cN).held;rw[xK]at f_
 have heq:=ha.cH4;have Bs:=bwo ha.kw (c.s.hold kc.cN).held;have lN:=bwl ha.si (L:=L) hb.dk.pM ha.off (by omega) hb.mX hm (λdj=>by have h1:=xw (by rw[hk];exact dj);rw[hk]at h1;exact h1.1);have I8:(c.s.hold kc.cN).k.fX (c.s.hold kc.cN).held=(((c.kK RK).fX (c.s.hold kc.cN).held).1.fw RS,((c.kK RK).fX (c.s.hold kc.cN).held).2):=by
  rw[hk]
  conv=>lhs;rw[heq]
  exact Bs.1
 have iP:c.s.k.fX (c.s.hold kc.cN).held=(((c.kK RK).fX (c.s.hold kc.cN).held).1.fw RS,((c.kK RK).fX (c.s.hold kc.cN).held).2):=by rw[<- hk];exact I8
 rw[iP]at f_
 have vR:=Bs.2;generalize (c.kK RK).fX (c.s.hold kc.cN).held=ke at *
 obtain⟨k',e⟩:=ke;simp only at f_ vR lN I8;have FT:(c.s.hold kc.cN).k.reqs=c.s.k.reqs/\(c.s.hold kc.cN).k.aw=c.s.k.aw:=by rw[hk];exact⟨rfl,rfl⟩
 rw[FT.1,FT.2]at xw C3
 have nB:iW 0 ny<=c.last:=by
  have h1:=fQ.append.1 hP.j7;have h2:=hP.le;rw[J8]at h2
  have:=h1.2.last;omega
 have ed:k'.d.ops<=250*(j+2):=by have:=lN.ops;have h2:(c.kK RK).d.ops=c.s.k.d.ops:=rfl;omega
 have eg:k'.plan.length<=1024:=yyw lN.pl hb.pl;have Bl:∀f∈k'.plan,jm f=true:=λf hf=>hb.mX f (lN.plan f hf);have p6:(dz RS [] k'.d).R=RS++k'.d.R:=by show RS++k'.d.R++[]=_;rw[zz2]
 have cXl:∀{t:Tr},t=c.s.k.tr->t.2.1=c.s.k.reqs/\t.2.2=c.s.k.aw:=λh=>by rw[h];exact⟨rfl,rfl⟩
 have kf:(k'.tr=c.s.k.tr/\k'.reqs=c.s.k.reqs/\k'.aw=c.s.k.aw)\/(c.s.k.aw<(c.s.hold kc.cN).held.aw/\k'.tr=((fF c.s.k.ts (c.s.hold kc.cN).held.ops).1,L,(c.s.hold kc.cN).held.aw)/\k'.reqs=L/\k'.aw=(c.s.hold kc.cN).held.aw)->(∀r∈k'.reqs,r.table<(n:Int)/\r.at_<=k'.aw)/\(tr:Int)<=k'.aw/\k'.aw<=c.last:=by
  rintro (⟨_,h2,h3⟩|⟨h1,_,h2,h3⟩)
  ·rw[h2,h3];exact⟨ha.mD,ha.tl,ha.kZ.aw⟩
  rw[h2,h3];obtain⟨_,_,hn⟩:=CU (xw h1).1;refine⟨Kl _ hn (λr hr=>?_) UF,by omega,by rw[hl];exact nB⟩;have:=ha.mD r hr;exact⟨this.1,by omega⟩
 unfold cx.write;rw[gg];unfold fA.hand;rw[I8];simp only;have cxb:0<=sr c.now+rZ ((c.s.hold kc.cN).fW+1) kc.b kc.m kc.j c.draw/\sr c.now+rZ ((c.s.hold kc.cN).fW+1) kc.b kc.m kc.j c.draw<=4503599627370496:=by
  have h1:=Sl c.now;have h2:=awd (k:=(c.s.hold kc.cN).fW+1) (b:=kc.b) (m:=kc.m) (j:=kc.j) (draw:=c.draw);omega
 rcases lN.res with ⟨rfl,r1,⟨dq,r2,r3⟩,r4⟩|⟨rfl,r1,⟨dq,r2,r3⟩,r4⟩|⟨rfl,r1,r2,⟨m',r3,r4⟩,r5⟩
 ·rw[zzd rfl];refine .inl ⟨?_,.inl ?_⟩
  ·have Dd:(k'.tr=c.s.k.tr/\k'.reqs=c.s.k.reqs/\k'.aw=c.s.k.aw)\/(c.s.k.aw<(c.s.hold kc.cN).held.aw/\k'.tr=((fF c.s.k.ts (c.s.hold kc.cN).held.ops).1,L,(c.s.hold kc.cN).held.aw)/\k'.reqs=L/\k'.aw=(c.s.hold kc.cN).held.aw):=by
    rcases r4 with ⟨a,b⟩|⟨a,b⟩
    ·have:=BZ b;exact .inr ⟨a,b,this.2.1,this.2.2⟩
    have h2:k'.tr=(c.s.k.ts,c.s.k.reqs,c.s.k.aw):=b;have:=BZ h2;exact .inl ⟨b,this.2.1,this.2.2⟩
   obtain⟨q1,q2,q3⟩:=kf Dd;have Ur:k'.aw=iW 0 ny/\ga k'.reqs (ko (c.s.hold kc.cN).L)=some c.m.reqs:=by
    rcases Dd with ⟨_,a,b⟩|⟨a,_,b,d⟩
    ·have Bk:¬c.s.k.aw<(c.s.hold kc.cN).held.aw:=by
      rcases r4 with ⟨a2,b2⟩|⟨a2,_⟩
      ·intro _;have:=(BZ b2).2.2;have a2:c.s.k.aw<(c.s.hold kc.cN).held.aw:=a2;omega
      exact a2
     obtain⟨e1,e2⟩:=C3 Bk;rw[a,b];exact⟨e1,e2⟩
    rw[b,d,hl];exact⟨rfl,(xw a).2⟩
   have C4:=(hP.done (k':=k'.fw RS) Ur.1 Ur.2).mono (show j<=j+1 by omega);refine⟨tr,dq,[],RS,k'.d.R,⟨f_.2,ed,hM.al,hM.sg,hM.st1,hM.st2,hM.l5,f_.1,r2.run,by omega,eg,Bl,C4.inv hc,⟨yyf _,show (0:Int)<=4503599627370496 by decide⟩,hM.mx,hM.late,hM.dr,hM.ids,hM.q,hM.ql,hM.pos,hM.last,hM.due,hM.now,hM.dl,hM.dw⟩,⟨r1,p6,?_,r2,vR,C4,q1,q2,hA.la,hA.qp,hA.pl,hA.qq⟩⟩;exact hA.kv.wd (d':={dz RS [] k'.d with R:=RS}) rfl r1 f_.2.pM f_.2.rz
  rfl
 ·rw[zzb (by decide),zzd rfl];refine .inl ⟨?_,.inr ?_⟩
  ·have Dd:(k'.tr=c.s.k.tr/\k'.reqs=c.s.k.reqs/\k'.aw=c.s.k.aw)\/(c.s.k.aw<(c.s.hold kc.cN).held.aw/\k'.tr=((fF c.s.k.ts (c.s.hold kc.cN).held.ops).1,L,(c.s.hold kc.cN).held.aw)/\k'.reqs=L/\k'.aw=(c.s.hold kc.cN).held.aw):=by
    rcases r4 with ⟨a,b⟩|b
    ·have:=BZ b;exact .inr ⟨a,b,this.2.1,this.2.2⟩
    have h2:k'.tr=(c.s.k.ts,c.s.k.reqs,c.s.k.aw):=b;have:=BZ h2;exact .inl ⟨b,this.2.1,this.2.2⟩
   obtain⟨q1,q2,q3⟩:=kf Dd;have C4:=hP.again dO (k':=k'.fw RS) (by
    rcases Dd with ⟨_,a,b⟩|⟨a,_,b,d⟩
    ·exact .inl ⟨b.trans FT.2.symm,a.trans FT.1.symm⟩
    exact .inr ⟨d.trans hl,by show ga k'.reqs _=_;rw[b];exact (xw a).2⟩) (sr c.now+rZ ((c.s.hold kc.cN).fW+1) kc.b kc.m kc.j c.draw)
   refine⟨tr,dq,ny,RS,k'.d.R,⟨f_.2,ed,hM.al,hM.sg,hM.st1,hM.st2,hM.l5,f_.1,r2.run,by omega,eg,Bl,C4.inv hc,cxb,hM.mx,hM.late,hM.dr,hM.ids,hM.q,hM.ql,hM.pos,hM.last,hM.due,hM.now,?_,?_⟩,⟨r1,p6,?_,r2,vR,C4,q1,q2,hA.la,hA.qp,hA.pl,hA.qq⟩⟩
   ·show (if (7:Int)=7 then c.dD.tail else c.dD).length<=1024;have:=hM.dl;rw[zzd rfl,List.length_tail];omega
   ·show ∀x∈(if (7:Int)=7 then c.dD.tail else c.dD),_;rw[zzd rfl];exact λx hx=>hM.dw x (List.mem_of_mem_tail hx)
   exact hA.kv.wd (d':={dz RS [] k'.d with R:=RS}) rfl r1 f_.2.pM f_.2.rz
  rfl
 rw[zzb (by decide),zzb (by decide)];have h2:k'.tr=(c.s.k.ts,c.s.k.reqs,c.s.k.aw):=r5;have h3:=BZ h2;obtain⟨q1,q2,q3⟩:=kf (.inl ⟨r5,h3.2.1,h3.2.2⟩);have hw:=hP.inv hc;refine .inr ⟨⟨r1,tr,xs,none,m',RS,k'.d.R,⟨f_.2,ed,hM.al,hM.sg,hM.st1,hM.st2,hM.l5,f_.1,?_,hM.xl,eg,Bl,⟨hw.AM,hw.cap,hw.wk,hw.cN,hw.it,hw.j7,hw.room,hw.out,hw.held,hw.f0,by have:=hw.f1;show (c.s.hold kc.cN).fW<=_;omega⟩,?_,hM.mx,hM.late,hM.dr,hM.ids,hM.q,hM.ql,hM.pos,hM.last,hM.due,hM.now,hM.dl,hM.dw⟩,⟨p6,?_,⟨true,?_⟩,λx hx=>vR.w.m x hx,λt' ht=>?_⟩⟩,rfl⟩
 ·exact r3.run
 ·show 0<=(c.s.hold kc.cN).eQ/\(c.s.hold kc.cN).eQ<=_;have:(c.s.hold kc.cN).eQ=c.s.eQ:=by unfold fA.hold;split<;>rfl
  rw[this];exact hb.eQ
 ·exact (hA.kv.dead).wd (d':={dz RS [] k'.d with R:=RS}) rfl f_.2.pM f_.2.rz
 ·exact r3.wd (d':={dz RS [] k'.d with R:=k'.d.R,off:=true}) rfl r1.symm
 have Ds:(k'.fw RS).tr=c.s.k.tr:=r5;rcases ht with rfl|⟨x,hx,hs⟩
 ·exact⟨q1,q2,by show k'.aw<=_;omega⟩
 obtain⟨rfl,dj⟩:=r4 x hx;have dj:c.s.k.aw<(c.s.hold kc.cN).held.aw:=dj;rw[Ds,K9 (t:=c.s.k.tr) (xw dj).1 dj]at hs
 cases hs;obtain⟨_,_,hn⟩:=CU (xw dj).1;refine⟨Kl _ hn (λr hr=>?_) UF,by show (tr:Int)<=(c.s.hold kc.cN).held.aw;omega,by show (c.s.hold kc.cN).held.aw<=_;rw[hl];omega⟩;have:=ha.mD r hr;exact⟨this.1,by show r.at_<=(c.s.hold kc.cN).held.aw;omega⟩
def CS.fault(h:CS cf kc n j AL c)(f:fZ):CS cf kc n (j+1) AL (c.fault f).1:=by
 unfold cx.fault;split
 ·exact h.mono
 rename_i hf;split
 ·exact h.mono
 rename_i hl;have hf:jm f=true:=by cases hq:jm f with
  | true=>rfl
  | false=>exact absurd hq hf
 have hpm:∀g∈c.s.k.plan++[f],(∀g∈c.s.k.plan,jm g=true)->jm g=true:=λg hg hp=>by
  rcases zz6.1 hg with hg|hg
  ·exact hp g hg
  rw[zz8.1 hg];exact hf
 have eg:(c.s.k.plan++[f]).length<=1024:=by rw[zza,yyc];omega
 have hB:∀xs,CB cf kc n j AL xs c->CB cf kc n (j+1) AL xs {c with s:={c.s with k:={c.s.k with plan:=c.s.k.plan++[f]}}}:=λxs hb=>by
  have h:=hb.mono;have hw:=h.wt;exact⟨h.dk,h.ops,h.al,h.sg,h.st1,h.st2,h.l5,h.kg,h.run,h.xl,eg,λg hg=>hpm g hg h.mX,⟨hw.AM,hw.cap,hw.wk,hw.cN,hw.it,hw.j7,hw.room,hw.out,hw.held,hw.f0,hw.f1⟩,h.eQ,h.mx,h.late,h.dr,h.ids,h.q,h.ql,h.pos,h.last,h.due,h.now,h.dl,h.dw⟩
 rcases h with ⟨tr,xs,hd,RS,RK,hb,a⟩|⟨ho,tr,xs,t,m,RS,RK,hb,a⟩
 ·have a:=a.mono;have hp:=a.kZ;exact .inl ⟨tr,xs,hd,RS,RK,hB xs hb,⟨a.off,a.dR,a.kv,a.si.plan _,⟨a.kw.w,a.kw.g⟩,⟨hp.it,hp.j7,hp.le,hp.hn,hp.held,hp.room,hp.out,hp.l0,hp.aw,hp.st,hp.f0,hp.f1⟩,a.mD,a.tl,a.la,a.qp,a.pl,a.qq⟩⟩
 have a:=a.mono;obtain⟨o,Dx⟩:=a.sd;exact .inr ⟨ho,tr,xs,t,m,RS,RK,hB xs hb,⟨a.dR,a.kd,⟨o,Dx.plan _⟩,a.kb,a.nx⟩⟩
def CS.Ws(h:CS cf kc n j AL c){now:Int}{dw:Ω}(hn:0<=now/\now<=1125899906842624)(hl:dw.length<=1024)(hd:∀x∈dw,0<=x/\x<=1125899906842624):CS cf kc n (j+1) AL {c with now:=now,dD:=dw}:=by
 have hB:∀xs,CB cf kc n j AL xs c->CB cf kc n (j+1) AL xs {c with now:=now,dD:=dw}:=λxs hb=>by
  have h:=hb.mono;exact⟨h.dk,h.ops,h.al,h.sg,h.st1,h.st2,h.l5,h.kg,h.run,h.xl,h.pl,h.mX,h.wt,h.eQ,h.mx,h.late,h.dr,h.ids,h.q,h.ql,h.pos,h.last,h.due,hn,hl,hd⟩
 rcases h with ⟨tr,xs,hd,RS,RK,hb,a⟩|⟨ho,tr,xs,t,m,RS,RK,hb,a⟩
 ·have a:=a.mono;exact .inl ⟨tr,xs,hd,RS,RK,hB xs hb,⟨a.off,a.dR,a.kv,a.si,a.kw,a.kZ,a.mD,a.tl,a.la,a.qp,a.pl,a.qq⟩⟩
 have a:=a.mono;exact .inr ⟨ho,tr,xs,t,m,RS,RK,hB xs hb,⟨a.dR,a.kd,a.sd,a.kb,a.nx⟩⟩
def CS.mJ(h:CS cf kc n j AL c):∃xs,CB cf kc n j AL xs c:=by
 rcases h with ⟨tr,xs,hd,RS,RK,hb,_⟩|⟨_,tr,xs,t,m,RS,RK,hb,_⟩
 ·exact⟨xs,hb⟩
 exact⟨xs,hb⟩
def CS.tick(h:CS cf kc n j AL c)(x:Int):CS cf kc n (j+1) AL (c.tick x).1:=by
 obtain⟨xs,hb⟩:=h.mJ;have h1:=hb.now;unfold cx.tick;split
 ·exact h.mono
 split
 ·exact h.mono
 exact h.Ws (now:=c.now+x) (dw:=c.dD) (by omega) hb.dl hb.dw
def CS.drawn(h:CS cf kc n j AL c)(x:Int):CS cf kc n (j+1) AL (c.drawn x).1:=by
 obtain⟨xs,hb⟩:=h.mJ;unfold cx.drawn;split
 ·exact h.mono
 split
 ·exact h.mono
 refine h.Ws (now:=c.now) (dw:=c.dD++[x]) hb.now (by rw[zza,yyc];omega) λy hy=>?_;rcases zz6.1 hy with hy|hy
 ·exact hb.dw y hy
 rw[zz8.1 hy];omega
def CS.arm(h:CS cf kc n j AL c)(x:Int):CS cf kc n (j+1) AL (c.AI x).1:=by
 unfold cx.AI;split
 ·exact h.mono
 rename_i hx;have tC:0<=(c.s.k.d.rA x).arm:=by show 0<=max x 0;omega
 have mo:(c.s.k.d.rA x).arm<=9223372036854775807:=by show max x 0<=_;omega
 have hB:∀xs,CB cf kc n j AL xs c->CB cf kc n (j+1) AL xs {c with s:={c.s with k:={c.s.k with d:=c.s.k.d.rA x}}}:=λxs hb=>by
  have h:=hb.mono;have hw:=h.wt;exact⟨h.dk.wd rfl tC mo,h.ops,h.al,h.sg,h.st1,h.st2,h.l5,h.kg,h.run,h.xl,h.pl,h.mX,⟨hw.AM,hw.cap,hw.wk,hw.cN,hw.it,hw.j7,hw.room,hw.out,hw.held,hw.f0,hw.f1⟩,h.eQ,h.mx,h.late,h.dr,h.ids,h.q,h.ql,h.pos,h.last,h.due,h.now,h.dl,h.dw⟩
 rcases h with ⟨tr,xs,hd,RS,RK,hb,a⟩|⟨ho,tr,xs,t,m,RS,RK,hb,a⟩
 ·have a:=a.mono;have hp:=a.kZ;exact .inl ⟨tr,xs,hd,RS,RK,hB xs hb,⟨a.off,a.dR,a.kv.wd (d':={c.s.k.d.rA x with R:=RS}) rfl a.off tC mo,a.si.wd (d':={c.s.k.d.rA x with R:=RK}) rfl rfl,⟨a.kw.w,a.kw.g⟩,⟨hp.it,hp.j7,hp.le,hp.hn,hp.held,hp.room,hp.out,hp.l0,hp.aw,hp.st,hp.f0,hp.f1⟩,a.mD,a.tl,a.la,a.qp,a.pl,a.qq⟩⟩
 have a:=a.mono;obtain⟨o,Dx⟩:=a.sd;exact .inr ⟨ho,tr,xs,t,m,RS,RK,hB xs hb,⟨a.dR,a.kd.wd (d':={c.s.k.d.rA x with R:=RS}) rfl tC mo,⟨o,Dx.wd (d':={c.s.k.d.rA x with R:=RK,off:=o}) rfl rfl⟩,a.kb,a.nx⟩⟩
end
def cDe{d d':DS}{n size:Int}{k:cV}(h:kI d n size=(d',.ok k)):ff d 8192 size=(d',.ok k.g)/\k.d=d'/\k.plan=[]:=by
 unfold kI at h;split at h
 ·cases h
 split at h
 ·cases h
 rename_i g hg;split at h
 ·cases h
 split at h
 ·cases h
 cases h;exact⟨hg,rfl,rfl⟩
def jf.base{n:Nat}{k:cV}{xs:List cJ}(h:jf n k xs none)(ho:k.d.off=false):k.g.base=8192:=by
 rcases h.st with ⟨_,h⟩|⟨_,h⟩|⟨h,_⟩
 ·exact h
 ·exact h
 rw[ho]at h;cases h
def bwx(A B:List PF)(keep:Ω):e_ (A++B) keep=e_ A keep++e_ B (keep.drop A.length):=by
 have:=Sw A B [] keep;rw[zz2]at this
 rw[this,show e_ [] (keep.drop (A.length+B.length))=[] from rfl,zz2]
section
variable {cf:dL} {kc:dW} {n j:Nat} {AL:List cM} {tr:Nat} {xs hd:List cJ} {RS RK:List PF} {c:cx}
def fg.pP(h:fg cf kc n j AL c)(hc:CC cf kc n)(hj:j<=190)(s:g_):
  (∃x,fg cf kc n (j+1) (AL++[x]) (c.pP s).1/\(c.pP s).2=⟨0,(AL.length:Int)+1,0⟩)\/(oV cf kc n (j+1) AL (c.pP s).1/\(c.pP s).2=⟨8,0,0⟩)\/(c.src.oD s.sg s.l=(c.src,(0,1))\/c.src.oD s.sg s.l=(c.src,(0,7))):=by
 have gR:c.src.ts.length=n:=by obtain⟨_,_,_,_,_,hb,_⟩:=h;exact hb.l5
 unfold cx.pP cW.oD;split
 ·rename_i hm;have mq:∀x∈s.l,iq n x=true:=λx hx=>by
   have h1:=Ac.1 ((my hm.1).2.2.2.2.2.1 x hx);have h2:=hm.2 x hx;exact zzo ⟨h1.1,by omega⟩
  rcases h.gK hc hj (t:=⟨1,1,s.l,s.sg,0⟩) hm.1 mq with ⟨k',e,h1⟩|⟨k',e,h1⟩|⟨e,_⟩
  ·rw[e];exact .inl ⟨_,h1,rfl⟩
  ·rw[e];exact .inr (.inl ⟨h1,rfl⟩)
  exact .inr (.inr (.inr e))
 exact .inr (.inr (.inl rfl))
def fg.start(hc:CC cf kc n){k1:cW}{k2:cV}{now:Int}(Dl:0<=now/\now<=1125899906842624)(hk:KV n tr (nJ j) AL k1)(hs:jf n k2 xs none)(ho:k2.d.off=false)(vR:se k1.d.R k2)(eg:k2.plan=[])(hg:ij k2.g (nJ j))(hd:(dz k1.d.R [] k2.d).Ok (nJ j))(ed:k2.d.ops<=250*(j+1))(oK:AL.length<=j)(kj:xs.length<=j)(hj:j<=200)
  (lP:∀r∈k2.reqs,r.table<(n:Int)/\r.at_<=k2.aw) (h0:(tr:Int)<=k2.aw) (h1:k2.aw<=AL.length) (B:List PF):fg cf kc n j AL (cx.start cf (k1.fw B) (k2.fw k1.d.R) now):=by
 have hT:=Xn hs.run (by omega);have pw:0<=k2.aw:=hT.l0;have vS:k2.aw<=1099511627776:=hT.l1;have JE:gm k2.reqs:=hT.rq;have hP:jU kc n ⟨k2.fw k1.d.R,[],0,0,0,n_,0⟩ [] k2.aw k2.reqs j:=
  ⟨λx hx=>(by cases hx),trivial,by show (0:Int)<=k2.aw;exact pw,rfl,rfl,zz4 _,rfl,pw,yyf _,.inl ⟨trivial,rfl⟩,yyf _,by show (0:Int)<=(j:Int);omega⟩
 have FE:0<=jE cf.every now/\jE cf.every now<=4503599627370496:=by
  have:=hc.e1;have:=hc.e2;unfold jE;omega
 have p6:(dz k1.d.R [] k2.d).R=k1.d.R++k2.d.R:=by show k1.d.R++k2.d.R++[]=_;rw[zz2]
 refine⟨tr,xs,[],k1.d.R,k2.d.R,⟨hd,ed,oK,hk.ok.g,hk.ok.rows,hk.ok.len,by show k1.ts.length=n;rw[hk.ts,rn],hg,hs.run,kj,by show k2.plan.length<=1024;rw[eg];decide,by show ∀f∈k2.plan,_;rw[eg];simp,hP.inv hc,⟨yyf _,show (0:Int)<=4503599627370496 by decide⟩,⟨hc.tables,pw,vS,JE,lP,jW.nf n cf.chunk⟩,rfl,bF9,λm hm=>(by cases hm),λt ht=>(by cases ht),zz4 _,⟨pw,vS⟩,⟨pw,vS⟩,FE,Dl,zz4 _,λx hx=>(by cases hx)⟩,
  ⟨ho,p6,?_,hs,vR,hP,lP,h0,yyf _,by show k2.aw=k2.aw+(0:Nat);omega,h1,λi hi=>(by cases hi)⟩⟩
 exact hk.wd (d':={dz k1.d.R [] k2.d with R:=k1.d.R}) rfl ho hd.pM hd.rz
def CD.eO{t:Option cM}{m:Option cJ}(h:CD n j AL t tr xs m RS RK c)(hb:CB cf kc n j AL xs c)(hc:CC cf kc n)(hj:j<=190)(keep:Ω):
  ∃k1 k2 fx,lD (c.s.k.d.eO keep) cf.tables cf.size=(k1.d,.ok k1)/\kI k1.d cf.tables cf.size=(k2.d,.ok k2)/\fg cf kc n (j+1) fx (cx.start cf k1 k2 c.now)/\(fx=AL\/∃x,fx=AL++[x]) /\
   (∀d' g,ff (c.s.k.d.eO keep) 16 cf.size=(d',.ok g)->(cX g.bI).length<=1001)/\(∀d' g,ff k1.d 8192 cf.size=(d',.ok g)->(cX g.bI).length<=200)/\k1.d.Ok (nJ (j+1))/\k1.d.ops<=250*(j+1)+2/\c.s.k.aw<=k2.aw:=by
 have oK:=hb.al;have kj:=hb.xl;have fj:=hb.ops;have hB:∀x∈e_ RK (keep.drop RS.length),8192<=x.id/\x.id<12288:=λx hx=>by
  obtain⟨y,hy,e⟩:=DR hx;rw[<- e];exact h.kb y hy
 obtain⟨k1,fx,e1,hk,a1,p1,hA,nC⟩:=h.kd.open hc.n1 hc.n8 keep hc.s0 hc.s1 (B:=e_ RK (keep.drop RS.length)) λx hx=>(hB x hx).1;have ecr:c.s.k.d.eO keep=dz [] (e_ RK (keep.drop RS.length)) (({c.s.k.d with R:=RS}:DS).eO keep):=by
  unfold DS.eO dz;simp only[zzq];rw[h.dR,bwx]
 rw[<- ecr]at e1 nC
 have p1:k1.d.ops<=c.s.k.d.ops+1:=p1;obtain⟨o,Dx⟩:=h.sd;have xX:jf n {c.s.k with d:={c.s.k.d with R:=RK,off:=o,ops:=k1.d.ops}} xs m:=Dx.wd (d':={c.s.k.d with R:=RK,off:=o,ops:=k1.d.ops}) rfl rfl;obtain⟨k2,dq,e2,fL,eg,Jw,xy,vW,hL,hx⟩:=jf.open (cU:=n) hc.n1 hc.n8 xX (keep.drop RS.length) (by omega) hc.s0 hc.s1;have b_3:({c.s.k.d with R:=RK,off:=o,ops:=k1.d.ops}:DS).eO (keep.drop RS.length)={k1.d with R:=e_ RK (keep.drop RS.length)}:=by
  have ho:=hk.off;unfold DS.eO;simp only;cases pj:k1.d;rw[pj]at ho a1
  simp only at ho a1;subst ho a1;rfl
 rw[b_3]at e2
 have DC:dP 8192 12288 k1.d.R [] ({k1.d with R:=e_ RK (keep.drop RS.length)}:DS).R:=⟨hk.ids,hB,λx hx=>by cases hx⟩;have e3:=cDf DC (n:Int) cf.size;rw[e2]at e3
 have e4:dz k1.d.R [] {k1.d with R:=e_ RK (keep.drop RS.length)}=dz [] (e_ RK (keep.drop RS.length)) k1.d:=by unfold dz;simp
 rw[e4]at e3
 have e3:kI (dz [] (e_ RK (keep.drop RS.length)) k1.d) n cf.size=(dz k1.d.R [] k2.d,.ok (k2.fw k1.d.R)):=e3;have b_1:=hb.dk.eO keep;have Db:=WM e1;have pj:=Gu (base:=16) (size:=cf.size) b_1;rw[Db]at pj
 have pj:(dz [] (e_ RK (keep.drop RS.length)) k1.d).Ok (nJ j):=pj;obtain⟨uM,_,_⟩:=cDe e3;have vM:=Gu (base:=8192) (size:=cf.size) pj;rw[uM]at vM
 have sI:=Ku pj (by have:=pj.D4;omega) uM;have b_t:fx.length<=j+1:=by
  rcases hA with rfl|⟨x,_,rfl⟩
  ·omega
  rw[zza,yyc];omega
 have cxk:dq.length<=j+1:=by
  rcases hx with rfl|⟨x,_,rfl⟩
  ·omega
  rw[zza,yyc];omega
 have px:=h.nx k2.tr (by
  rcases hx with rfl|⟨x,uR,rfl⟩
  ·left;have:=hb.run.symm.trans fL.run;exact (wwe this).symm
  right;refine⟨x,uR,?_⟩;have:=fL.run;rw[D5 n xs x _ _ hb.run]at this
  exact this)
 have kh:c.s.k.aw<=k2.aw:=by
  rcases hx with rfl|⟨x,uR,rfl⟩
  ·have:=wwe (hb.run.symm.trans fL.run);have:=yy1 (·.2.2) this;exact Int.le_of_eq this
  have:=fL.run;rw[D5 n xs x _ _ hb.run]at this
  unfold stepT at this;split at this
  ·split at this
   ·rename_i dj;have:=wwe this;have h2:x.aw=k2.aw:=yy1 (·.2.2) this;have dj:c.s.k.aw<x.aw:=dj;omega
   cases this
  cases this
 have hlen:AL.length<=fx.length:=by
  rcases hA with rfl|⟨x,_,rfl⟩
  ·exact zzi _
  rw[zza];omega
 have vO:se k1.d.R k2:=by
  refine⟨⟨hk.ids,λx hx=>?_,λx hx=>by cases hx⟩,?_⟩
  ·have vO:=hL.laid.TF;have Fz:=fL.base Jw;rw[hL.files]at hx
   obtain⟨s,hs,rfl⟩:=zzx.1 hx;have:=vO.bI s hs;show 8192<=s.file/\s.file<12288;omega
  have vO:=hL.laid.TF;rw[fL.base Jw]at vO
  exact vO
 have xK:nJ j+200000<=nJ (j+1):=by show 400000*(j+1)+200000<=400000*(j+1+1);omega
 have vW:k2.d.ops<=k1.d.ops+1:=vW;have v_:cf.tables=(n:Int):=hc.tables;refine⟨k1.fw (e_ RK (keep.drop RS.length)),k2.fw k1.d.R,fx,by rw[v_];exact e1,by rw[v_];exact e3,?_,hA.imp id (λ⟨x,_,e⟩=>⟨x,e⟩),nC,?_,pj.mono (by omega),by show k1.d.ops<=_;omega,kh⟩
 ·exact fg.start hc hb.now (hk.mono xK) fL Jw vO eg (sI.mono (by omega)) (vM.mono (by omega)) (by omega) b_t cxk (by omega) px.1 px.2.1 (by have:=px.2.2;show k2.aw<=_;have h3:k2.aw<=AL.length:=this;omega) _
 intro d' g hg;have cnr:ff (dz [] (e_ RK (keep.drop RS.length)) k1.d) 8192 cf.size=_:=uM;have hg:ff (dz [] (e_ RK (keep.drop RS.length)) k1.d) 8192 cf.size=(d',.ok g):=hg;rw[cnr]at hg
 cases hg;show (cX k2.g.bI).length<=200;rw[hL.gG,zzn];omega
def CS.cKe(h:CS cf kc n j AL c):∃tr xs t m RS RK,CB cf kc n j AL xs c/\CD n j AL t tr xs m RS RK c:=by
 rcases h with ⟨tr,xs,hd,RS,RK,hb,a⟩|⟨_,tr,xs,t,m,RS,RK,hb,a⟩
 ·exact⟨tr,xs,none,none,RS,RK,hb,a.dead⟩
 exact⟨tr,xs,t,m,RS,RK,hb,a⟩
structure CrK(cf:dL)(kc:dW)(n j:Nat)(AL:List cM)(c:cx)(keep:Ω)(k1:cW)(k2:cV)(fx:List cM):Prop where
 e1:lD (c.s.k.d.eO keep) cf.tables cf.size=(k1.d,.ok k1)
 e2:kI k1.d cf.tables cf.size=(k2.d,.ok k2)
 st:fg cf kc n (j+1) fx (cx.start cf k1 k2 c.now)
 al:fx=AL\/∃x,fx=AL++[x]
 n1:∀d' g,ff (c.s.k.d.eO keep) 16 cf.size=(d',.ok g)->(cX g.bI).length<=1001
 n2:∀d' g,ff k1.d 8192 cf.size=(d',.ok g)->(cX g.bI).length<=200
 dk:k1.d.Ok (nJ (j+1))
 ops:k1.d.ops<=250*(j+1)+2
 aw:c.s.k.aw<=k2.aw
 is:c.eO cf keep=cx.start cf k1 k2 c.now
def CS.eO(h:CS cf kc n j AL c)(hc:CC cf kc n)(hj:j<=190)(keep:Ω):∃k1 k2 fx,CrK cf kc n j AL c keep k1 k2 fx:=by
 obtain⟨tr,xs,t,m,RS,RK,hb,a⟩:=h.cKe;obtain⟨k1,k2,fx,e1,e2,h1,h2,h3,h4,h5,h6,h7⟩:=a.eO hb hc hj keep;refine⟨k1,k2,fx,⟨e1,e2,h1,h2,h3,h4,h5,h6,h7,?_⟩⟩;unfold cx.eO WJ;rw[e1];simp only[e2]
def fg.pick(h:fg cf kc n j AL c)(hc:CC cf kc n)(hj:j<=190)(comp:Int):∃fx,CS cf kc n (j+1) fx (c.pick cf kc comp).1/\(fx=AL\/∃x,fx=AL++[x]):=by
 have uX:∃fx,CS cf kc n (j+1) fx c/\(fx=AL\/∃x,fx=AL++[x]):=⟨AL,.inl h.mono,.inl rfl⟩;unfold cx.pick;split
 ·exact uX
 split
 ·exact uX
 rename_i T9 ll;have ll:c.en kc comp=true:=by cases hq:c.en kc comp with
  | true=>rfl
  | false=>exact absurd hq ll
 split
 ·rename_i e;subst e;obtain⟨_,_,_,_,h1⟩:=h.read ll;exact⟨AL,.inl h1,.inl rfl⟩
 split
 ·rename_i e;subst e;obtain⟨_,_,_,_,_,_,_,_,_,_,_,h1⟩:=h.take hc ll;exact⟨AL,.inl h1,.inl rfl⟩
 split
 ·rename_i e;subst e;rcases h.snap hc hj ll with ⟨fx,h1,h2,_⟩|⟨h1,_⟩
  ·exact⟨fx,.inl h1,h2⟩
  exact⟨AL,.inr h1,.inl rfl⟩
 split
 ·rename_i e;subst e;rcases h.write hc hj ll with ⟨h1,_⟩|⟨h1,_⟩
  ·exact⟨AL,.inl h1,.inl rfl⟩
  exact⟨AL,.inr h1,.inl rfl⟩
 have:comp=4:=by omega
 subst this;exact⟨AL,.inl (h.tell hc ll).1,.inl rfl⟩
def CS.h_(h:CS cf kc n j AL c)(hc:CC cf kc n)(hj:j<=190)(s:g_):∃fx,CS cf kc n (j+1) fx (c.h_ cf kc s).1/\(fx=AL\/∃x,fx=AL++[x]):=by
 unfold cx.h_;split
 ·exact⟨AL,h.mono,.inl rfl⟩
 rename_i jc;by_cases k8:s.kind=8
 ·rw[zzb (by omega),zzb (by omega)];have e:(c.other cf s).1=c.eO cf s.keep:=by unfold cx.other;rw[zzb (by omega),zzb (by omega),zzb (by omega),zzb (by omega),zzb (by omega),zzd k8]
  show ∃fx,CS cf kc n (j+1) fx (c.other cf s).1/\_;obtain⟨k1,k2,fx,hk⟩:=h.eO hc hj s.keep;rw[e,hk.is];exact⟨fx,.inl hk.st,hk.al⟩
 have ho:c.s.k.d.off=false:=by
  cases hq:c.s.k.d.off with
  | false=>rfl
  | true=>exact absurd ⟨hq,k8⟩ jc
 have hA:fg cf kc n j AL c:=by
  rcases h with h|h
  ·exact h
  rw[h.1]at ho;cases ho
 split
 ·rcases hA.pP hc hj s with ⟨x,h1,_⟩|⟨h1,_⟩|e|e
  ·exact⟨_,.inl h1,.inr ⟨x,rfl⟩⟩
  ·exact⟨AL,.inr h1,.inl rfl⟩
  ·unfold cx.pP;rw[e];exact⟨AL,.inl hA.self.mono,.inl rfl⟩
  unfold cx.pP;rw[e];exact⟨AL,.inl hA.self.mono,.inl rfl⟩
 split
 ·exact hA.pick hc hj s.n
 show ∃fx,CS cf kc n (j+1) fx (c.other cf s).1/\_;unfold cx.other;split
 ·exact⟨AL,h.fault s.ft,.inl rfl⟩
 split
 ·exact⟨AL,h.tick s.n,.inl rfl⟩
 split
 ·exact⟨AL,h.drawn s.n,.inl rfl⟩
 split
 ·rcases hA.trim hc hj with ⟨_,h1⟩|⟨_,h1⟩
  ·exact⟨AL,.inl h1,.inl rfl⟩
  exact⟨AL,.inr h1,.inl rfl⟩
 split
 ·exact⟨AL,h.arm s.n,.inl rfl⟩
 exact⟨AL,h.mono,.inl rfl⟩
def sP(n:Nat)(size:Int):cV:=⟨⟨[],8192,size,none⟩,gU,(rV n).1,[],0,[]⟩
def czl{n:Nat}(n1:1<=n)(n8:n<=8){size:Int}(s0:64<=size)(s1:size<=65536):kI gU ((n:Nat):Int) size=(gU,.ok (sP n size))/\jf n (sP n size) [] none/\∀M,ij (sP n size).g M:=by
 obtain⟨k,e,hP,_⟩:=Hf.first n1 n8 s0 s1;have e2:kI gU ((n:Nat):Int) size=(gU,.ok (sP n size)):=by
  unfold kI;rw[zzb (by omega)];simp only[Kt (base:=8192) (by decide) (by decide) s0 s1];rw[zzz];rfl
 rw[e2]at e
 have e3:=yy1 Prod.snd e;simp only at e3;cases e3;exact⟨e2,hP.s,λM=>⟨⟨by simp[sP],by show (0:Int)<=8192;decide,by show (8192:Int)<=12288;decide,s0,s1,by simp[sP]⟩,trivial,by show (0:Int)<=_;decide,λx hx=>by cases hx⟩⟩
def AP(cf:dL)(n:Nat):cx:=cx.start cf (wc n cf.size) (sP n cf.size) 0
def fg.first(hc:CC cf kc n):lD gU cf.tables cf.size=(gU,.ok (wc n cf.size))/\kI gU cf.tables cf.size=(gU,.ok (sP n cf.size))/\fg cf kc n 0 [] (AP cf n):=by
 obtain⟨e1,hL⟩:=cH6 hc.n1 hc.n8 hc.s0 hc.s1;obtain⟨e2,hs,hg⟩:=czl hc.n1 hc.n8 hc.s0 hc.s1;have v_:cf.tables=(n:Int):=hc.tables;have hk:KV n 0 (nJ 0) [] (wc n cf.size):=⟨mI.nil n,⟨[],gU,16,0,0,hL⟩,rfl,show (0:Int)<=0 by decide,(cH5 hc.n1 hc.n8 hc.s0 hc.s1).mono (by omega)⟩;refine⟨by rw[v_];exact e1,by rw[v_];exact e2,?_⟩;have vR:se [] (sP n cf.size):=⟨⟨λx hx=>(by cases hx),λx hx=>(by cases hx),λx hx=>(by cases hx)⟩,⟨show (8192:Int)<=8192 by decide,show (8192:Int)+4096<=12288 by decide,λs hs=>(by cases hs),λx hx=>(by cases hx)⟩⟩;exact fg.start (AL:=[]) (tr:=0) (xs:=[]) (j:=0) (k1:=wc n cf.size) (k2:=sP n cf.size) (now:=0) hc (by decide) hk hs rfl vR rfl (hg _) (D6 _) (show (0:Nat)<=250*(0+1) by decide) (zzi _) (zzi _) (by decide) (λr hr=>(by cases hr)) (yyf _) (yyf _) []
end
section
variable {cf:dL} {kc:dW} {n j:Nat} {AL:List cM} {c:cx}
end
abbrev kA:dL:=⟨1,0,256,4,2,4,1,8,0,5⟩
abbrev kG:dW:=⟨4,4,1,8,0⟩
def ur:CC kA kG 1:=⟨by decide,by decide,rfl,by decide,by decide,by decide,by decide,rfl,by decide,by decide,by decide,by decide,rfl,by decide,by decide,rfl,rfl,rfl,by decide,by decide,by decide⟩
def BV:g_:=⟨1,0,[],[⟨0,5,false,⟨#[97]⟩⟩],kE,[]⟩
def oS(n:Int):g_:=⟨2,n,[],[],kE,[]⟩
def wS:cx:=AP kA 1
def wT:cx:=(wS.h_ kA kG BV).1
def wU:cx:=(wT.h_ kA kG (oS 0)).1
def wV:cx:=(wU.h_ kA kG (oS 1)).1
def wW:cx:=(wV.h_ kA kG (oS 3)).1
def tA1:(wS.h_ kA kG BV).2=⟨0,1,0⟩:=by decide +kernel
def tA2:(wT.h_ kA kG (oS 0)).2=⟨0,0,1⟩:=by decide +kernel
def tA3:(wU.h_ kA kG (oS 1)).2=⟨0,0,2⟩:=by decide +kernel
def tA4:(wV.h_ kA kG (oS 3)).2=⟨0,0,6⟩:=by decide +kernel
def cD4{after:Int}{C:List Row}{j:Nat}(h:j+1=C.length)(hj:j<C.length):lE after C=C[j].key:=by
 unfold lE;rw[xx9,show C.length-1=j by omega,zzc hj];rfl
def cD7(H:bw)(v:Ε)(C:List Row)(after n:Int)(hv:de H 2 v C.length (C.map eD).flatten)(hn:C.length<=1000000):
  SP 225 [Γ after,Γ n,v] [.mem H] (cE (.tuple #[Γ (lE after C),.bool (decide ((C.length:Int)<n))]) [.mem H]):=by
 refine Enzz λW F w hS=>?_;apply cOk;delta aI a_ ai;refine zo hv ?_;refine cA (λh=>?_) (λh=>?_)
 ·obtain⟨j,hj⟩:∃j:Nat,j+1=C.length:=⟨C.length-1,by omega⟩;have gW:j<C.length:=by omega
  rw[cD4 (after:=after) hj gW];refine zo hv ?_;refine Gp ?_;rw[show (C.length:Int)-1=(j:Int) by omega];refine Q2 hS Xh jt hv (x:=C[j]) (zzc gW) gW (i:=0) rfl ?_;refine zo hv ?_;refine Gp ?_;(exact cF hS)
 have he:C=[]:=zzl (by omega);rw[show lE after C=after by rw[he];rfl];refine zo hv ?_;refine Gp ?_;(exact cF hS)
abbrev nc(w:dM)(rv:Ε):Ξ:=[Γ w.mark,Γ w.after,Γ w.id,Γ w.table,rv,Γ w.dG,.bool w.last,Γ w.n,Γ w.state]
def dN(wp:Nat)(k:dM):zC:=jT λrv:Ε=>zH True [.pt wp (nc k rv) 213,fJ rv k.rows]
def dN.iff{W w:Ζ}{l:Β}{wp:Nat}{k:dM}:SL W (.ob (dN wp k)::l) w↔∃rv,SL W (.pt wp (nc k rv) 213::fJ rv k.rows::l) w:=by
 unfold dN;simp only[SL.ex,SL.fact,uuu,zzv,zzq]
def dN.put{W w:Ζ}{l F:Β}{wp:Nat}(k:dM)(rv:Ε)(hS:SL W l w)(p:gE [.pt wp (nc k rv) 213,fJ rv k.rows] l F):SL W (.ob (dN wp k)::F) w:=dN.iff.2 ⟨rv,hS.pick p⟩
def fJ.nil{W w:Ζ}{l:Β}(h:SL W l w):SL W (fJ Θ []::l) w:=bF.nil h
def cU3(n:Int):SP 202 [Γ n] [] (λv post=>(¬(1<=n/\n<=64)/\v= .tuple #[.pointer none,Γ 1]/\post=[])\/((1<=n/\n<=64)/\∃wp:Nat,v= .tuple #[cH wp,Γ 0]/\post=[.ob (dN wp (nf n))])):=by
 refine Enzz λW F w hS=>?_;apply cNv;delta aI ai cY bR;refine Gp ?_;refine za (λh=>⟨_,.inl ⟨by omega,rfl,rfl⟩,hS⟩) (λh1=>?_);refine Gp ?_;refine za (λh=>⟨_,.inl ⟨by omega,rfl,rfl⟩,hS⟩) (λh2=>?_);refine Gp ?_;refine⟨_,rfl,zE hS λwp w hS=>?_⟩;have hS:=fJ.nil hS;exact⟨_,.inr ⟨by omega,wp,rfl,rfl⟩,SL.cD (dN.put (wp:=wp) (nf n) Θ hS Xp) Xi⟩
section
variable (wp:Nat) (k:dM)
def y2:SP 64 [cH wp] [.ob (dN wp k)] (cE (Γ k.state) [.ob (dN wp k)]):=by
 refine Enzz λW F w hS=>?_;apply cTn;delta bW;obtain⟨rv,hS⟩:=dN.iff.1 hS;unfold nc at hS;refine Gp ?_;exact⟨_,⟨rfl,rfl⟩,SL.cD (dN.put k rv hS Xp) Xi⟩
def cU1:SP 227 [cH wp] [.ob (dN wp k)] (cE (Γ k.mark) [.ob (dN wp k)]):=by
 refine Enzz λW F w hS=>?_;apply cOm;delta a_ b_;obtain⟨rv,hS⟩:=dN.iff.1 hS;unfold nc at hS;refine Gp ?_;exact⟨_,⟨rfl,rfl⟩,SL.cD (dN.put k rv hS Xp) Xi⟩
def Qm:SP 161 [cH wp] [.ob (dN wp k)] (cE (Γ k.table) [.ob (dN wp k)]):=by
 refine Enzz λW F w hS=>?_;apply cMp;delta a_ b_;obtain⟨rv,hS⟩:=dN.iff.1 hS;unfold nc at hS;refine Gp ?_;exact⟨_,⟨rfl,rfl⟩,SL.cD (dN.put k rv hS Xp) Xi⟩
def Qk:SP 162 [cH wp] [.ob (dN wp k)] (cE (Γ k.after) [.ob (dN wp k)]):=by
 refine Enzz λW F w hS=>?_;apply cMq;delta a_ b_;obtain⟨rv,hS⟩:=dN.iff.1 hS;unfold nc at hS;refine Gp ?_;exact⟨_,⟨rfl,rfl⟩,SL.cD (dN.put k rv hS Xp) Xi⟩
def cU6(hn:k.rows.length<=1000000):SP 65 [cH wp] [.ob (dN wp k)] (λu post=>post=[fJ u k.rows,.ob (dN wp k)]):=by
 refine Enzz λW F w hS=>?_;apply cTo;delta a_ b_;obtain⟨rv,hS⟩:=dN.iff.1 hS;unfold nc at hS;refine Gp ?_;refine Cc (Sm rv k.rows hn) ?_;clear hS;rintro u post rfl w hS;try simp only[app]at hS
 exact⟨_,rfl,SL.cD (dN.put k rv hS Xp) Xi⟩
def cU4(mark id table after:Int):SP 224 [cH wp,Γ mark,Γ id,Γ table,Γ after] [.ob (dN wp k)] (λv post=>(∃q,v= .bool q)/\post=[.ob (dN wp (k.tY mark id table after))]):=by
 refine Enzz λW F w hS=>?_;apply cOj;delta aI bW c_ b_ cz ai bR;obtain⟨rv,hS⟩:=dN.iff.1 hS;unfold nc at hS;have fK:∀{w:Ζ},k.Ai mark id table after->SL W (.pt wp [Γ k.mark,Γ k.after,Γ k.id,Γ k.table,rv,Γ k.dG,.bool k.last,Γ k.n,Γ k.state] 213::fJ rv k.rows::F) w->∃post,((∃q,Value.bool false= .bool q)/\post=[.ob (dN wp (k.tY mark id table after))])/\SL W (app post F) w:=λh hS=>by
  rw[show k.tY mark id table after=k from zzd h];exact⟨_,⟨⟨_,rfl⟩,rfl⟩,SL.cD (dN.put k rv hS Xp) Xi⟩
 refine Gp ?_;refine za (λh=>fK (.inl h) hS) (λh0=>?_);refine Gp ?_;refine za (λh=>fK (.inr (by omega)) hS) (λh1=>?_);refine Gp ?_;refine za (λh=>fK (.inr (by omega)) hS) (λh2=>?_);refine Gp ?_;refine za (λh=>fK (.inr (by omega)) hS) (λh3=>?_);refine Gp ?_;refine za (λh=>fK (.inr (by omega)) hS) (λh4=>?_);refine Gp ?_;refine za (λh=>fK (.inr (by omega)) hS) (λh5=>?_);refine Gp ?_;refine za (λh=>fK (.inr (by omega)) hS) (λh6=>?_);refine Gp ?_;refine za (λh=>fK (.inr (by omega)) hS) (λh7=>?_);refine Gp ?_;refine za (λh=>fK (.inr (by omega)) hS) (λh8=>?_);clear fK;have cL:¬k.Ai mark id table after:=by unfold dM.Ai;omega
 rw[show k.tY mark id table after=⟨k.n,1,mark,after,id,table,[],0,false⟩ from zzb cL];refine Gp ?_;refine ZT hS Xu rfl (by simp) (by simp[Value.oneCell']) λw hS=>?_;simp only[List.take,List.drop,zzv,zzq]at hS;refine Gn λw hS=>?_;have hS:=fJ.nil hS;exact⟨_,⟨⟨_,rfl⟩,rfl⟩,SL.cD (dN.put (wp:=wp) ⟨k.n,1,mark,after,id,table,[],0,false⟩ Θ hS Xp) Xi⟩
def cU8:SP 228 [cH wp] [.ob (dN wp k)] (λv post=>(∃q,v= .bool q)/\post=[.ob (dN wp k.shut)]):=by
 refine Enzz λW F w hS=>?_;apply cOn;delta aI bW c_ cz ai;obtain⟨rv,hS⟩:=dN.iff.1 hS;unfold nc at hS;unfold dM.shut;refine cA (λh=>?_) (λh=>?_)
 ·rw[zzb h];exact⟨_,⟨⟨_,rfl⟩,rfl⟩,SL.cD (dN.put k rv hS Xp) Xi⟩
 rw[zzd (by omega)];refine Gn λw hS=>?_;exact⟨_,⟨⟨_,rfl⟩,rfl⟩,SL.cD (dN.put {k with state:=3} rv hS Xp) Xi⟩
def cU0(mark:Int):SP 218 [cH wp,Γ mark] [.ob (dN wp k)] (λv post=>(∃q,v= .bool q)/\post=[.ob (dN wp (k.low mark))]):=by
 refine Enzz λW F w hS=>?_;apply cOc;delta aI bW a_ c_ b_ cz ai;obtain⟨rv,hS⟩:=dN.iff.1 hS;unfold nc at hS;unfold dM.low;refine cA (λh=>?_) (λh=>?_)
 ·rw[zzb (by omega)];exact⟨_,⟨⟨_,rfl⟩,rfl⟩,SL.cD (dN.put k rv hS Xp) Xi⟩
 refine cA (λh2=>?_) (λh2=>?_)
 ·rw[zzb (by omega)];exact⟨_,⟨⟨_,rfl⟩,rfl⟩,SL.cD (dN.put k rv hS Xp) Xi⟩
 rw[zzd (by omega)];refine Gn λw hS=>?_;exact⟨_,⟨⟨_,rfl⟩,rfl⟩,SL.cD (dN.put {k with state:=4} rv hS Xp) Xi⟩
def Qn(x:lM):SP 131 [cH wp,agg (eV x)] [.ob (dN wp k)] (cE (.bool (k.waits x.kind x.mark)) [.ob (dN wp k)]):=by
 refine Enzz λW F w hS=>?_;apply cLw;delta aI bW a_ b_ cz ai;obtain⟨rv,hS⟩:=dN.iff.1 hS;unfold nc at hS;refine zu hS λxb w hS=>?_;unfold eV at hS;unfold dM.waits;refine Gn λw hS=>?_;refine za (λh=>?_) (λh=>?_)
 ·refine cA (λh2=>?_) (λh2=>?_)
  ·refine cA (λh3=>?_) (λh3=>?_)
   ·rw[zzo (by omega)];exact⟨_,⟨rfl,rfl⟩,SL.cD (dN.put k rv hS Xp) Xi⟩
   refine Gp ?_;rw[show decide (x.kind=2/\x.mark=k.mark/\(k.state=1\/k.state=2))=decide (k.state=2) by rw[yyj];omega];exact⟨_,⟨rfl,rfl⟩,SL.cD (dN.put k rv hS Xp) Xi⟩
  rw[zz3 (by omega)];exact⟨_,⟨rfl,rfl⟩,SL.cD (dN.put k rv hS Xp) Xi⟩
 rw[zz3 (by omega)];exact⟨_,⟨rfl,rfl⟩,SL.cD (dN.put k rv hS Xp) Xi⟩
end
def KS:∀(A B:List Row) (k:Int),ou k (A++B)=(ou k A && ou (lE k A) B)
 | [],B,k=>by simp[ou,lE]
 | r::A,B,k=>by
  have e:lE k (r::A)=lE r.key A:=by
   unfold lE;cases A with
   | nil=>rfl
   | cons y A=>rw[uuj];rfl
  show (decide (k<r.key/\r.key<=1099511627776) && ou r.key (A++B))=((decide (k<r.key/\r.key<=1099511627776) && ou r.key A) && ou (lE k (r::A)) B);rw[KS A B r.key,e,Bool.and_assoc]
def cD5(a:Int)(A:List Row)(r:Row):lE a (A++[r])=r.key:=by
 unfold lE;rw[List.getLast?_append];simp
def cUx(wp:Nat)(k:dM)(H:bw)(v:Ε)(C:List Row)(hv:de H 2 v C.length (C.map eD).flatten)(hn:C.length<=1000000):
  SP 159 [cH wp,v] [.ob (dN wp k),.mem H] (λu post=>(∃q,u= .bool q)/\post=[.ob (dN wp (k.fill C)),.mem H]):=by
 refine Enzz λW F w hS=>?_;apply cMm;delta aI bW a_ c_ b_ cz ai cR;obtain⟨rv,hS⟩:=dN.iff.1 hS;have fK:∀{w:Ζ} {l:Β},k.xj C->SL W l w->j_ [.pt wp (nc k rv) 213,fJ rv k.rows,.mem H] l->True:=λ_ _ _=>trivial;clear fK;unfold nc at hS;have fK:∀{w:Ζ},k.xj C->SL W (.pt wp [Γ k.mark,Γ k.after,Γ k.id,Γ k.table,rv,Γ k.dG,.bool k.last,Γ k.n,Γ k.state] 213::fJ rv k.rows::.mem H::F) w->∃post,((∃q,Value.bool false= .bool q)/\post=[.ob (dN wp (k.fill C)),.mem H])/\SL W (app post F) w:=λh hS=>by
  rw[show k.fill C=k from zzd h];exact⟨_,⟨⟨_,rfl⟩,rfl⟩,SL.cD (dN.put k rv hS Xp) Xi⟩
 refine Gp ?_;refine za (λh=>fK (.inl h) hS) (λh1=>?_);refine zo hv ?_;refine Gp ?_;refine za (λh=>fK (.inr (.inl (by omega))) hS) (λh2=>?_);refine Gp ?_;refine zo hv ?_;refine⟨λus w=>∃i:Nat,us=[Γ (lE k.after (C.take i)),Γ i]/\i<=C.length/\ou k.after (C.take i)=true/\SL W (.pt wp [Γ k.mark,Γ k.after,Γ k.id,Γ k.table,rv,Γ k.dG,.bool k.last,Γ k.n,Γ k.state] 213::fJ rv k.rows::.mem H::F) w,
  λus _=>match us with|[_,.int _ i]=>(C.length-i).toNat|_=>0,⟨0,rfl,by omega,rfl,hS⟩,?_⟩
 clear hS;rintro v5 v29 w ⟨i,cT,hi,hr,hS⟩;cases cT;refine cA (λh=>?_) (λh=>?_)
 ·have cG:i<C.length:=by omega
  have hx:C[i]?=some C[i]:=zzc cG;have gg:C.take (i+1)=C.take i++[C[i]]:=zze cG;have eK:ou k.after C=true->ou k.after (C.take (i+1))=true:=λh=>by
   rw[<- yyk (i+1) C,KS,zzu]at h;exact h.1
  have uS:ou k.after (C.take (i+1))=decide (lE k.after (C.take i)<C[i].key/\C[i].key<=1099511627776):=by
   rw[gg,KS,hr];unfold ou;simp[ou]
  refine zF hS Xh jt hv hx cG ?_;generalize C[i]=r at *
  refine Gb λxb w hS=>?_;have gV:∀{w:Ζ},¬(lE k.after (C.take i)<r.key/\r.key<=1099511627776)->SL W (.pt xb (eD r) 54::.pt wp [Γ k.mark,Γ k.after,Γ k.id,Γ k.table,rv,Γ k.dG,.bool k.last,Γ k.n,Γ k.state] 213::fJ rv k.rows::.mem H::F) w->∃post,((∃q,Value.bool false= .bool q)/\post=[.ob (dN wp (k.fill C)),.mem H])/\SL W (app post F) w:=λhb hS=>by
   refine fK (.inr (.inr ?_)) (aR hS);cases hq:ou k.after C with
   | false=>rfl
   | true=>rw[eK hq]at uS;exact absurd (zzp uS.symm) hb
  have Uh:=@gV;clear fK gV;refine za (λh=>Uh (by omega) hS) (λh3=>?_);refine Gp ?_;refine za (λh=>Uh (by omega) hS) (λh4=>?_);refine Gp ?_;refine⟨⟨i+1,?_,by omega,?_,aR hS⟩,by dsimp only;omega⟩
  ·rw[gg,cD5]
  rw[uS];exact zzo (by omega)
 have he:C.take i=C:=zz7 (by omega);rw[he]at hr
 have cL:¬k.xj C:=by
  rintro (h|h|h)
  ·exact h1 h
  ·omega
  rw[hr]at h;cases h
 rw[show k.fill C={k with state:=2,rows:=C,dG:=lE k.after C,last:=decide ((C.length:Int)<k.n)} from zzb cL];clear fK;refine Cc (Sn (λv0 w R h=>Lm v0 w R h) rfl (by decide) hv (sW vz C) (by omega) (by omega)) ?_;clear hS;rintro u post rfl w hS;try simp only[app]at hS
 have hS:SL W (fJ u C::_) w:=hS;have o1:u.oneCell'=true:=bF.one hS;refine Gn λw hS=>?_;refine Cg (cD7 H v C k.after k.n hv hn) λw hS=>?_;exact⟨_,⟨⟨_,rfl⟩,rfl⟩,SL.cD (dN.put (wp:=wp) {k with state:=2,rows:=C,dG:=lE k.after C,last:=decide ((C.length:Int)<k.n)} u hS Xp) Xi⟩
def bR4{D:List Row}{i:Nat}(hi:i<D.length)(x:Row)(rest:Ξ):((D.map eD).flatten++rest).take (0+i*2)++eD x++((D.map eD).flatten++rest).drop (0+i*2+2)=((D.set i x).map eD).flatten++rest:=by
 have hl:((D.map eD).flatten).length=D.length*2:=mN jt D;rw[yya,xxg (by omega),xxh (by omega),show i*2+2=(i+1)*2 by omega,uz jt,vE jt,xxi,zzd hi];simp
def Y1(cb:Nat)(c:d_)(r:Row):SP 335 [agg (eD r),cH cb] [.pt cb (dC c) 40] (cE (.bool (decide (r.key=c.key))) [.pt cb (dC c) 40]):=by
 refine Enzz λW F w hS=>?_;apply cQ8;delta a_;refine zu hS λxb w hS=>?_;unfold eD at hS;unfold dC at hS ⊢;refine Gp ?_;(exact cF hS)
def bFr(cb:Nat)(c:d_)(v:Ε)(C:List Row)(hn:C.length<=1000000):
  SP 334 [v,.func (.func 335) #[] #[cH cb]] [.pt cb (dC c) 40,fJ v C] (λu post=>post=[.pt cb (dC c) 40,fJ u (C.filter λr=>!decide (r.key=c.key))]):=by
 refine Enzz λW F w hS=>?_;apply cQ7;delta aI cP ai cR;have hC:=JY (t:=54) jt rfl (λv0 v1 w R h=>cRq v0 v1 w R h) (λr=>Y1 cb c r) v C (by omega);simp only[zzv,zzq]at hC;refine Cg (hC) λw hS=>?_;cases hf:C.findIdx? (λr=>decide (r.key=c.key)) with
 | none=>
  simp only[lz];refine za (λ_=>?_) (λh=>absurd trivial h);have e:C.filter (λr=>!decide (r.key=c.key))=C:=yy4.2 λr hr=>by
   have:=xxu.1 hf r hr;rw[this];rfl
  rw[e];exact⟨_,rfl,aR hS⟩
 | some i0=>
  obtain⟨vP,tL,rH⟩:=yyn.1 hf;have uK:(C.take (i0+1)).filter (λr=>!decide (r.key=c.key))=C.take i0:=by
   rw[zze vP,yyx,yy4.2 λr hr=>by
    obtain⟨j,hj,rfl⟩:=yyl hr;rw[zzg]at hj
    rw[uum];have:=rH j (by omega);simpa using this]
   simp at tL;simp[tL]
  simp only[lz];refine Χ ?_;rcases bF.open (SL.cD hS (t:=fJ v C::.pt cb (dC c) 40::F) Xi) with ⟨_,h0,_⟩|⟨b,cap,rest,rfl,ph,hlen,jD,hS⟩
  ·omega
  refine Gp ?_;refine⟨λus w=>∃(i j:Nat) (D:List Row),us=[Γ i,Γ j]/\i<j/\j<=C.length/\D.length=C.length/\D.take i=(C.take j).filter (λr=>!decide (r.key=c.key))/\D.drop j=C.drop j/\SL W (.pt b ((D.map eD).flatten++rest) 54::.pt cb (dC c) 40::F) w,
   λus _=>match us with|[_,.int _ j]=>(C.length-j).toNat|_=>0,⟨i0,i0+1,C,rfl,by omega,by omega,rfl,uK.symm,rfl,aR hS⟩,?_⟩
  clear hS hf vP tL rH uK;rintro v5 v6 w ⟨i,j,D,cT,sJ,hj,hD,ht,hd,hS⟩;cases cT;refine cA (λh=>?_) (λh=>?_)
  ·have gW:j<C.length:=by omega
   have Um:j<D.length:=by omega
   have hxe:D[j]=C[j]:=by
    have h1:(D.drop j)[0]?=(C.drop j)[0]?:=by rw[hd]
    rw[www,www,xxp,zzc Um,zzc gW]at h1
    simpa using h1
   have gg:C.take (j+1)=C.take j++[C[j]]:=zze gW;have FD:D.drop (j+1)=C.drop (j+1):=by
    rw[<- vve,<- vve,hd]
   have A9:∀q u,(eD D[j])[q]?=some u->((D.map eD).flatten++rest)[0+j*2+q]?=some u:=λq u hu=>by
    rw[yya];have:=pX jt D j q D[j] u (zzc Um) hu;rw[zzm (zzf.1 this).1];exact this
   refine zG gW ?_;refine yC hS Xh rfl A9 ?_;rw[hxe];generalize C[j]=r at *
   refine Gb λxb w hS=>?_;refine ye (args':=[agg (eD r),cH cb]) rfl (Y1 cb c r) rfl hS Xp ?_;clear hS;rintro _ post ⟨rfl,rfl⟩ w hS;(try simp only[app]at hS);refine Gp ?_
   refine zy (λhq=>?_) (λhq=>?_)
   ·refine zr hS Xh rfl ?_;refine zG (show i<C.length by omega) ?_;refine ZT hS Xu rfl ?_ (vz _) λw hS=>?_
    ·rw[zza,mN jt];omega
    rw[bR4 (by omega)]at hS
    refine Gp ?_;refine⟨⟨i+1,j+1,D.set i r,rfl,by omega,by omega,by rw[yyh];exact hD,?_,?_,aR hS⟩,by dsimp only;omega⟩
    ·rw[gg,yyx,<- ht];have:([r].filter λr=>!decide (r.key=c.key))=[r]:=by simp[hq]
     rw[this,zze (by rw[yyh];omega),List.getElem_set_self,List.take_set_of_le (zzi _)]
    rw[List.drop_set_of_lt (by omega)];exact FD
   refine Gp ?_;refine⟨⟨i,j+1,D,rfl,by omega,by omega,hD,?_,FD,aR hS⟩,by dsimp only;omega⟩;rw[gg,yyx,<- ht];have:([r].filter λr=>!decide (r.key=c.key))=[]:=by simp[hq]
   rw[this,zz2]
  have hjc:j=C.length:=by omega
  subst hjc;rw[zz0]at ht
  rw[<- ht];have hl:((D.map eD).flatten).length=D.length*2:=mN jt D;refine⟨some ⟨b,0,none⟩,C.length,cap,i,C.length,cap,rfl,rfl,rfl,⟨_,rfl⟩,by omega,by omega,by omega,?_⟩;rw[zzb (show ¬cap=i by omega)];simp only[yyi,yye,yya];have hA:((D.map eD).flatten.take (i*2)).length=i*2:=by rw[zzg,hl];omega
  have e2:((D.map eD).flatten++rest).take (i*2)++cQ [Γ 0,.string ⟨#[]⟩] (C.length-i)++((D.map eD).flatten++rest).drop (i*2+(cQ [Γ 0,.string ⟨#[]⟩] (C.length-i)).length)=(D.map eD).flatten.take (i*2)++(cQ [Γ 0,.string ⟨#[]⟩] (C.length-i)++rest):=by
   have:=Sp ((D.map eD).flatten.take (i*2)) ((D.map eD).flatten.drop (i*2)) (cQ [Γ 0,.string ⟨#[]⟩] (C.length-i)) rest (by rw[zzs,hl,l7];show _=(C.length-i)*2;omega);rw[hA,<- zzk ((D.map eD).flatten.take (i*2)) ((D.map eD).flatten.drop (i*2)) rest,yyk]at this
   exact this
  refine Xx (tt:=54) (z:=[Γ 0,.string ⟨#[]⟩]) (zv:=.agg #[Γ 0,.string ⟨#[]⟩]) (n:=C.length-i) (o:=i*2) (cs:=(D.map eD).flatten++rest) (l':=.pt b ((D.map eD).flatten.take (i*2)++(cQ [Γ 0,.string ⟨#[]⟩] (C.length-i)++rest)) 54::.pt cb (dC c) 40::F) hS ?_ wwc (λw=>by kernel_rfl) rfl (by simp[Value.oneCell']) (by omega) (by rw[zza,hl];show i*2+(C.length-i)*2<=_;omega) ?_
  ·rw[show (C.length-i)*([Γ 0,Value.string ⟨#[]⟩]:Ξ).length=(cQ [Γ 0,.string ⟨#[]⟩] (C.length-i)).length from (l7 _ _).symm,e2];exact gj.hd
  intro u w hS;refine⟨some ⟨b,0,none⟩,C.length,cap,0,i,cap,rfl,rfl,⟨_,rfl⟩,rfl,by omega,by omega,by omega,?_⟩;rw[zzb (show ¬cap=0 by omega)];simp only[yyi,yye,uuk,xxp,xxo];have hS:=bF.mk (n:=i) (cap:=cap) (sz:=2) (rest:=cQ [Γ 0,.string ⟨#[]⟩] (C.length-i)++rest) (by omega) hA (by rw[zza,jD,l7];show (C.length-i)*2+_=_;omega) hS;rw[uz jt]at hS
  have cG:(D.take i).length=i:=by rw[zzg];omega
  refine⟨_,rfl,?_⟩;have hS:SL W (fJ (.slice (some ⟨b,0,none⟩) i cap) (D.take i)::.pt cb (dC c) 40::F) w:=by unfold fJ;rw[cG];exact hS
  exact aR hS
def cn1(t:Int)(l:List d_)(i:Nat)(h:i<l.length)(r:Row):lq t (l.take (i+1)) r=(lq t (l.take i) r || decide (l[i].table=t/\l[i].key=r.key)):=by
 unfold lq;rw[zze h,List.any_append];simp
def cU7(wp:Nat)(k:dM)(H:bw)(v:Ε)(l:List d_)(hv:de H 4 v l.length (l.map dC).flatten)(hn:k.rows.length<=1000000)(hl:l.length<=140737488351232):
  SP 287 [cH wp,v] [.ob (dN wp k),.mem H] (λu post=>(∃q,u= Γ q)/\post=[.ob (dN wp (k.rU l)),.mem H]):=by
 refine Enzz λW F w hS=>?_;apply cP1;delta aI bW a_ b_ ai cR;obtain⟨rv,hS⟩:=dN.iff.1 hS;unfold nc at hS;unfold dM.rU;refine cA (λh=>?_) (λh=>?_)
 ·rw[zzb h];exact⟨_,⟨⟨_,rfl⟩,rfl⟩,SL.cD (dN.put k rv hS Xp) Xi⟩
 rw[zzd (by omega)];refine Gp ?_;refine zz hS (v:=rv) (t:=54) (sz:=2) (n:=k.rows.length) (cells:=(k.rows.map eD).flatten) Xh ?_;refine zo hv ?_;refine⟨λus w=>∃(i:Nat) (ru:Ε),us=[Γ i]/\i<=l.length/\SL W (.pt wp [Γ k.mark,Γ k.after,Γ k.id,Γ k.table,ru,Γ k.dG,.bool k.last,Γ k.n,Γ k.state] 213::fJ ru (k.rows.filter λr=>!lq k.table (l.take i) r)::.mem H::F) w,
  λus _=>match us with|[.int _ i]=>(l.length-i).toNat|_=>0,⟨0,rv,rfl,by omega,?_⟩,?_⟩
 ·have:(k.rows.filter λr=>!lq k.table (l.take 0) r)=k.rows:=yy4.2 λr _=>by simp[lq]
  rw[this];exact aR hS
 clear hS;rintro v21 w ⟨i,ru,cT,hi,hS⟩;cases cT;refine cA (λh=>?_) (λh=>?_)
 ·have cG:i<l.length:=by omega
  have hx:l[i]?=some l[i]:=zzc cG;have nA:(k.rows.filter λr=>!lq k.table (l.take i) r).length<=k.rows.length:=yyp _ _;refine zF hS Xh oF hv hx cG ?_;have lx:∀r,lq k.table (l.take (i+1)) r=(lq k.table (l.take i) r || decide (l[i].table=k.table/\l[i].key=r.key)):=cn1 k.table l i cG;generalize l[i]=c at *
  refine Gb λxb w hS=>?_;refine za (λh2=>?_) (λh2=>?_)
  ·refine Gp ?_;refine Cc (bFr xb c ru (k.rows.filter λr=>!lq k.table (l.take i) r) (by omega)) ?_;clear hS;rintro u post rfl w hS;try simp only[app]at hS
   have hS:SL W (fJ u ((k.rows.filter λr=>!lq k.table (l.take i) r).filter λr=>!decide (r.key=c.key))::.pt xb (dC c) 40::.pt wp [Γ k.mark,Γ k.after,Γ k.id,Γ k.table,ru,Γ k.dG,.bool k.last,Γ k.n,Γ k.state] 213::.mem H::F) w:=aR hS;have o1:u.oneCell'=true:=bF.one hS;refine Gn λw hS=>?_;refine⟨⟨i+1,u,rfl,by omega,?_⟩,by dsimp only;omega⟩;have e:(k.rows.filter λr=>!lq k.table (l.take (i+1)) r)=((k.rows.filter λr=>!lq k.table (l.take i) r).filter λr=>!decide (r.key=c.key)):=by
    rw[List.filter_filter];refine uup λr _=>?_;rw[lx r];have:decide (c.table=k.table/\c.key=r.key)=decide (r.key=c.key):=by rw[yyj];omega
    rw[this];cases lq k.table (l.take i) r<;>cases decide (r.key=c.key)<;>rfl
   rw[e];exact aR hS
  refine Gp ?_;refine⟨⟨i+1,ru,rfl,by omega,?_⟩,by dsimp only;omega⟩;have e:(k.rows.filter λr=>!lq k.table (l.take (i+1)) r)=(k.rows.filter λr=>!lq k.table (l.take i) r):=by
   refine uup λr _=>?_;rw[lx r,zz3 (by omega),Bool.or_false]
  rw[e];exact aR hS
 have:l.take i=l:=zz7 (by omega);rw[this]at hS
 have nA:(k.rows.filter λr=>!lq k.table l r).length<=k.rows.length:=yyp _ _;refine Gp ?_;refine zz hS (v:=ru) (t:=54) (sz:=2) (n:=(k.rows.filter λr=>!lq k.table l r).length) (cells:=((k.rows.filter λr=>!lq k.table l r).map eD).flatten) Xh ?_;refine Gp ?_;exact⟨_,⟨⟨_,rfl⟩,rfl⟩,SL.cD (dN.put {k with rows:=k.rows.filter λr=>!lq k.table l r} ru hS Xp) Xi⟩
abbrev u7:iK:=⟨0,Θ,Θ⟩
def wI(wp:Nat)(k:dM)(H:bw)(mark aw:Int)(u:Ε)(post:Β):Prop:=match (k.high mark aw).2 with
 | none=>u= .tuple #[agg (eU u7),.bool false]/\post=[.ob (dN wp k),.mem H]
 | some t=>∃(x:iK) (H':bw),H.le H'/\u= .tuple #[agg (eU x),.bool true]/\ik H' x t/\post=[.ob (dN wp (nf k.n)),.mem H']
def Kr{a:Int}{u v:Ε}(h1:u.oneCell'=true)(h2:v.oneCell'=true):∀x∈[Γ a,u,v],x.oneCell'=true:=by
 intro x hx;simp only[zz1,xxs,vv1]at hx;rcases hx with rfl|rfl|rfl
 ·rfl
 ·exact h1
 exact h2
def Yw(wp:Nat)(k:dM)(H:bw)(mark aw:Int)(hn:k.rows.length<=1000000):SP 288 [cH wp,Γ mark,Γ aw] [.ob (dN wp k),.mem H] (wI wp k H mark aw):=by
 refine Enzz λW F w hS=>?_;apply cP2;delta aI bW a_ c_ aW b_ Cs ai cR bR;obtain⟨rv,hS⟩:=dN.iff.1 hS;have fK:∀{w:Ζ} {rb:Nat},k.uN mark aw->SL W (.pt rb [Γ 0,Θ,Θ] 240::.pt wp (nc k rv) 213::fJ rv k.rows::.mem H::F) w->∃post,wI wp k H mark aw (.tuple #[agg (eU u7),.bool false]) post/\SL W (app post F) w:=λh hS=>by
  have e:(k.high mark aw).2=none:=by unfold dM.high;rw[zzd h]
  refine⟨[.ob (dN wp k),.mem H],?_,SL.cD (dN.put k rv hS Xp) Xi⟩;unfold wI;rw[e];exact⟨rfl,rfl⟩
 refine Gb λrb w hS=>?_;refine za (λh=>?_) (λh1=>?_)
 ·refine Gn λw hS=>?_;exact fK (.inl h) hS
 refine cA (λh=>?_) (λh2=>?_)
 ·refine Gn λw hS=>?_;exact fK (.inr (.inl h)) hS
 refine cA (λh=>?_) (λh3=>?_)
 ·refine Gn λw hS=>?_;exact fK (.inr (.inr (by omega))) hS
 refine cA (λh=>?_) (λh4=>?_)
 ·refine Gn λw hS=>?_;exact fK (.inr (.inr (by omega))) hS
 clear fK;have cL:¬k.uN mark aw:=by unfold dM.uN;omega
 have e:(k.high mark aw).2=some ⟨aw,kq k aw,[rP k]⟩:=by unfold dM.high;rw[zzb cL]
 refine⟨λus w=>∃(b nb:Nat),us=[cH b]/\SL W (.pt b [Γ aw,Θ,.slice (some ⟨nb,0,none⟩) 1 1] 240::.pt nb [Γ 2,Γ k.id,Γ 0,Γ 0,Γ 0,Γ k.dG,.bool k.last] 392::.pt rb [Γ 0,Θ,Θ] 240::.pt wp (nc k rv) 213::fJ rv k.rows::.mem H::F) w,?_,?_⟩
 ·refine Gn λw hS=>?_;refine⟨?_,?_⟩
  ·refine Gb λnb w hS=>?_;refine Gb λb w hS=>?_;exact⟨b,nb,rfl,aR hS⟩
  refine Gb λb w hS=>?_;refine Gb λnb w hS=>?_;exact⟨b,nb,rfl,aR hS⟩
 clear hS;rintro v8 w ⟨b,nb,cT,hS⟩;cases cT;refine Gp ?_;refine zz hS (v:=rv) (t:=54) (sz:=2) (n:=k.rows.length) (cells:=(k.rows.map eD).flatten) Xh ?_;have xS:(kq k aw).length=k.rows.length:=zzn ..;have hS:SL W (.ob (bF Θ 389 5 ((kq k aw).take 0).length (((kq k aw).take 0).map jO).flatten)::_) w:=bF.nil hS;refine⟨λus w=>∃(i:Nat) (ov:Ε),us=[Γ i]/\i<=k.rows.length/\SL W (.ob (bF ov 389 5 ((kq k aw).take i).length (((kq k aw).take i).map jO).flatten)::.pt b [Γ aw,ov,.slice (some ⟨nb,0,none⟩) 1 1] 240::.pt nb [Γ 2,Γ k.id,Γ 0,Γ 0,Γ 0,Γ k.dG,.bool k.last] 392::.pt rb [Γ 0,Θ,Θ] 240::.pt wp (nc k rv) 213::fJ rv k.rows::.mem H::F) w,
  λus _=>match us with|[.int _ i]=>(k.rows.length-i).toNat|_=>0,⟨0,Θ,rfl,by omega,aR hS⟩,?_⟩
 clear hS;rintro v59 w ⟨i,ov,cT,hi,hS⟩;cases cT;refine cA (λh=>?_) (λh=>?_)
 ·have cG:i<k.rows.length:=by omega
  have hx:k.rows[i]?=some k.rows[i]:=zzc cG;have fj:(kq k aw)[i]'(by omega)=⟨aw,k.table,k.rows[i].key,false,k.rows[i].val⟩:=by unfold kq;rw[xx7]
  have gg:(kq k aw).take (i+1)=(kq k aw).take i++[⟨aw,k.table,k.rows[i].key,false,k.rows[i].val⟩]:=by rw[zze (by omega),fj]
  have FP:((kq k aw).take i).length=i:=by rw[zzg];omega
  refine zU hS (v:=rv) (t:=54) Xh jt hx cG ?_;generalize k.rows[i]=r at *
  refine Gb λxb w hS=>?_;refine Gb λyb w hS=>?_;refine yz (n:=((kq k aw).take i).length) (xs:=(kq k aw).take i) (y:=⟨aw,k.table,r.key,false,r.val⟩) (enc:=jO) hS Xr Xh xe (λx=>CL x) rfl (by omega) (by omega) λv2 w hS=>?_;have hS:=hS.rm (x:=(⟨aw,k.table,r.key,false,r.val⟩:gx));rw[<- gg]at hS
  have o1:v2.oneCell'=true:=bF.one hS;refine Gn λw hS=>?_;exact⟨⟨i+1,v2,rfl,by omega,aR hS⟩,by dsimp only;omega⟩
 have he:(kq k aw).take i=kq k aw:=zz7 (by omega);rw[he]at hS
 have o1:ov.oneCell'=true:=bF.one hS;refine Gp ?_;refine ZT hS Xu rfl (by simp) (by simp[Value.oneCell']) λw hS=>?_;simp only[List.take,List.drop,zzv,zzq]at hS;refine Gn λw hS=>?_;refine zt (vs:=[Γ aw,ov,.slice (some ⟨nb,0,none⟩) 1 1]) hS Xu rfl rfl (Kr o1 rfl) λw hS=>?_;refine Gp ?_;obtain⟨H1,du,jP,hS⟩:=zw (H:=H) (v:=ov) hS Xp;obtain⟨H2,dF,pY,hS⟩:=SL.KQ (sz:=7) (H:=H1) (b:=nb) hS Xp rfl;have hS:=fJ.nil hS;have hS:=dN.put (wp:=wp) (nf k.n) Θ hS Xp;refine⟨[.ob (dN wp (nf k.n)),.mem H2],?_,aR hS⟩;unfold wI;rw[e];exact⟨⟨aw,ov,.slice (some ⟨nb,0,none⟩) 1 1⟩,H2,bw.le_trans du dF,rfl,⟨rfl,jP.mono dF,pY⟩,rfl⟩
abbrev btc(e u l:Int):Ξ:=[Γ e,Γ u,Γ l]
abbrev iS(p:Nat)(e u l:Int):Μ:=.pt p (btc e u l) 222
def ZJ(p:Nat)(e u l now:Int)(he:1<=e/\e<=1073741824):SP 200 [Δ p,Γ now] [iS p e u l] (cE (.tuple #[]) [iS p e (jE e now) l]):=by
 refine Enzz λW F w hS=>?_;apply cNt;delta bW c_ ai;have e1:min (max now 0) 1125899906842624+e=jE e now:=rfl;refine Gn λw hS=>?_;rw[e1]at hS
 (exact cF hS)
def aW0(e now aw:Int)(he:1<=e/\e<=1073741824)(hn:0<=now/\now<=1125899906842624)(hl:0<=aw/\aw<=1099511627776):SP 143 [Γ e,Γ now,Γ aw] [] (λv post=>∃p:Nat,v= .tuple #[Δ p,Γ 0]/\post=[iS p e (jE e now) aw]):=by
 refine Enzz λW F w hS=>?_;apply cL7;delta aI b_ ai cY;refine Gp ?_;refine Χ ?_;refine Gp ?_;refine Χ ?_;refine Gp ?_;refine Χ ?_;refine Gp ?_;refine Χ ?_;refine Gp ?_;refine Χ ?_;refine Gp ?_;refine Χ ?_;refine Gp ?_;refine⟨_,rfl,zE hS λp w hS=>?_⟩;refine Gp ?_;refine Cg (ZJ p e 0 aw now he) λw hS=>?_;exact⟨_,⟨p,rfl,rfl⟩,aR hS⟩
def Yx(p:Nat)(e u l x:Int):SP 157 [Δ p,Γ x] [iS p e u l] (cE (.tuple #[]) [iS p e u (max l x)]):=by
 refine Enzz λW F w hS=>?_;apply cMk;delta bW c_;refine Gn λw hS=>?_;(exact cF hS)
def Zm(p:Nat)(e u l now at_ cr:Int):SP 81 [Δ p,Γ now,Γ at_,Γ cr] [iS p e u l] (cE (.bool (decide (u<=now/\(at_<=l\/0<cr)))) [iS p e u l]):=by
 refine Enzz λW F w hS=>?_;apply cT4;delta aI bW a_ b_ cz ai;refine cA (λh1=>?_) (λh1=>?_)
 ·refine cA (λh2=>?_) (λh2=>?_)
  ·rw[zzo (p:=u<=now/\(at_<=l\/0<cr)) ⟨by omega,.inl (by omega)⟩];(exact cF hS)
  refine Gp ?_;rw[show decide (u<=now/\(at_<=l\/0<cr))=decide (0<cr) from yyj.2 ⟨λh=>by omega,λh=>by omega⟩];(exact cF hS)
 rw[zz3 (p:=u<=now/\(at_<=l\/0<cr)) (by omega)];(exact cF hS)
def Qp(p:Nat)(e u l:Int):SP 68 [Δ p] [iS p e u l] (cE (Γ u) [iS p e u l]):=by
 intro W F w hS;apply cTr;delta a_ b_;(try simp only[app]at hS);refine Gp ?_;(exact cF hS)
def qr(p:Nat)(e u l:Int):SP 69 [Δ p] [iS p e u l] (cE (Γ l) [iS p e u l]):=by
 refine Enzz λW F w hS=>?_;apply cTs;delta bW;refine Gp ?_;(exact cF hS)
def yi(p:Nat)(e u l now at_ cr:Int)(he:1<=e/\e<=1073741824)(hr:u<=now/\(at_<=l\/0<cr)):SP 165 [Δ p,Γ now,Γ at_,Γ cr] [iS p e u l]
  (λv post=>if at_<=l then v= .tuple #[agg (eU u7),Γ 9]/\post=[iS p e (jE e now) l] else v= .tuple #[agg (eU ⟨at_,Θ,Θ⟩),Γ 8]/\post=[iS p e (jE e now) at_]):=by
 refine Enzz λW F w hS=>?_;apply cMt;delta aI bW c_ b_ cP ai bR;refine Gb λxb w hS=>?_;refine Cg (Zm p e u l now at_ cr) λw hS=>?_;refine zy (λh=>by rw[zzo hr]at h;cases h) (λ_=>?_);refine Gp ?_;refine Cg (ZJ p e u l now he) λw hS=>?_;refine za (λh=>?_) (λh=>?_)
 ·refine Gn λw hS=>?_;exact⟨_,(zzd h).mpr ⟨rfl,rfl⟩,aR hS⟩
 refine Gn λw hS=>?_;exact⟨_,(zzb h).mpr ⟨rfl,rfl⟩,aR hS⟩

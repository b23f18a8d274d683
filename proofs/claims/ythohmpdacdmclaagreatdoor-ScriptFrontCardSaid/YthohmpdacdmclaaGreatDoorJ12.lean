/- Part. -/
import Derived.Test.YthohmpdacdmclaaGreatDoorJ11
namespace Go.Proofs.YthohmpdacdmclaaGreatDoor
set_option linter.all false
open Go.RowKit
def uud:=@List.filter_congr
abbrev nJ(j:Nat):Nat:=400000*(j+1)
structure CB(cf:cX)(kc:cT)(n j:Nat)(AL:List bD)(xs:List bB)(c:bq):Prop where
 dk:c.s.k.d.Ok (nJ j)
 ops:c.s.k.d.ops<=250*(j+1)
 al:AL.length<=j
 sg:gX c.k.g (nJ j)
 st1:∀C∈c.k.ts,mJ C
 st2:∀C∈c.k.ts,C.length<=1000
 kT:c.k.ts.length=n
 kg:gX c.s.k.g (nJ j)
 run:runT n xs (re n)=some c.s.k.tr
 xl:xs.length<=j
 pl:c.s.k.plan.length<=1024
 lW:∀f∈c.s.k.plan,fI f=true
 wt:oN kc n c.s j
 eG:0<=c.s.eG/\c.s.eG<=4503599627370496
 mx:xK n cf.chunk c.m
 late:c.m.late=cf.late
 dr:c.dr.Ok
 ids:∀m∈c.dr.l,m.1<=c.m.reqs.length
 q:∀t∈c.q,c_ t=true
 ql:c.q.length<=kc.cap
 pos:0<=c.pos/\c.pos<=1099511627776
 last:0<=c.last/\c.last<=1099511627776
 due:0<=c.due/\c.due<=4503599627370496
 now:0<=c.now/\c.now<=1125899906842624
 dl:c.cE.length<=1024
 dw:∀x∈c.cE,0<=x/\x<=1125899906842624
def bq.kS(c:bq)(RS:List PF):bQ:={c.k with d:={c.s.k.d with R:=RS}}
def bq.kK(c:bq)(RK:List PF):bO:={c.s.k with d:={c.s.k.d with R:=RK}}
structure CA(cf:cX)(kc:cT)(n j:Nat)(AL:List bD)(tr:Nat)(xs hd:List bB)(RS RK:List PF)(c:bq):Prop where
 off:c.s.k.d.off=false
 dR:c.s.k.d.R=RS++RK
 kv:KV n tr (nJ j) AL (c.kS RS)
 si:ij n (c.kK RK) xs none
 kw:rn RS (c.kK RK)
 jW:iY kc n c.s hd c.last c.m.reqs j
 lZ:∀r∈c.s.k.reqs,r.table<(n:Int)/\r.at_<=c.s.k.aw
 tl:(tr:Int)<=c.s.k.aw
 la:c.last<=c.m.at_
 qp:c.pos=c.m.at_+c.q.length
 pl:c.pos<=AL.length
 qq:∀i (h:i<c.q.length),AL[c.m.at_.toNat+i]?=some c.q[i]
structure CD(n j:Nat)(AL:List bD)(t:Option bD)(tr:Nat)(xs:List bB)(m:Option bB)(RS RK:List PF)(c:bq):Prop where
 dR:c.s.k.d.R=RS++RK
 kd:KD n tr (nJ j) AL t {c.s.k.d with R:=RS}
 sd:∃o,ij n {c.s.k with d:={c.s.k.d with R:=RK,off:=o}} xs m
 kb:∀x∈RK,8192<=x.id/\x.id<12288
 nx:∀t',(t'=c.s.k.tr\/∃x,m=some x/\stepT n c.s.k.tr x=some t')->(∀r∈t'.2.1,r.table<(n:Int)/\r.at_<=t'.2.2)/\(tr:Int)<=t'.2.2/\t'.2.2<=AL.length
def dJ(cf:cX)(kc:cT)(n j:Nat)(AL:List bD)(c:bq):Prop:=∃tr xs hd RS RK,CB cf kc n j AL xs c/\CA cf kc n j AL tr xs hd RS RK c
def nT(cf:cX)(kc:cT)(n j:Nat)(AL:List bD)(c:bq):Prop:=c.s.k.d.off=true/\∃tr xs t m RS RK,CB cf kc n j AL xs c/\CD n j AL t tr xs m RS RK c
def CS(cf:cX)(kc:cT)(n j:Nat)(AL:List bD)(c:bq):Prop:=dJ cf kc n j AL c\/nT cf kc n j AL c
section
variable {cf:cX} {kc:cT} {n j:Nat} {AL:List bD} {tr:Nat} {xs hd:List bB} {RS RK:List PF} {c:bq}
def AW(j:Nat):nJ j<=nJ (j+1):=uuq _ (by omega)
def vD(j:Nat):nJ j=400000*j+400000:=by show 400000*(j+1)=_;omega
def JH(j:Nat):nJ (j+1)=nJ j+400000:=by show 400000*(j+1+1)=400000*(j+1)+400000;omega
def CB.mono(h:CB cf kc n j AL xs c):CB cf kc n (j+1) AL xs c:=
 ⟨h.dk.mono (AW j),by have:=h.ops;omega,by have:=h.al;omega,h.sg.mono (AW j),h.st1,h.st2,h.kT,h.kg.mono (AW j),h.run,by have:=h.xl;omega,h.pl,h.lW,h.wt.mono (by omega),h.eG,h.mx,h.late,h.dr,h.ids,h.q,h.ql,h.pos,h.last,h.due,h.now,h.dl,h.dw⟩
def CA.mono(h:CA cf kc n j AL tr xs hd RS RK c):CA cf kc n (j+1) AL tr xs hd RS RK c:=
 ⟨h.off,h.dR,h.kv.mono (AW j),h.si,h.kw,h.jW.mono (by omega),h.lZ,h.tl,h.la,h.qp,h.pl,h.qq⟩
def CD.mono{t:Option bD}{m:Option bB}(h:CD n j AL t tr xs m RS RK c):CD n (j+1) AL t tr xs m RS RK c:=⟨h.dR,h.kd.mono (AW j),h.sd,h.kb,h.nx⟩
def dJ.mono(h:dJ cf kc n j AL c):dJ cf kc n (j+1) AL c:=by
 obtain⟨tr,xs,hd,RS,RK,hb,ha⟩:=h;exact⟨tr,xs,hd,RS,RK,hb.mono,ha.mono⟩
def nT.mono(h:nT cf kc n j AL c):nT cf kc n (j+1) AL c:=by
 obtain⟨ho,tr,xs,t,m,RS,RK,hb,hd⟩:=h;exact⟨ho,tr,xs,t,m,RS,RK,hb.mono,hd.mono⟩
def CS.mono(h:CS cf kc n j AL c):CS cf kc n (j+1) AL c:=h.imp dJ.mono nT.mono
def DS.split{d:DS}{A B:List PF}(h:d.R=A++B):d={d with R:=A++B}:=by
 cases d
 grind
def CA.Xg(h:CA cf kc n j AL tr xs hd RS RK c):c.src=(c.kS RS).eh RK:=by
 unfold bq.src bq.kS bQ.eh b_;simp only[zzo];rw[<- DS.split h.dR]
def CA.bzk(h:CA cf kc n j AL tr xs hd RS RK c):c.s.k=(c.kK RK).eh RS:=by
 unfold bq.kK bO.eh b_;simp only[zz3];rw[<- DS.split h.dR]
def CA.hB(h:CA cf kc n j AL tr xs hd RS RK c):∀x∈RK,8192<=x.id:=λx hx=>(h.kw.w.m x hx).1
def Kd{xs:List bB}{t:Tr}(h:runT n xs (re n)=some t)(hl:xs.length<=240):TX t n 4:=by
 have:=TX.run (n:=n) xs (re n) t (244-xs.length) (by rw[show 244-xs.length+xs.length=244 by omega];exact TX.zero n 244 (by decide)) h;exact⟨⟨this.k.len,this.k.ok,W7 this.k.room (by omega),this.k.rq⟩,this.l0,this.l1,this.rq⟩
def CB.kok(h:CB cf kc n j AL xs c)(hj:j<=190)(n8:n<=8):Bw c.s.k (nJ j) 4:=by
 have ht:=Kd h.run (by have:=h.xl;omega);have ho:=h.ops;have gy:c.s.k.ts.length=n:=ht.k.len;have wU:=vD j;exact⟨h.kg,h.dk,by omega,by omega,h.pl,h.lW,by omega,ht.k.ok,ht.k.room,ht.k.rq⟩
def CB.Dv(h:CB cf kc n j AL xs c)(n1:1<=n)(n8:n<=8):iP c.src (nJ j):=⟨h.sg,h.dk,h.st1,h.st2,by rw[show c.src.ts=c.k.ts from rfl,h.kT];exact n1,by rw[show c.src.ts=c.k.ts from rfl,h.kT];exact n8⟩
def CB.S0(h:CB cf kc n j AL xs c)(hc:CC cf kc n):(c.kR cf).Good (nJ j):=by
 have hm:=h.mx;have H9:=hc.we;have hn:=hm.bz.nn;have ht:=hm.mA;have h1:=hc.n1;have h8:=hc.n8;exact⟨hm.may,⟨by show 1<=c.m.tables;omega,by show c.m.tables<=8;omega⟩,⟨hm.lF,hm.oQ⟩,by show c.m.bz.n<=64;omega,hm.bz.len,hm.bz.id,h.dr,h.ids,⟨hc.c1,hc.we⟩,h.Dv hc.n1 hc.n8⟩
def CA.nx(h:CA cf kc n j AL tr xs hd RS RK c):(∀r∈c.s.k.reqs,r.table<(n:Int)/\r.at_<=c.s.k.aw)/\(tr:Int)<=c.s.k.aw/\c.s.k.aw<=AL.length:=by
 have h1:=h.jW.aw;have h2:=h.la;have h3:=h.qp;have h4:=h.pl;exact⟨h.lZ,h.tl,by omega⟩
def CA.dead(h:CA cf kc n j AL tr xs hd RS RK c):CD n j AL none tr xs none RS RK c:=by
 refine⟨h.dR,h.kv.dead,⟨false,h.si.wd rfl ?_⟩,λx hx=>h.kw.w.m x hx,λt' ht=>?_⟩
 ·show false=c.s.k.d.off;rw[h.off]
 rcases ht with rfl|⟨x,hx,_⟩
 ·exact h.nx
 cases hx
def KV.ids{n tr N:Nat}{AL:List bD}{k:bQ}(h:KV n tr N AL k):∀x∈k.d.R,x.id<8192:=λx hx=>((h.Dw (B:=[]) (λx hx=>by cases hx)).w.m x hx).2
def CA.jg(h:CA cf kc n j AL tr xs hd RS RK c){k':bQ}{dO:List bD}{xz:Nat}(hk:KV n xz (nJ (j+1)) dO k')(lu:(xz:Int)<=c.s.k.aw)(hA:dO=AL\/∃x,dO=AL++[x]):CA cf kc n (j+1) dO xz xs hd k'.d.R RK (c.jg (k'.eh RK)):=by
 have hid:=hk.ids;have pU:∀(i:Nat) (t:bD),AL[i]?=some t->dO[i]?=some t:=λi t e=>by
  grind
 have hlen:AL.length<=dO.length:=by
  grind
 refine⟨hk.off,rfl,hk,h.si.wd rfl (hk.off.trans h.off.symm),⟨⟨hid,h.kw.w.m,λx hx=>(by cases hx)⟩,h.kw.g⟩,?_,h.lZ,lu,h.la,h.qp,by have:=h.pl;show c.pos<=_;omega,λi hi=>pU _ _ (h.qq i hi)⟩;have hp:=h.jW;exact⟨hp.it,hp.jf,hp.le,hp.hn,hp.held,hp.room,hp.out,hp.l0,hp.aw,hp.st,hp.f0,by have:=hp.f1;show c.s.fh<=_;omega⟩
def CA.W4(h:CA cf kc n j AL tr xs hd RS RK c){k':bQ}{t:Option bD}{xz:Nat}(hk:KD n xz (nJ (j+1)) AL t k'.d)(lu:(xz:Int)<=c.s.k.aw):CD n (j+1) AL t xz xs none k'.d.R RK (c.jg (k'.eh RK)):=by
 refine⟨rfl,hk,⟨false,?_⟩,λx hx=>h.kw.w.m x hx,λt' ht=>?_⟩
 ·exact h.si.wd (d':={b_ [] RK k'.d with R:=RK,off:=false}) rfl h.off.symm
 rcases ht with rfl|⟨x,hx,_⟩
 ·exact⟨h.lZ,lu,h.nx.2.2⟩
 cases hx
def CB.jg(h:CB cf kc n j AL xs c){k':bQ}{dO:List bD}(hs:iP k' (nJ (j+1)))(gy:k'.ts.length=n)(cZ:k'.d.ops<=250*(j+2))(hA:dO.length<=j+1):CB cf kc n (j+1) dO xs (c.jg k'):=by
 have hm:=h.mono;have hw:=hm.wt;exact⟨hs.d,cZ,hA,hs.g,hs.rows,hs.len,gy,hm.kg,hm.run,hm.xl,hm.pl,hm.lW,⟨hw.xW,hw.cap,hw.vC,hw.bI,hw.it,hw.jf,hw.room,hw.out,hw.held,hw.f0,hw.f1⟩,hm.eG,hm.mx,hm.late,hm.dr,hm.ids,hm.q,hm.ql,hm.pos,hm.last,hm.due,hm.now,hm.dl,hm.dw⟩
def aF5(k:bQ)(t:bD):(k.fL t).1.ts.length=k.ts.length:=by
 grind [bQ.fL,tw]
def dJ.fL(h:dJ cf kc n j AL c)(hc:CC cf kc n)(hj:j<=190){t:bD}(hm:c_ t=true)(lq:∀x∈t.changes,gu n x=true):
  (∃k',c.src.fL t=(k',((AL.length:Int)+1,0))/\dJ cf kc n (j+1) (AL++[nV t AL.length]) (c.jg k')) \/
  (∃k',c.src.fL t=(k',(0,8))/\nT cf kc n (j+1) AL (c.jg k')) \/
  (c.src.fL t=(c.src,(0,7))/\mh (eO n AL) t.changes=false):=by
 obtain⟨tr,xs,hd,RS,RK,hb,ha⟩:=h;have hw:=aF6 (ha.kv.Dw ha.hB) t;have oZ:=hb.al;have dY:=hb.ops;have T3:=JH j;have mu:=(hb.Dv hc.n1 hc.n8).add hm;have gy:=aF5 c.src t;have gy:(c.src.fL t).1.ts.length=n:=gy.trans hb.kT;rw[ha.Xg]at mu gy ⊢
 rcases ha.kv.add (by omega) hm lq with ⟨k',e,hk,_,ho⟩|⟨k',e,ho,hk,_,vq⟩|⟨e,hf⟩
 ·rw[e]at hw
  rw[hw.1]at mu gy ⊢
  have ho:k'.d.ops<=c.s.k.d.ops+2:=ho;refine .inl ⟨_,rfl,tr,xs,hd,_,RK,?_,ha.jg (hk.mono (by omega)) ha.tl (.inr ⟨_,rfl⟩)⟩;exact hb.jg (mu.mono (by omega)) gy (by show k'.d.ops<=_;omega) (by rw[zza,yyb];omega)
 ·rw[e]at hw
  rw[hw.1]at mu gy ⊢
  have vq:k'.d.ops<=c.s.k.d.ops+2:=vq;refine .inr (.inl ⟨_,rfl,ho,tr,xs,some (nV t AL.length),none,_,RK,?_,ha.W4 (hk.mono (by omega)) ha.tl⟩);exact hb.jg (mu.mono (by omega)) gy (by show k'.d.ops<=_;omega) (by omega)
 grind
theorem bcu(k:bQ):k.ia.1.ts=k.ts:=by
 grind [bQ.ia]
def bBn(k:bQ)(aw:Int):(k.gB aw).1.ts=k.ts:=by
 grind [bQ.gB,bcu]
def dJ.trim(h:dJ cf kc n j AL c)(hc:CC cf kc n)(hj:j<=190):(c.trim.2=0/\dJ cf kc n (j+1) AL c.trim.1)\/(c.trim.2≠0/\nT cf kc n (j+1) AL c.trim.1):=by
 obtain⟨tr,xs,hd,RS,RK,hb,ha⟩:=h;obtain⟨aw,hl⟩:=xxs ha.jW.l0;have hle:aw<=AL.length:=by have:=ha.nx.2.2;omega
 have lu:=ha.tl;have hw:=bBo (ha.kv.Dw ha.hB) (aw:Int);have oZ:=hb.al;have dY:=hb.ops;have T3:=JH j;have mu:=(hb.Dv hc.n1 hc.n8).trim (aw:Int);have gy:(c.src.gB aw).1.ts.length=n:=by rw[bBn];exact hb.kT
 unfold bq.trim;rw[hl];rw[ha.Xg]at mu gy ⊢
 rcases ha.kv.trim hc.n1 hc.n8 hle with ⟨k',e,hk,_,ho⟩|⟨k',e',e,he,ho,hk,_,vq⟩
 ·rw[e]at hw
  rw[hw.1]at mu gy ⊢
  have ho:k'.d.ops<=c.s.k.d.ops+(AL.length+5):=ho;refine .inl ⟨rfl,max tr aw,xs,hd,_,RK,?_,ha.jg (hk.mono (by omega)) (by rw[hl];omega) (.inl rfl)⟩;exact hb.jg (mu.mono (by omega)) gy (by show k'.d.ops<=_;omega) (by omega)
 rw[e]at hw
 rw[hw.1]at mu gy ⊢
 have vq:k'.d.ops<=c.s.k.d.ops+(AL.length+5):=vq;refine .inr ⟨he,ho,max tr aw,xs,none,none,_,RK,?_,ha.W4 (hk.mono (by omega)) (by rw[hl];omega)⟩;exact hb.jg (mu.mono (by omega)) gy (by show k'.d.ops<=_;omega) (by omega)
end
section
variable {cf:cX} {kc:cT} {n j:Nat} {AL:List bD} {tr:Nat} {xs hd:List bB} {RS RK:List PF} {c:bq}
def CA.head(h:CA cf kc n j AL tr xs hd RS RK c):c.head=AL.length:=h.kv.head
def CA.ord(h:CA cf kc n j AL tr xs hd RS RK c):(tr:Int)<=c.s.k.aw/\c.s.k.aw<=c.last/\c.last<=c.m.at_/\c.m.at_<=c.pos/\c.pos<=AL.length/\0<=c.s.k.aw:=by
 have:=h.jW.aw;have:=h.qp;exact⟨h.tl,h.jW.aw,h.la,by omega,h.pl,h.jW.l0⟩
def y'{comp:Int}(h:c.en kc comp=true):c.s.k.d.off=false:=by
 grind [bq.en]
def dJ.read(h:dJ cf kc n j AL c)(he:c.en kc 0=true):∃t,c.src.gA (c.pos+1)= .ok t/\c_ t=true/\c.read=({c with q:=c.q++[t],pos:=c.pos+1},⟨0,0,1⟩)/\dJ cf kc n (j+1) AL c.read.1:=by
 obtain⟨tr,xs,hd,RS,RK,hb,ha⟩:=h;have ho:=y' he;unfold bq.en at he;rw[zzb (by rw[ho];decide),zzc rfl,zz1,ha.head]at he
 obtain⟨o1,o2,o3,o4,o5,o6⟩:=ha.ord;obtain⟨p,hp⟩:=xxs hb.pos.1;have dm:p<AL.length:=by omega
 have hr:c.src.gA (c.pos+1)= .ok AL[p]:=by
  rw[hp];exact ha.kv.read (j:=p) (by omega) dm
 have lP:=ha.kv.lg.ok.may _ (zzk dm);have oZ:=hb.al;have cJ:c.read=({c with q:=c.q++[AL[p]],pos:=c.pos+1},⟨0,0,1⟩):=by unfold bq.read;rw[hr]
 refine⟨AL[p],hr,lP,cJ,?_⟩;rw[cJ];have hm:=hb.mono;have dK:=ha.mono;have hlen:=ha.kv.lg.len;refine⟨tr,xs,hd,RS,RK,⟨hm.dk,hm.ops,hm.al,hm.sg,hm.st1,hm.st2,hm.kT,hm.kg,hm.run,hm.xl,hm.pl,hm.lW,hm.wt,hm.eG,hm.mx,hm.late,hm.dr,hm.ids,λt ht=>?_,?_,?_,hm.last,hm.due,hm.now,hm.dl,hm.dw⟩,⟨dK.off,dK.dR,dK.kv,dK.si,dK.kw,dK.jW,dK.lZ,dK.tl,dK.la,?_,?_,λi hi=>?_⟩⟩
 ·rcases zz4.1 ht with ht|ht
  ·exact hm.q t ht
  grind
 ·grind
 ·grind
 ·show c.pos+1=c.m.at_+((c.q++[AL[p]]).length:Nat);rw[zza,yyb];have:=ha.qp;omega
 ·grind
 show AL[c.m.at_.toNat+i]?=some (c.q++[AL[p]])[i];have hi:i<(c.q++[AL[p]]).length:=hi;rw[zza,yyb]at hi
 have hq:=ha.qp;by_cases h1:i<c.q.length
 ·rw[yy2 h1];exact ha.qq i h1
 grind
def bc9(he:c.en kc 1=true):∃t q,c.q=t::q/\0<c.j8 kc/\c.m.bz.waits t.kind t.mark=false:=by
 grind [bq.en]
def dJ.take(h:dJ cf kc n j AL c)(hc:CC cf kc n)(he:c.en kc 1=true):∃t q m' x,c.q=t::q/\c_ t=true/\0<c.j8 kc/\c.m.take t=(m',(x,0))/\du x=true/\x.aw=t.aw/\c.take=(({c with q:=q,m:=m'}:bq).Bf x,⟨0,0,2⟩)/\dJ cf kc n (j+1) AL c.take.1:=by
 obtain⟨tr,xs,hd,RS,RK,hb,ha⟩:=h;obtain⟨t,q,hq,lN,hw⟩:=bc9 he;obtain⟨o1,o2,o3,o4,o5,o6⟩:=ha.ord;have lP:=hb.q t (by rw[hq];exact .head _);have bLe:=hb.mx.lF;have Ug:=ha.qp;have kF:t.aw=c.m.at_+1:=by
  have h1:=ha.qq 0 (by rw[hq];simp);simp only[hq,vvi]at h1;obtain⟨h2,h3⟩:=zzh.1 h1;have:=ha.kv.lg.ok.aw _ h2
  grind
 obtain⟨e0,hT⟩:=hb.mx.take lP kF hw hc.n8;have hk:=(bAs (t:=t) hb.mx.may hb.mx.bz.len (by rw[hb.mx.bz.nn];exact hc.we) hb.mx.bz.id ⟨hb.mx.lF,hb.mx.oQ⟩).1;obtain⟨m',x,e,ud⟩:∃m' x e,c.m.take t=(m',(x,e)):=⟨_,_,_,rfl⟩;rw[ud]at e0 hT hk
 simp only at e0 hT hk;subst e0;have vx:c.take=(({c with q:=q,m:=m'}:bq).Bf x,⟨0,0,2⟩):=by unfold bq.take;rw[hq];simp only[ud]
 refine⟨t,q,m',x,hq,lP,lN,ud,hT.it.w.may,hT.aw,vx,?_⟩;rw[vx];have hm:=hb.mono;have dK:=ha.mono;have iL:=hT.aw;have bL1:=hT.at_;have hlen:=ha.kv.lg.len;have Fc:=hb.ql;rw[hq]at Ug Fc
 simp only[zzi]at Ug Fc;have Uf:∀y∈q,c_ y=true:=λy hy=>hb.q y (by rw[hq];exact .tail _ hy);have wL:∀m∈c.dr.l,m.1<=(m'.reqs.length:Int):=λm ub=>by have:=hb.ids m ub;omega
 have Uh:∀i (hi:i<q.length),AL[m'.at_.toNat+i]?=some q[i]:=λi hi=>by
  have h1:=ha.qq (i+1) (by rw[hq];simp;omega)
  grind
 unfold bq.Bf;split
 ·rename_i cY;have hp:=ha.jW.put hT.it (by rw[iL,kF];omega) hT.nr (by unfold bq.j8 at lN;omega);have CL:=hp.mono (show j<=j+1 by omega);have wT:max c.last x.aw=x.aw:=by rw[iL,kF];omega
  refine⟨tr,xs,hd,RS,RK,⟨hm.dk,hm.ops,hm.al,hm.sg,hm.st1,hm.st2,hm.kT,hm.kg,hm.run,hm.xl,hm.pl,hm.lW,CL.inv hc,hm.eG,hT.ok,hT.late.trans hb.late,hm.dr,wL,Uf,by show q.length<=_;omega,hm.pos,?_,hm.due,hm.now,hm.dl,hm.dw⟩,⟨dK.off,dK.dR,dK.kv,dK.si,dK.kw,?_,dK.lZ,dK.tl,?_,?_,ha.pl,Uh⟩⟩
  ·grind
  ·show iY kc n _ hd (max c.last x.aw) m'.reqs (j+1);rw[wT];exact CL
  ·show max c.last x.aw<=m'.at_
   grind
  show c.pos=m'.at_+q.length
  grind
 rename_i cY;have IK:x.notes=[]:=yys.1 (by omega);have hR:m'.reqs=c.m.reqs:=by
  have:=hT.nr;rw[IK]at this
  exact (xx1 this).symm
 refine⟨tr,xs,hd,RS,RK,⟨hm.dk,hm.ops,hm.al,hm.sg,hm.st1,hm.st2,hm.kT,hm.kg,hm.run,hm.xl,hm.pl,hm.lW,hm.wt,hm.eG,hT.ok,hT.late.trans hb.late,hm.dr,wL,Uf,by show q.length<=_;omega,hm.pos,hm.last,hm.due,hm.now,hm.dl,hm.dw⟩,⟨dK.off,dK.dR,dK.kv,dK.si,dK.kw,?_,dK.lZ,dK.tl,?_,?_,ha.pl,Uh⟩⟩
 ·show iY kc n c.s hd c.last m'.reqs (j+1);rw[hR];exact dK.jW
 ·grind
 grind
def CB.su(h:CB cf kc n j AL xs c){w:cL}{dr:cH}(hw:iZ n cf.chunk w)(hd:dr.Ok)(hi:∀m∈dr.l,m.1<=c.m.reqs.length):CB cf kc n j AL xs {c with m:={c.m with bz:=w},dr:=dr}:=
 ⟨h.dk,h.ops,h.al,h.sg,h.st1,h.st2,h.kT,h.kg,h.run,h.xl,h.pl,h.lW,h.wt,h.eG,⟨h.mx.mA,h.mx.lF,h.mx.oQ,h.mx.may,h.mx.rq,hw⟩,h.late,hd,hi,h.q,h.ql,h.pos,h.last,h.due,h.now,h.dl,h.dw⟩
def CA.su(h:CA cf kc n j AL tr xs hd RS RK c)(w:cL)(dr:cH):CA cf kc n j AL tr xs hd RS RK {c with m:={c.m with bz:=w},dr:=dr}:=⟨h.off,h.dR,h.kv,h.si,h.kw,h.jW,h.lZ,h.tl,h.la,h.qp,h.pl,h.qq⟩
def dJ.su(h:dJ cf kc n j AL c){w:cL}{dr:cH}(hw:iZ n cf.chunk w)(hd:dr.Ok)(hi:∀m∈dr.l,m.1<=c.m.reqs.length):dJ cf kc n j AL {c with m:={c.m with bz:=w},dr:=dr}:=by
 obtain⟨tr,xs,ml,RS,RK,hb,ha⟩:=h;exact⟨tr,xs,ml,RS,RK,hb.su hw hd hi,ha.su w dr⟩
def nT.su(h:nT cf kc n j AL c){w:cL}{dr:cH}(hw:iZ n cf.chunk w)(hd:dr.Ok)(hi:∀m∈dr.l,m.1<=c.m.reqs.length):nT cf kc n j AL {c with m:={c.m with bz:=w},dr:=dr}:=by
 obtain⟨ho,tr,xs,t,m,RS,RK,hb,h⟩:=h;exact⟨ho,tr,xs,t,m,RS,RK,hb.su hw hd hi,⟨h.dR,h.kd,h.sd,h.kb,h.nx⟩⟩
def dJ.self(h:dJ cf kc n j AL c):dJ cf kc n j AL (c.jg c.src):=by
 obtain⟨tr,xs,hd,RS,RK,h,a⟩:=h;exact⟨tr,xs,hd,RS,RK,⟨h.dk,h.ops,h.al,h.sg,h.st1,h.st2,h.kT,h.kg,h.run,h.xl,h.pl,h.lW,h.wt,h.eG,h.mx,h.late,h.dr,h.ids,h.q,h.ql,h.pos,h.last,h.due,h.now,h.dl,h.dw⟩,⟨a.off,a.dR,a.kv,a.si,a.kw,a.jW,a.lZ,a.tl,a.la,a.qp,a.pl,a.qq⟩⟩
def boh{kind mark:Int}(hk:kind=2\/kind=3)(hm:1<=mark/\mark<=1099511627776):c_ ⟨1,kind,[],[],mark⟩=true:=ur.2 ⟨⟨yyj _,show (1:Int)<=1099511627776 by decide⟩,.inr ⟨hk,hm.1,hm.2,rfl,rfl⟩⟩
def dJ.mark(h:dJ cf kc n j AL c)(hc:CC cf kc n)(hj:j<=190){kind mark:Int}(hk:kind=2\/kind=3)(hm:1<=mark/\mark<=1099511627776):
  (∃k' x,c.src.mv kind mark=(k',((AL.length:Int)+1,0))/\dJ cf kc n (j+1) (AL++[x]) (c.jg k'))\/(∃k',c.src.mv kind mark=(k',(0,8))/\nT cf kc n (j+1) AL (c.jg k')):=by
 have ud:=boh hk hm;have e:c.src.mv kind mark=c.src.fL ⟨1,kind,[],[],mark⟩:=by unfold bQ.mv;rw[zzc ⟨hk,ud⟩]
 rw[e];have wI:lD n AL:=by obtain⟨_,_,_,_,_,_,ha⟩:=h;exact ha.kv.lg
 rcases h.fL hc hj ud (λx hx=>by cases hx) with ⟨k',e1,h1⟩|⟨k',e1,h1⟩|⟨_,hf⟩
 ·grind
 ·grind
 exfalso;have:mh (eO n AL) []=true:=by
  unfold mh;rw[zzs,zz7,zz7];exact⟨λx hx=>(by cases hx),λC hC=>zzm (wI.mA.2 C hC)⟩
 grind
def aIa{C:List Row}(h:mJ C)(key m:Int):∀r∈nj C key m,so r:=λr hr=>by
 unfold nj at hr;exact h.rows r (yy0.1 (yyg hr)).1
def dJ.snap(h:dJ cf kc n j AL c)(hc:CC cf kc n)(hj:j<=190)(he:c.en kc 2=true):
  (∃dO,dJ cf kc n (j+1) dO (c.snap cf).1/\(dO=AL\/∃x,dO=AL++[x])/\((c.snap cf).2=⟨0,0,3⟩\/(c.snap cf).2=⟨0,0,4⟩\/(c.snap cf).2=⟨0,0,5⟩))\/(nT cf kc n (j+1) AL (c.snap cf).1/\(c.snap cf).2=⟨8,0,0⟩):=by
 have ho:=y' he;obtain⟨tr,xs,hd,RS,RK,hb,ha⟩:=id h;have Iw:=hb.S0 hc;unfold bq.en at he;rw[zzb (by rw[ho];decide),zzb (by decide),zzb (by decide),zzc rfl]at he
 have pY:=hb.mx.bz;have nH:=ha.head;have oZ:=hb.al;unfold bq.snap eD.step;rw[zzb (by rw[show (c.kR cf).m=c.m from rfl,he];decide)];rw[show (c.kR cf).m=c.m from rfl];have eN:=pY.st;by_cases h0:c.m.bz.state=0
 ·rw[zzc h0];have dY:je c.m.reqs≠[]:=by
   grind [Dm]
  obtain⟨r,hr,IY,bMb⟩:=Iw.mB dY;obtain⟨CO,wY⟩:=Iw.row;have vh:(lz c.dr c.m.reqs).next.1.Ok:=CO.next;have jc:∀m∈(lz c.dr c.m.reqs).next.1.l,m.1<=c.m.reqs.length:=by rw[bqp];exact wY
  have hr:uz c.m.reqs (lz c.dr c.m.reqs).next.2=some r:=hr;have Fe:=hb.mx.rq r IY;unfold eD.C9 eD.vz eD.C';rw[show (c.kR cf).m=c.m from rfl,show (c.kR cf).d=c.dr from rfl,show (c.kR cf).k=c.src from rfl,hr];simp only;have hh:bH c.src.g.bf=AL.length:=nH;rw[hh];rcases h.mark hc hj (kind:=2) (mark:=(AL.length:Int)+1) (.inl rfl) (by omega) with ⟨k',x,e,h1⟩|⟨k',e,h1⟩
  ·rw[e];simp only;rw[zzb (by decide)];exact .inl ⟨_,h1.su (pY.ta Fe.1) vh jc,.inr ⟨x,rfl⟩,.inl rfl⟩
  rw[e];simp only;rw[zzc (by decide)];exact .inr ⟨h1.su pY vh jc,rfl⟩
 rw[zzb h0];by_cases h1:c.m.bz.state=1
 ·rw[zzc h1];have bj8:∀r∈c.src.wg c.m.bz.table c.m.bz.after cf.chunk,so r:=by
   unfold bQ.wg;have ht:=(pY.live h0).1;exact aIa (hb.st1 _ (Gg (by show 0<=c.m.bz.table/\c.m.bz.table<(c.k.ts.length:Int);rw[hb.kT];exact ht))) _ _
  exact .inl ⟨AL,(h.self.su (pY.fill hc.we bj8) hb.dr hb.ids).mono,.inl rfl,.inr (.inl rfl)⟩
 rw[zzb h1];unfold eD.Cy;rw[show (c.kR cf).m=c.m from rfl,show (c.kR cf).k=c.src from rfl];simp only;have AB:=(pY.live h0).2.2;rcases h.mark hc hj (kind:=3) (mark:=c.m.bz.mark) (.inr rfl) AB with ⟨k',x,e,h2⟩|⟨k',e,h2⟩
 ·rw[e];simp only;rw[zzb (by decide)];exact .inl ⟨_,h2.su pY.shut hb.dr hb.ids,.inr ⟨x,rfl⟩,.inr (.inr rfl)⟩
 rw[e];simp only;rw[zzc (by decide)];exact .inr ⟨h2.su pY hb.dr hb.ids,rfl⟩
def dJ.tell(h:dJ cf kc n j AL c)(hc:CC cf kc n)(he:c.en kc 4=true):dJ cf kc n (j+1) AL (c.tell cf).1/\((c.m.at_<=c.last/\(c.tell cf).2=⟨0,0,9⟩)\/(c.last<c.m.at_/\0<c.j8 kc/\du ⟨c.m.at_,[],[]⟩=true/\(c.tell cf).2=⟨0,0,8⟩)):=by
 have ho:=y' he;obtain⟨tr,xs,hd,RS,RK,hb,ha⟩:=h;unfold bq.en at he;rw[zzb (by rw[ho];decide),zzb (by decide),zzb (by decide),zzb (by decide),zzb (by decide),zzc rfl,zz1]at he
 have hm:=hb.mono;have dK:=ha.mono;have EO:0<=iM cf.every c.now/\iM cf.every c.now<=4503599627370496:=by
  have:=hc.e1;have:=hc.e2
  grind [iM]
 have hla:=hb.last;have gx:=hb.mx.oQ;unfold bq.tell;split
 ·rename_i hl;exact⟨⟨tr,xs,hd,RS,RK,⟨hm.dk,hm.ops,hm.al,hm.sg,hm.st1,hm.st2,hm.kT,hm.kg,hm.run,hm.xl,hm.pl,hm.lW,hm.wt,hm.eG,hm.mx,hm.late,hm.dr,hm.ids,hm.q,hm.ql,hm.pos,hm.last,EO,hm.now,hm.dl,hm.dw⟩,⟨dK.off,dK.dR,dK.kv,dK.si,dK.kw,dK.jW,dK.lZ,dK.tl,dK.la,dK.qp,dK.pl,dK.qq⟩⟩,.inl ⟨hl,rfl⟩⟩
 rename_i hl;have lN:0<c.j8 kc:=by omega
 have E5:th n ⟨c.m.at_,[],[]⟩:=th.empty (by omega);have hp:=ha.jW.put E5 (R':=c.m.reqs) (by show c.last<c.m.at_;omega) rfl (by unfold bq.j8 at lN;omega);have CL:=hp.mono (show j<=j+1 by omega);exact⟨⟨tr,xs,hd,RS,RK,⟨hm.dk,hm.ops,hm.al,hm.sg,hm.st1,hm.st2,hm.kT,hm.kg,hm.run,hm.xl,hm.pl,hm.lW,CL.inv hc,hm.eG,hm.mx,hm.late,hm.dr,hm.ids,hm.q,hm.ql,hm.pos,⟨hb.mx.lF,gx⟩,EO,hm.now,hm.dl,hm.dw⟩,⟨dK.off,dK.dR,dK.kv,dK.si,dK.kw,CL,dK.lZ,dK.tl,yyj _,dK.qp,dK.pl,dK.qq⟩⟩,.inr ⟨by omega,lN,E5.w.may,rfl⟩⟩
end
def JK{n:Nat}{b:Int}:∀(A:List gF) {L L':List Rq},fE L A=some L'->(∀r∈L,r.table<(n:Int)/\r.at_<=b)->(∀m∈A,iD m b=true/\(m.kind≠2->m.table<(n:Int)))->∀r∈L',r.table<(n:Int)/\r.at_<=b
 | [],L,L',h,hL,_=>by cases h;exact hL
 | m::A,L,L',h,hL,hA=>by
  unfold fE at h;cases hn:nO L m with
  | none=>rw[hn]at h;cases h
  | some L2=>
   rw[hn]at h
   refine JK A h (λr hr=>?_) λy hy=>hA y (.tail _ hy);obtain⟨hm1,t_⟩:=hA m (.head _);unfold nO at hn;split at hn
   ·grind [Rv]
   rename_i hk;split at hn
   ·rename_i L3 h3;split at hn
    ·cases hn;obtain⟨e,_⟩:=PS h3;rw[e]at hr
     rcases zz4.1 hr with hr|hr
     ·exact hL r hr
     rw[zz8.1 hr];obtain⟨_,_,h5⟩:=C_.1 hm1;refine⟨t_ hk,?_⟩;rcases h5 with h5|h5
     ·exact h5.2.2.2.2.2.2.1
     grind
    cases hn
   cases hn
def a_c{k:bO}{N:Nat}(hg:gX k.g N)(hd:k.d.Ok N)(x:bB):gX (k.eX x).1.g (N+400000)/\(k.eX x).1.d.Ok (N+400000):=by
 rcases aW9 k x with ⟨e1,e2⟩|⟨hm,⟨e1,e2⟩|⟨n,e1,e2⟩⟩
 ·rw[e1,e2];exact⟨hg.mono (by omega),hd.mono (by omega)⟩
 ·have hb:=(BP hm).2;rw[e1,e2];exact⟨(P3 hg _).mono (by omega),(P4 hd _).mono (by omega)⟩
 have hb:=(BP hm).2;rw[e1,e2];exact⟨(bAz hg _ _).mono (by omega),(bA5 hd _ _).mono (by omega)⟩
section
variable {cf:cX} {kc:cT} {n j:Nat} {AL:List bD} {tr:Nat} {xs hd:List bB} {RS RK:List PF} {c:bq}
def iY.notes{s:ed}{last:Int}{R:List Rq}{f:Nat}(h:iY kc n s hd last R f):∀m∈s.held.notes,iD m s.held.aw=true/\(m.kind≠2->m.table<(n:Int)):=λm hm=>by
 have h1:=eV.append.1 h.jf;have hJ:=C7 (n:=n) (l:=hd) (λx hx=>(h.it x (yyr _ hx)).w) h1.1;rw[h.held]at hm ⊢
 refine⟨hJ.JM m hm,λhk=>?_⟩;rw[U7]at hm
 unfold jV at hm;obtain⟨l,hl,hm⟩:=wwi.1 hm;obtain⟨x,hx,rfl⟩:=zz5.1 hl;exact (h.it x (yyr _ hx)).nt m hm hk
theorem Bg{k:bO}{a:List (List Cell)}{L:List Rq}{l:Int}(h:k.tr=(a,L,l)):k.ts=a/\k.reqs=L/\k.aw=l:=by
 grind [bO.tr]
def dJ.write(h:dJ cf kc n j AL c)(hc:CC cf kc n)(hj:j<=190)(he:c.en kc 3=true):
  (dJ cf kc n (j+1) AL (c.write kc).1/\((c.write kc).2=⟨0,0,6⟩\/(c.write kc).2=⟨0,0,7⟩))\/(nT cf kc n (j+1) AL (c.write kc).1/\(c.write kc).2=⟨8,0,0⟩):=by
 have ho:=y' he;obtain⟨tr,xs,hd,RS,RK,hb,ha⟩:=h;unfold bq.en at he;rw[zzb (by rw[ho];decide),zzb (by decide),zzb (by decide),zzb (by decide),zzc rfl]at he
 obtain⟨ml,hP,cY,hk,_,_⟩:=ha.jW.hold hc.b1 he;obtain⟨hm,hl,L,Am,EB⟩:=hP.fits hc cY;have T4:=hP.notes;have eN:c.s.step kc c.now c.draw=(c.s.hold kc.bI).hand kc c.now c.draw:=by unfold ed.step;rw[zzc he]
 have Fb:=ha.ord;have hM:=hb.mono;have hA:=ha.mono;have iL:=hb.xl;have dY:=hb.ops;have ID:nJ j+400000=nJ (j+1):=by show 400000*(j+1)+400000=400000*(j+1+1);omega
 have fw:=a_c hb.kg hb.dk (c.s.hold kc.bI).held;rw[ID]at fw
 have heq:=ha.bzk;have C4:=a_d ha.kw (c.s.hold kc.bI).held;have ka:=a_a ha.si (L:=L) hb.dk.oP ha.off (by omega) hb.lW hm (λb9=>by have h1:=Am (by rw[hk];exact b9);rw[hk]at h1;exact h1.1);have Ip:(c.s.hold kc.bI).k.eX (c.s.hold kc.bI).held=(((c.kK RK).eX (c.s.hold kc.bI).held).1.eh RS,((c.kK RK).eX (c.s.hold kc.bI).held).2):=by
  grind
 have gU:c.s.k.eX (c.s.hold kc.bI).held=(((c.kK RK).eX (c.s.hold kc.bI).held).1.eh RS,((c.kK RK).eX (c.s.hold kc.bI).held).2):=by rw[<- hk];exact Ip
 rw[gU]at fw
 have vn:=C4.2;generalize (c.kK RK).eX (c.s.hold kc.bI).held=ke at *
 obtain⟨k',e⟩:=ke;simp only at fw vn ka Ip;have Av:(c.s.hold kc.bI).k.reqs=c.s.k.reqs/\(c.s.hold kc.bI).k.aw=c.s.k.aw:=by rw[hk];exact⟨rfl,rfl⟩
 rw[Av.1,Av.2]at Am EB
 have mn:ir 0 ml<=c.last:=by
  have h1:=eV.append.1 hP.jf;have h2:=hP.le;rw[Jr]at h2
  have:=h1.2.last;omega
 have cZ:k'.d.ops<=250*(j+2):=by have:=ka.ops;have h2:(c.kK RK).d.ops=c.s.k.d.ops:=rfl;omega
 have dm:k'.plan.length<=1024:=yy1 ka.pl hb.pl;have AE:∀f∈k'.plan,fI f=true:=λf hf=>hb.lW f (ka.plan f hf);have o8:(b_ RS [] k'.d).R=RS++k'.d.R:=by show RS++k'.d.R++[]=_;rw[zz3]
 have bMj:∀{t:Tr},t=c.s.k.tr->t.2.1=c.s.k.reqs/\t.2.2=c.s.k.aw:=λh=>by rw[h];exact⟨rfl,rfl⟩
 have jR:(k'.tr=c.s.k.tr/\k'.reqs=c.s.k.reqs/\k'.aw=c.s.k.aw)\/(c.s.k.aw<(c.s.hold kc.bI).held.aw/\k'.tr=((ep c.s.k.ts (c.s.hold kc.bI).held.ops).1,L,(c.s.hold kc.bI).held.aw)/\k'.reqs=L/\k'.aw=(c.s.hold kc.bI).held.aw)->(∀r∈k'.reqs,r.table<(n:Int)/\r.at_<=k'.aw)/\(tr:Int)<=k'.aw/\k'.aw<=c.last:=by
  rintro (⟨_,h2,h3⟩|⟨h1,_,h2,h3⟩)
  ·rw[h2,h3];exact⟨ha.lZ,ha.tl,ha.jW.aw⟩
  rw[h2,h3];obtain⟨_,_,hn⟩:=B_ (Am h1).1;refine⟨JK _ hn (λr hr=>?_) T4,by omega,by rw[hl];exact mn⟩;have:=ha.lZ r hr
  grind
 unfold bq.write;rw[eN];unfold ed.hand;rw[Ip];simp only;have bkl:0<=rD c.now+rj ((c.s.hold kc.bI).fh+1) kc.b kc.m kc.j c.draw/\rD c.now+rj ((c.s.hold kc.bI).fh+1) kc.b kc.m kc.j c.draw<=4503599627370496:=by
  have h1:=Rx c.now;have h2:=X4 (k:=(c.s.hold kc.bI).fh+1) (b:=kc.b) (m:=kc.m) (j:=kc.j) (draw:=c.draw);omega
 rcases ka.res with ⟨rfl,r1,⟨bZ,r2,r3⟩,r4⟩|⟨rfl,r1,⟨bZ,r2,r3⟩,r4⟩|⟨rfl,r1,r2,⟨m',r3,r4⟩,r5⟩
 ·rw[zzc rfl];refine .inl ⟨?_,.inl ?_⟩
  ·have E4:(k'.tr=c.s.k.tr/\k'.reqs=c.s.k.reqs/\k'.aw=c.s.k.aw)\/(c.s.k.aw<(c.s.hold kc.bI).held.aw/\k'.tr=((ep c.s.k.ts (c.s.hold kc.bI).held.ops).1,L,(c.s.hold kc.bI).held.aw)/\k'.reqs=L/\k'.aw=(c.s.hold kc.bI).held.aw):=by
    rcases r4 with ⟨a,b⟩|⟨a,b⟩
    ·have:=Bg b;exact .inr ⟨a,b,this.2.1,this.2.2⟩
    have h2:k'.tr=(c.s.k.ts,c.s.k.reqs,c.s.k.aw):=b;have:=Bg h2;exact .inl ⟨b,this.2.1,this.2.2⟩
   obtain⟨q1,q2,q3⟩:=jR E4;have TQ:k'.aw=ir 0 ml/\fE k'.reqs (jV (c.s.hold kc.bI).L)=some c.m.reqs:=by
    grind [Bg]
   have Ci:=(hP.done (k':=k'.eh RS) TQ.1 TQ.2).mono (show j<=j+1 by omega);refine⟨tr,bZ,[],RS,k'.d.R,⟨fw.2,cZ,hM.al,hM.sg,hM.st1,hM.st2,hM.kT,fw.1,r2.run,by omega,dm,AE,Ci.inv hc,⟨yyj _,show (0:Int)<=4503599627370496 by decide⟩,hM.mx,hM.late,hM.dr,hM.ids,hM.q,hM.ql,hM.pos,hM.last,hM.due,hM.now,hM.dl,hM.dw⟩,⟨r1,o8,?_,r2,vn,Ci,q1,q2,hA.la,hA.qp,hA.pl,hA.qq⟩⟩;exact hA.kv.wd (d':={b_ RS [] k'.d with R:=RS}) rfl r1 fw.2.oP fw.2.pB
  rfl
 ·rw[zzb (by decide),zzc rfl];refine .inl ⟨?_,.inr ?_⟩
  ·have E4:(k'.tr=c.s.k.tr/\k'.reqs=c.s.k.reqs/\k'.aw=c.s.k.aw)\/(c.s.k.aw<(c.s.hold kc.bI).held.aw/\k'.tr=((ep c.s.k.ts (c.s.hold kc.bI).held.ops).1,L,(c.s.hold kc.bI).held.aw)/\k'.reqs=L/\k'.aw=(c.s.hold kc.bI).held.aw):=by
    rcases r4 with ⟨a,b⟩|b
    ·have:=Bg b;exact .inr ⟨a,b,this.2.1,this.2.2⟩
    have h2:k'.tr=(c.s.k.ts,c.s.k.reqs,c.s.k.aw):=b;have:=Bg h2;exact .inl ⟨b,this.2.1,this.2.2⟩
   obtain⟨q1,q2,q3⟩:=jR E4;have Ci:=hP.again cY (k':=k'.eh RS) (by
    rcases E4 with ⟨_,a,b⟩|⟨a,_,b,d⟩
    ·exact .inl ⟨b.trans Av.2.symm,a.trans Av.1.symm⟩
    exact .inr ⟨d.trans hl,by show fE k'.reqs _=_;rw[b];exact (Am a).2⟩) (rD c.now+rj ((c.s.hold kc.bI).fh+1) kc.b kc.m kc.j c.draw)
   refine⟨tr,bZ,ml,RS,k'.d.R,⟨fw.2,cZ,hM.al,hM.sg,hM.st1,hM.st2,hM.kT,fw.1,r2.run,by omega,dm,AE,Ci.inv hc,bkl,hM.mx,hM.late,hM.dr,hM.ids,hM.q,hM.ql,hM.pos,hM.last,hM.due,hM.now,?_,?_⟩,⟨r1,o8,?_,r2,vn,Ci,q1,q2,hA.la,hA.qp,hA.pl,hA.qq⟩⟩
   ·show (if (7:Int)=7 then c.cE.tail else c.cE).length<=1024;have:=hM.dl
    grind
   ·show ∀x∈(if (7:Int)=7 then c.cE.tail else c.cE),_;rw[zzc rfl];exact λx hx=>hM.dw x (List.mem_of_mem_tail hx)
   exact hA.kv.wd (d':={b_ RS [] k'.d with R:=RS}) rfl r1 fw.2.oP fw.2.pB
  rfl
 rw[zzb (by decide),zzb (by decide)];have h2:k'.tr=(c.s.k.ts,c.s.k.reqs,c.s.k.aw):=r5;have h3:=Bg h2;obtain⟨q1,q2,q3⟩:=jR (.inl ⟨r5,h3.2.1,h3.2.2⟩);have hw:=hP.inv hc;refine .inr ⟨⟨r1,tr,xs,none,m',RS,k'.d.R,⟨fw.2,cZ,hM.al,hM.sg,hM.st1,hM.st2,hM.kT,fw.1,?_,hM.xl,dm,AE,⟨hw.xW,hw.cap,hw.vC,hw.bI,hw.it,hw.jf,hw.room,hw.out,hw.held,hw.f0,by have:=hw.f1;show (c.s.hold kc.bI).fh<=_;omega⟩,?_,hM.mx,hM.late,hM.dr,hM.ids,hM.q,hM.ql,hM.pos,hM.last,hM.due,hM.now,hM.dl,hM.dw⟩,⟨o8,?_,⟨true,?_⟩,λx hx=>vn.w.m x hx,λt' ht=>?_⟩⟩,rfl⟩
 ·exact r3.run
 ·show 0<=(c.s.hold kc.bI).eG/\(c.s.hold kc.bI).eG<=_;have:(c.s.hold kc.bI).eG=c.s.eG:=by unfold ed.hold;split<;>rfl
  rw[this];exact hb.eG
 ·exact (hA.kv.dead).wd (d':={b_ RS [] k'.d with R:=RS}) rfl fw.2.oP fw.2.pB
 ·exact r3.wd (d':={b_ RS [] k'.d with R:=k'.d.R,off:=true}) rfl r1.symm
 have CO:(k'.eh RS).tr=c.s.k.tr:=r5;rcases ht with rfl|⟨x,hx,hs⟩
 ·grind
 obtain⟨rfl,b9⟩:=r4 x hx;have b9:c.s.k.aw<(c.s.hold kc.bI).held.aw:=b9;rw[CO,Kq (t:=c.s.k.tr) (Am b9).1 b9]at hs
 cases hs;obtain⟨_,_,hn⟩:=B_ (Am b9).1;refine⟨JK _ hn (λr hr=>?_) T4,by show (tr:Int)<=(c.s.hold kc.bI).held.aw;omega,by show (c.s.hold kc.bI).held.aw<=_;rw[hl];omega⟩
 grind
def CS.fault(h:CS cf kc n j AL c)(f:eK):CS cf kc n (j+1) AL (c.fault f).1:=by
 unfold bq.fault;split
 ·exact h.mono
 rename_i hf;split
 ·exact h.mono
 rename_i hl;have hf:fI f=true:=by cases hq:fI f with
  | true=>rfl
  | false=>exact absurd hq hf
 have hpm:∀g∈c.s.k.plan++[f],(∀g∈c.s.k.plan,fI g=true)->fI g=true:=λg hg hp=>by
  grind
 have dm:(c.s.k.plan++[f]).length<=1024:=by rw[zza,yyb];omega
 have hB:∀xs,CB cf kc n j AL xs c->CB cf kc n (j+1) AL xs {c with s:={c.s with k:={c.s.k with plan:=c.s.k.plan++[f]}}}:=λxs hb=>by
  have h:=hb.mono;have hw:=h.wt;exact⟨h.dk,h.ops,h.al,h.sg,h.st1,h.st2,h.kT,h.kg,h.run,h.xl,dm,λg hg=>hpm g hg h.lW,⟨hw.xW,hw.cap,hw.vC,hw.bI,hw.it,hw.jf,hw.room,hw.out,hw.held,hw.f0,hw.f1⟩,h.eG,h.mx,h.late,h.dr,h.ids,h.q,h.ql,h.pos,h.last,h.due,h.now,h.dl,h.dw⟩
 rcases h with ⟨tr,xs,hd,RS,RK,hb,a⟩|⟨ho,tr,xs,t,m,RS,RK,hb,a⟩
 ·have a:=a.mono;have hp:=a.jW;exact .inl ⟨tr,xs,hd,RS,RK,hB xs hb,⟨a.off,a.dR,a.kv,a.si.plan _,⟨a.kw.w,a.kw.g⟩,⟨hp.it,hp.jf,hp.le,hp.hn,hp.held,hp.room,hp.out,hp.l0,hp.aw,hp.st,hp.f0,hp.f1⟩,a.lZ,a.tl,a.la,a.qp,a.pl,a.qq⟩⟩
 have a:=a.mono;obtain⟨o,CU⟩:=a.sd;exact .inr ⟨ho,tr,xs,t,m,RS,RK,hB xs hb,⟨a.dR,a.kd,⟨o,CU.plan _⟩,a.kb,a.nx⟩⟩
def CS.VV(h:CS cf kc n j AL c){now:Int}{dw:Ω}(hn:0<=now/\now<=1125899906842624)(hl:dw.length<=1024)(hd:∀x∈dw,0<=x/\x<=1125899906842624):CS cf kc n (j+1) AL {c with now:=now,cE:=dw}:=by
 have hB:∀xs,CB cf kc n j AL xs c->CB cf kc n (j+1) AL xs {c with now:=now,cE:=dw}:=λxs hb=>by
  have h:=hb.mono;exact⟨h.dk,h.ops,h.al,h.sg,h.st1,h.st2,h.kT,h.kg,h.run,h.xl,h.pl,h.lW,h.wt,h.eG,h.mx,h.late,h.dr,h.ids,h.q,h.ql,h.pos,h.last,h.due,hn,hl,hd⟩
 rcases h with ⟨tr,xs,hd,RS,RK,hb,a⟩|⟨ho,tr,xs,t,m,RS,RK,hb,a⟩
 ·have a:=a.mono;exact .inl ⟨tr,xs,hd,RS,RK,hB xs hb,⟨a.off,a.dR,a.kv,a.si,a.kw,a.jW,a.lZ,a.tl,a.la,a.qp,a.pl,a.qq⟩⟩
 have a:=a.mono;exact .inr ⟨ho,tr,xs,t,m,RS,RK,hB xs hb,⟨a.dR,a.kd,a.sd,a.kb,a.nx⟩⟩
def CS.nu(h:CS cf kc n j AL c):∃xs,CB cf kc n j AL xs c:=by
 rcases h with ⟨tr,xs,hd,RS,RK,hb,_⟩|⟨_,tr,xs,t,m,RS,RK,hb,_⟩
 ·exact⟨xs,hb⟩
 exact⟨xs,hb⟩
def CS.tick(h:CS cf kc n j AL c)(x:Int):CS cf kc n (j+1) AL (c.tick x).1:=by
 obtain⟨xs,hb⟩:=h.nu;have h1:=hb.now;unfold bq.tick;split
 ·exact h.mono
 split
 ·exact h.mono
 exact h.VV (now:=c.now+x) (dw:=c.cE) (by omega) hb.dl hb.dw
def CS.drawn(h:CS cf kc n j AL c)(x:Int):CS cf kc n (j+1) AL (c.drawn x).1:=by
 obtain⟨xs,hb⟩:=h.nu;unfold bq.drawn;split
 ·exact h.mono
 split
 ·exact h.mono
 refine h.VV (now:=c.now) (dw:=c.cE++[x]) hb.now (by rw[zza,yyb];omega) λy hy=>?_;rcases zz4.1 hy with hy|hy
 ·exact hb.dw y hy
 grind
def CS.arm(h:CS cf kc n j AL c)(x:Int):CS cf kc n (j+1) AL (c.wa x).1:=by
 unfold bq.wa;split
 ·exact h.mono
 rename_i hx;have sS:0<=(c.s.k.d.pC x).arm:=by show 0<=max x 0;omega
 have lM:(c.s.k.d.pC x).arm<=9223372036854775807:=by show max x 0<=_;omega
 have hB:∀xs,CB cf kc n j AL xs c->CB cf kc n (j+1) AL xs {c with s:={c.s with k:={c.s.k with d:=c.s.k.d.pC x}}}:=λxs hb=>by
  have h:=hb.mono;have hw:=h.wt;exact⟨h.dk.wd rfl sS lM,h.ops,h.al,h.sg,h.st1,h.st2,h.kT,h.kg,h.run,h.xl,h.pl,h.lW,⟨hw.xW,hw.cap,hw.vC,hw.bI,hw.it,hw.jf,hw.room,hw.out,hw.held,hw.f0,hw.f1⟩,h.eG,h.mx,h.late,h.dr,h.ids,h.q,h.ql,h.pos,h.last,h.due,h.now,h.dl,h.dw⟩
 rcases h with ⟨tr,xs,hd,RS,RK,hb,a⟩|⟨ho,tr,xs,t,m,RS,RK,hb,a⟩
 ·have a:=a.mono;have hp:=a.jW;exact .inl ⟨tr,xs,hd,RS,RK,hB xs hb,⟨a.off,a.dR,a.kv.wd (d':={c.s.k.d.pC x with R:=RS}) rfl a.off sS lM,a.si.wd (d':={c.s.k.d.pC x with R:=RK}) rfl rfl,⟨a.kw.w,a.kw.g⟩,⟨hp.it,hp.jf,hp.le,hp.hn,hp.held,hp.room,hp.out,hp.l0,hp.aw,hp.st,hp.f0,hp.f1⟩,a.lZ,a.tl,a.la,a.qp,a.pl,a.qq⟩⟩
 have a:=a.mono;obtain⟨o,CU⟩:=a.sd;exact .inr ⟨ho,tr,xs,t,m,RS,RK,hB xs hb,⟨a.dR,a.kd.wd (d':={c.s.k.d.pC x with R:=RS}) rfl sS lM,⟨o,CU.wd (d':={c.s.k.d.pC x with R:=RK,off:=o}) rfl rfl⟩,a.kb,a.nx⟩⟩
end
def brp{d d':DS}{n size:Int}{k:bO}(h:jH d n size=(d',.ok k)):dN d 8192 size=(d',.ok k.g)/\k.d=d'/\k.plan=[]:=by
 grind [jH]
def ij.base{n:Nat}{k:bO}{xs:List bB}(h:ij n k xs none)(ho:k.d.off=false):k.g.base=8192:=by
 rcases h.st with ⟨_,h⟩|⟨_,h⟩|⟨h,_⟩
 ·exact h
 ·exact h
 grind
def a_l(A B:List PF)(keep:Ω):dU (A++B) keep=dU A keep++dU B (keep.drop A.length):=by
 have:=RH A B [] keep
 grind [dU]
section
variable {cf:cX} {kc:cT} {n j:Nat} {AL:List bD} {tr:Nat} {xs hd:List bB} {RS RK:List PF} {c:bq}
def dJ.ny(h:dJ cf kc n j AL c)(hc:CC cf kc n)(hj:j<=190)(s:cx):
  (∃x,dJ cf kc n (j+1) (AL++[x]) (c.ny s).1/\(c.ny s).2=⟨0,(AL.length:Int)+1,0⟩)\/(nT cf kc n (j+1) AL (c.ny s).1/\(c.ny s).2=⟨8,0,0⟩)\/(c.src.nz s.sg s.l=(c.src,(0,1))\/c.src.nz s.sg s.l=(c.src,(0,7))):=by
 have gy:c.src.ts.length=n:=by obtain⟨_,_,_,_,_,hb,_⟩:=h;exact hb.kT
 unfold bq.ny bQ.nz;split
 ·rename_i hm;have lq:∀x∈s.l,gu n x=true:=λx hx=>by
   have h1:=uq.1 ((kr hm.1).2.2.2.2.2.1 x hx);have h2:=hm.2 x hx;exact zzm ⟨h1.1,by omega⟩
  rcases h.fL hc hj (t:=⟨1,1,s.l,s.sg,0⟩) hm.1 lq with ⟨k',e,h1⟩|⟨k',e,h1⟩|⟨e,_⟩
  ·grind
  ·grind
  grind
 grind
def dJ.start(hc:CC cf kc n){k1:bQ}{k2:bO}{now:Int}(CH:0<=now/\now<=1125899906842624)(hk:KV n tr (nJ j) AL k1)(hs:ij n k2 xs none)(ho:k2.d.off=false)(vn:rn k1.d.R k2)(dm:k2.plan=[])(hg:gX k2.g (nJ j))(hd:(b_ k1.d.R [] k2.d).Ok (nJ j))(cZ:k2.d.ops<=250*(j+1))(oZ:AL.length<=j)(iL:xs.length<=j)(hj:j<=200)
  (mq:∀r∈k2.reqs,r.table<(n:Int)/\r.at_<=k2.aw) (h0:(tr:Int)<=k2.aw) (h1:k2.aw<=AL.length) (B:List PF):dJ cf kc n j AL (bq.start cf (k1.eh B) (k2.eh k1.d.R) now):=by
 have hT:=Kd hs.run (by omega);have pR:0<=k2.aw:=hT.l0;have tZ:k2.aw<=1099511627776:=hT.l1;have IY:fq k2.reqs:=hT.rq;have hP:iY kc n ⟨k2.eh k1.d.R,[],0,0,0,mX,0⟩ [] k2.aw k2.reqs j:=
  ⟨λx hx=>(by cases hx),trivial,by show (0:Int)<=k2.aw;exact pR,rfl,rfl,zz6 _,rfl,pR,yyj _,.inl ⟨trivial,rfl⟩,yyj _,by show (0:Int)<=(j:Int);omega⟩
 have EO:0<=iM cf.every now/\iM cf.every now<=4503599627370496:=by
  have:=hc.e1;have:=hc.e2
  grind [iM]
 have o8:(b_ k1.d.R [] k2.d).R=k1.d.R++k2.d.R:=by show k1.d.R++k2.d.R++[]=_;rw[zz3]
 refine⟨tr,xs,[],k1.d.R,k2.d.R,⟨hd,cZ,oZ,hk.ok.g,hk.ok.rows,hk.ok.len,by show k1.ts.length=n;rw[hk.ts,po],hg,hs.run,iL,by show k2.plan.length<=1024;rw[dm];decide,by show ∀f∈k2.plan,_;rw[dm];simp,hP.inv hc,⟨yyj _,show (0:Int)<=4503599627370496 by decide⟩,⟨hc.tables,pR,tZ,IY,mq,iZ.l6 n cf.chunk⟩,rfl,bcx,λm hm=>(by cases hm),λt ht=>(by cases ht),zz6 _,⟨pR,tZ⟩,⟨pR,tZ⟩,EO,CH,zz6 _,λx hx=>(by cases hx)⟩,
  ⟨ho,o8,?_,hs,vn,hP,mq,h0,yyj _,by show k2.aw=k2.aw+(0:Nat);omega,h1,λi hi=>(by cases hi)⟩⟩
 exact hk.wd (d':={b_ k1.d.R [] k2.d with R:=k1.d.R}) rfl ho hd.oP hd.pB
def CD.dB{t:Option bD}{m:Option bB}(h:CD n j AL t tr xs m RS RK c)(hb:CB cf kc n j AL xs c)(hc:CC cf kc n)(hj:j<=190)(keep:Ω):
  ∃k1 k2 dO,kx (c.s.k.d.dB keep) cf.tables cf.size=(k1.d,.ok k1)/\jH k1.d cf.tables cf.size=(k2.d,.ok k2)/\dJ cf kc n (j+1) dO (bq.start cf k1 k2 c.now)/\(dO=AL\/∃x,dO=AL++[x]) /\
   (∀d' g,dN (c.s.k.d.dB keep) 16 cf.size=(d',.ok g)->(bR g.bf).length<=1001)/\(∀d' g,dN k1.d 8192 cf.size=(d',.ok g)->(bR g.bf).length<=200)/\k1.d.Ok (nJ (j+1))/\k1.d.ops<=250*(j+1)+2/\c.s.k.aw<=k2.aw:=by
 have oZ:=hb.al;have iL:=hb.xl;have dY:=hb.ops;have hB:∀x∈dU RK (keep.drop RS.length),8192<=x.id/\x.id<12288:=λx hx=>by
  obtain⟨y,hy,e⟩:=Dd hx;rw[<- e];exact h.kb y hy
 obtain⟨k1,dO,e1,hk,a1,p1,hA,kG⟩:=h.kd.open hc.n1 hc.n8 keep hc.s0 hc.s1 (B:=dU RK (keep.drop RS.length)) λx hx=>(hB x hx).1;have ecr:c.s.k.d.dB keep=b_ [] (dU RK (keep.drop RS.length)) (({c.s.k.d with R:=RS}:DS).dB keep):=by
  unfold DS.dB b_;simp only[zzo];rw[h.dR,a_l]
 rw[<- ecr]at e1 kG
 have p1:k1.d.ops<=c.s.k.d.ops+1:=p1;obtain⟨o,CU⟩:=h.sd;have w9:ij n {c.s.k with d:={c.s.k.d with R:=RK,off:=o,ops:=k1.d.ops}} xs m:=CU.wd (d':={c.s.k.d with R:=RK,off:=o,ops:=k1.d.ops}) rfl rfl;obtain⟨k2,bZ,e2,gV,dm,IQ,tQ,vq,hL,hx⟩:=ij.open (bL:=n) hc.n1 hc.n8 w9 (keep.drop RS.length) (by omega) hc.s0 hc.s1;have bhn:({c.s.k.d with R:=RK,off:=o,ops:=k1.d.ops}:DS).dB (keep.drop RS.length)={k1.d with R:=dU RK (keep.drop RS.length)}:=by
  have ho:=hk.off
  grind [DS.dB]
 rw[bhn]at e2
 have C2:cN 8192 12288 k1.d.R [] ({k1.d with R:=dU RK (keep.drop RS.length)}:DS).R:=⟨hk.ids,hB,λx hx=>by cases hx⟩;have e3:=brq C2 (n:Int) cf.size;rw[e2]at e3
 have e4:b_ k1.d.R [] {k1.d with R:=dU RK (keep.drop RS.length)}=b_ [] (dU RK (keep.drop RS.length)) k1.d:=by unfold b_;simp
 rw[e4]at e3
 have e3:jH (b_ [] (dU RK (keep.drop RS.length)) k1.d) n cf.size=(b_ k1.d.R [] k2.d,.ok (k2.eh k1.d.R)):=e3;have bhl:=hb.dk.dB keep;have Cv:=V' e1;have pN:=FO (base:=16) (size:=cf.size) bhl;rw[Cv]at pN
 have pN:(b_ [] (dU RK (keep.drop RS.length)) k1.d).Ok (nJ j):=pN;obtain⟨pP,_,_⟩:=brp e3;have vh:=FO (base:=8192) (size:=cf.size) pN;rw[pP]at vh
 have rR:=JU pN (by have:=pN.Dn;omega) pP;have bhd:dO.length<=j+1:=by
  grind
 have bkw:bZ.length<=j+1:=by
  grind
 have oA:=h.nx k2.tr (by
  rcases hx with rfl|⟨x,wT,rfl⟩
  ·left;have:=hb.run.symm.trans gV.run
   grind
  right;refine⟨x,wT,?_⟩;have:=gV.run;rw[Dr n xs x _ _ hb.run]at this
  exact this)
 have kF:c.s.k.aw<=k2.aw:=by
  rcases hx with rfl|⟨x,wT,rfl⟩
  ·have:=xx1 (hb.run.symm.trans gV.run);have:=yyp (·.2.2) this;exact Int.le_of_eq this
  have:=gV.run;rw[Dr n xs x _ _ hb.run]at this
  unfold stepT at this;split at this
  ·split at this
   ·rename_i b9;have:=xx1 this;have h2:x.aw=k2.aw:=yyp (·.2.2) this;have b9:c.s.k.aw<x.aw:=b9;omega
   cases this
  cases this
 have hlen:AL.length<=dO.length:=by
  grind
 have vl:rn k1.d.R k2:=by
  refine⟨⟨hk.ids,λx hx=>?_,λx hx=>by cases hx⟩,?_⟩
  ·have vl:=hL.laid.S1;have EG:=gV.base IQ;rw[hL.files]at hx
   obtain⟨s,hs,rfl⟩:=zz5.1 hx;have:=vl.bf s hs;show 8192<=s.file/\s.file<12288;omega
  have vl:=hL.laid.S1;rw[gV.base IQ]at vl
  exact vl
 have ID:nJ j+200000<=nJ (j+1):=by show 400000*(j+1)+200000<=400000*(j+1+1);omega
 have vq:k2.d.ops<=k1.d.ops+1:=vq;have s4:cf.tables=(n:Int):=hc.tables;refine⟨k1.eh (dU RK (keep.drop RS.length)),k2.eh k1.d.R,dO,by rw[s4];exact e1,by rw[s4];exact e3,?_,hA.imp id (λ⟨x,_,e⟩=>⟨x,e⟩),kG,?_,pN.mono (by omega),by show k1.d.ops<=_;omega,kF⟩
 ·exact dJ.start hc hb.now (hk.mono ID) gV IQ vl dm (rR.mono (by omega)) (vh.mono (by omega)) (by omega) bhd bkw (by omega) oA.1 oA.2.1 (by have:=oA.2.2;show k2.aw<=_;have h3:k2.aw<=AL.length:=this;omega) _
 intro d' g hg;have bh8:dN (b_ [] (dU RK (keep.drop RS.length)) k1.d) 8192 cf.size=_:=pP;have hg:dN (b_ [] (dU RK (keep.drop RS.length)) k1.d) 8192 cf.size=(d',.ok g):=hg;rw[bh8]at hg
 cases hg;show (bR k2.g.bf).length<=200;rw[hL.fG,zzv];omega
def CS.bBh(h:CS cf kc n j AL c):∃tr xs t m RS RK,CB cf kc n j AL xs c/\CD n j AL t tr xs m RS RK c:=by
 rcases h with ⟨tr,xs,hd,RS,RK,hb,a⟩|⟨_,tr,xs,t,m,RS,RK,hb,a⟩
 ·exact⟨tr,xs,none,none,RS,RK,hb,a.dead⟩
 grind
structure Y_(cf:cX)(kc:cT)(n j:Nat)(AL:List bD)(c:bq)(keep:Ω)(k1:bQ)(k2:bO)(dO:List bD):Prop where
 e1:kx (c.s.k.d.dB keep) cf.tables cf.size=(k1.d,.ok k1)
 e2:jH k1.d cf.tables cf.size=(k2.d,.ok k2)
 st:dJ cf kc n (j+1) dO (bq.start cf k1 k2 c.now)
 al:dO=AL\/∃x,dO=AL++[x]
 n1:∀d' g,dN (c.s.k.d.dB keep) 16 cf.size=(d',.ok g)->(bR g.bf).length<=1001
 n2:∀d' g,dN k1.d 8192 cf.size=(d',.ok g)->(bR g.bf).length<=200
 dk:k1.d.Ok (nJ (j+1))
 ops:k1.d.ops<=250*(j+1)+2
 aw:c.s.k.aw<=k2.aw
 is:c.dB cf keep=bq.start cf k1 k2 c.now
def CS.dB(h:CS cf kc n j AL c)(hc:CC cf kc n)(hj:j<=190)(keep:Ω):∃k1 k2 dO,Y_ cf kc n j AL c keep k1 k2 dO:=by
 obtain⟨tr,xs,t,m,RS,RK,hb,a⟩:=h.bBh;obtain⟨k1,k2,dO,e1,e2,h1,h2,h3,h4,h5,h6,h7⟩:=a.dB hb hc hj keep;refine⟨k1,k2,dO,⟨e1,e2,h1,h2,h3,h4,h5,h6,h7,?_⟩⟩
 grind [bq.dB,V7]
def dJ.pick(h:dJ cf kc n j AL c)(hc:CC cf kc n)(hj:j<=190)(comp:Int):∃dO,CS cf kc n (j+1) dO (c.pick cf kc comp).1/\(dO=AL\/∃x,dO=AL++[x]):=by
 have uh:∃dO,CS cf kc n (j+1) dO c/\(dO=AL\/∃x,dO=AL++[x]):=⟨AL,.inl h.mono,.inl rfl⟩;unfold bq.pick;split
 ·exact uh
 split
 ·exact uh
 rename_i Tt kf;have kf:c.en kc comp=true:=by cases hq:c.en kc comp with
  | true=>rfl
  | false=>exact absurd hq kf
 split
 ·rename_i e;subst e;obtain⟨_,_,_,_,h1⟩:=h.read kf;exact⟨AL,.inl h1,.inl rfl⟩
 split
 ·rename_i e;subst e;obtain⟨_,_,_,_,_,_,_,_,_,_,_,h1⟩:=h.take hc kf;exact⟨AL,.inl h1,.inl rfl⟩
 split
 ·rename_i e;subst e;rcases h.snap hc hj kf with ⟨dO,h1,h2,_⟩|⟨h1,_⟩
  ·exact⟨dO,.inl h1,h2⟩
  exact⟨AL,.inr h1,.inl rfl⟩
 split
 ·rename_i e;subst e;rcases h.write hc hj kf with ⟨h1,_⟩|⟨h1,_⟩
  ·exact⟨AL,.inl h1,.inl rfl⟩
  exact⟨AL,.inr h1,.inl rfl⟩
 have:comp=4:=by omega
 subst this;exact⟨AL,.inl (h.tell hc kf).1,.inl rfl⟩
def CS.fM(h:CS cf kc n j AL c)(hc:CC cf kc n)(hj:j<=190)(s:cx):∃dO,CS cf kc n (j+1) dO (c.fM cf kc s).1/\(dO=AL\/∃x,dO=AL++[x]):=by
 unfold bq.fM;split
 ·exact⟨AL,h.mono,.inl rfl⟩
 rename_i jF;by_cases k8:s.kind=8
 ·rw[zzb (by omega),zzb (by omega)];have e:(c.other cf s).1=c.dB cf s.keep:=by unfold bq.other;rw[zzb (by omega),zzb (by omega),zzb (by omega),zzb (by omega),zzb (by omega),zzc k8]
  show ∃dO,CS cf kc n (j+1) dO (c.other cf s).1/\_;obtain⟨k1,k2,dO,hk⟩:=h.dB hc hj s.keep;rw[e,hk.is];exact⟨dO,.inl hk.st,hk.al⟩
 have ho:c.s.k.d.off=false:=by
  grind
 have hA:dJ cf kc n j AL c:=by
  rcases h with h|h
  ·exact h
  rw[h.1]at ho;cases ho
 split
 ·rcases hA.ny hc hj s with ⟨x,h1,_⟩|⟨h1,_⟩|e|e
  ·exact⟨_,.inl h1,.inr ⟨x,rfl⟩⟩
  ·exact⟨AL,.inr h1,.inl rfl⟩
  ·unfold bq.ny;rw[e];exact⟨AL,.inl hA.self.mono,.inl rfl⟩
  unfold bq.ny;rw[e];exact⟨AL,.inl hA.self.mono,.inl rfl⟩
 split
 ·exact hA.pick hc hj s.n
 show ∃dO,CS cf kc n (j+1) dO (c.other cf s).1/\_;unfold bq.other;split
 ·exact⟨AL,h.fault s.ft,.inl rfl⟩
 split
 ·exact⟨AL,h.tick s.n,.inl rfl⟩
 split
 ·exact⟨AL,h.drawn s.n,.inl rfl⟩
 split
 ·rcases hA.trim hc hj with ⟨_,h1⟩|⟨_,h1⟩
  ·exact⟨AL,.inl h1,.inl rfl⟩
  exact⟨AL,.inr h1,.inl rfl⟩
 split
 ·exact⟨AL,h.arm s.n,.inl rfl⟩
 exact⟨AL,h.mono,.inl rfl⟩
def r_(n:Nat)(size:Int):bO:=⟨⟨[],8192,size,none⟩,fU,(re n).1,[],0,[]⟩
def bmy{n:Nat}(n1:1<=n)(n8:n<=8){size:Int}(s0:64<=size)(s1:size<=65536):jH fU ((n:Nat):Int) size=(fU,.ok (r_ n size))/\ij n (r_ n size) [] none/\∀M,gX (r_ n size).g M:=by
 obtain⟨k,e,hP,_⟩:=GC.first n1 n8 s0 s1;have e2:jH fU ((n:Nat):Int) size=(fU,.ok (r_ n size)):=by
  unfold jH;rw[zzb (by omega)];simp only[JT (base:=8192) (by decide) (by decide) s0 s1];rw[zzw];rfl
 rw[e2]at e
 have e3:=yyp Prod.snd e;simp only at e3;cases e3;exact⟨e2,hP.s,λM=>⟨⟨by simp[r_],by show (0:Int)<=8192;decide,by show (8192:Int)<=12288;decide,s0,s1,by simp[r_]⟩,trivial,by show (0:Int)<=_;decide,λx hx=>by cases hx⟩⟩
def xZ(cf:cX)(n:Nat):bq:=bq.start cf (vy n cf.size) (r_ n cf.size) 0
def dJ.first(hc:CC cf kc n):kx fU cf.tables cf.size=(fU,.ok (vy n cf.size))/\jH fU cf.tables cf.size=(fU,.ok (r_ n cf.size))/\dJ cf kc n 0 [] (xZ cf n):=by
 obtain⟨e1,hL⟩:=bzm hc.n1 hc.n8 hc.s0 hc.s1;obtain⟨e2,hs,hg⟩:=bmy hc.n1 hc.n8 hc.s0 hc.s1;have s4:cf.tables=(n:Int):=hc.tables;have hk:KV n 0 (nJ 0) [] (vy n cf.size):=⟨lD.nil n,⟨[],fU,16,0,0,hL⟩,rfl,show (0:Int)<=0 by decide,(bzl hc.n1 hc.n8 hc.s0 hc.s1).mono (by omega)⟩;refine⟨by rw[s4];exact e1,by rw[s4];exact e2,?_⟩;have vn:rn [] (r_ n cf.size):=⟨⟨λx hx=>(by cases hx),λx hx=>(by cases hx),λx hx=>(by cases hx)⟩,⟨show (8192:Int)<=8192 by decide,show (8192:Int)+4096<=12288 by decide,λs hs=>(by cases hs),λx hx=>(by cases hx)⟩⟩;exact dJ.start (AL:=[]) (tr:=0) (xs:=[]) (j:=0) (k1:=vy n cf.size) (k2:=r_ n cf.size) (now:=0) hc (by decide) hk hs rfl vn rfl (hg _) (Ds _) (show (0:Nat)<=250*(0+1) by decide) (zzj _) (zzj _) (by decide) (λr hr=>(by cases hr)) (yyj _) (yyj _) []
end
set_option maxRecDepth 100000
def bta{after:Int}{C:List Row}{j:Nat}(h:j+1=C.length)(hj:j<C.length):ky after C=C[j].key:=by
 unfold ky;rw[wwc,show C.length-1=j by omega,zzd hj];rfl
def bte(H:a_)(v:Ε)(C:List Row)(after n:Int)(hv:cn H 2 v C.length (C.map dV).flatten)(hn:C.length<=1000000):
  SP 196 [Γ after,Γ n,v] [.mem H] (bA (.tuple #[Γ (ky after C),.bool (decide ((C.length:Int)<n))]) [.mem H]):=by
 refine Enzz λW F w hS=>?_;apply bEx;delta aI aW ai;refine zn hv ?_;refine bj (λh=>?_) (λh=>?_)
 ·obtain⟨j,hj⟩:∃j:Nat,j+1=C.length:=⟨C.length-1,by omega⟩;have fY:j<C.length:=by omega
  rw[bta (after:=after) hj fY];refine zn hv ?_;refine Gp ?_;rw[show (C.length:Int)-1=(j:Int) by omega];refine QU hS Xh iK hv (x:=C[j]) (zzd fY) fY (i:=0) rfl ?_;refine zn hv ?_;refine Gp ?_;(exact bw hS)
 have he:C=[]:=zzl (by omega);rw[show ky after C=after by rw[he];rfl];refine zn hv ?_;refine Gp ?_;(exact bw hS)
abbrev l5(w:cL)(rv:Ε):Ξ:=[Γ w.mark,Γ w.after,Γ w.id,Γ w.table,rv,Γ w.cG,.bool w.last,Γ w.n,Γ w.state]
def cM(wp:Nat)(k:cL):zC:=iX λrv:Ε=>zF True [.pt wp (l5 k rv) 179,eI rv k.rows]
def cM.iff{W w:Ζ}{l:Β}{wp:Nat}{k:cL}:SL W (.ob (cM wp k)::l) w↔∃rv,SL W (.pt wp (l5 k rv) 179::eI rv k.rows::l) w:=by
 unfold cM;simp only[SL.ex,SL.fact,uus,zzn,zzo]
def cM.put{W w:Ζ}{l F:Β}{wp:Nat}(k:cL)(rv:Ε)(hS:SL W l w)(p:fK [.pt wp (l5 k rv) 179,eI rv k.rows] l F):SL W (.ob (cM wp k)::F) w:=cM.iff.2 ⟨rv,hS.pick p⟩
def eI.nil{W w:Ζ}{l:Β}(h:SL W l w):SL W (eI Θ []::l) w:=bd.nil h
def bKl(n:Int):SP 168 [Γ n] [] (λv post=>(¬(1<=n/\n<=64)/\v= .tuple #[.pointer none,Γ 1]/\post=[])\/((1<=n/\n<=64)/\∃wp:Nat,v= .tuple #[bx wp,Γ 0]/\post=[.ob (cM wp (l6 n))])):=by
 refine Enzz λW F w hS=>?_;apply bD4;delta aI ai bT bc;refine Gp ?_;refine za (λh=>⟨_,.inl ⟨by omega,rfl,rfl⟩,hS⟩) (λh1=>?_);refine Gp ?_;refine za (λh=>⟨_,.inl ⟨by omega,rfl,rfl⟩,hS⟩) (λh2=>?_);refine Gp ?_;refine⟨_,rfl,zD hS λwp w hS=>?_⟩;have hS:=eI.nil hS;exact⟨_,.inr ⟨by omega,wp,rfl,rfl⟩,SL.bo (cM.put (wp:=wp) (l6 n) Θ hS Xp) Xi⟩
section
variable (wp:Nat) (k:cL)
def yZ:SP 53 [bx wp] [.ob (cM wp k)] (bA (Γ k.state) [.ob (cM wp k)]):=by
 refine Enzz λW F w hS=>?_;apply bIv;delta bh;obtain⟨rv,hS⟩:=cM.iff.1 hS;unfold l5 at hS;refine Gp ?_;exact⟨_,⟨rfl,rfl⟩,SL.bo (cM.put k rv hS Xp) Xi⟩
def bKj:SP 198 [bx wp] [.ob (cM wp k)] (bA (Γ k.mark) [.ob (cM wp k)]):=by
 refine Enzz λW F w hS=>?_;apply bEz;delta aW bk;obtain⟨rv,hS⟩:=cM.iff.1 hS;unfold l5 at hS;refine Gp ?_;exact⟨_,⟨rfl,rfl⟩,SL.bo (cM.put k rv hS Xp) Xi⟩
def q8:SP 137 [bx wp] [.ob (cM wp k)] (bA (Γ k.table) [.ob (cM wp k)]):=by
 refine Enzz λW F w hS=>?_;apply bDa;delta aW bk;obtain⟨rv,hS⟩:=cM.iff.1 hS;unfold l5 at hS;refine Gp ?_;exact⟨_,⟨rfl,rfl⟩,SL.bo (cM.put k rv hS Xp) Xi⟩
def q6:SP 138 [bx wp] [.ob (cM wp k)] (bA (Γ k.after) [.ob (cM wp k)]):=by
 refine Enzz λW F w hS=>?_;apply bDb;delta aW bk;obtain⟨rv,hS⟩:=cM.iff.1 hS;unfold l5 at hS;refine Gp ?_;exact⟨_,⟨rfl,rfl⟩,SL.bo (cM.put k rv hS Xp) Xi⟩
def bKo(hn:k.rows.length<=1000000):SP 54 [bx wp] [.ob (cM wp k)] (λu post=>post=[eI u k.rows,.ob (cM wp k)]):=by
 refine Enzz λW F w hS=>?_;apply bIw;delta aW bk;obtain⟨rv,hS⟩:=cM.iff.1 hS;unfold l5 at hS;refine Gp ?_;refine Cc (Ry rv k.rows hn) ?_;clear hS;rintro u post rfl w hS;try simp only[app]at hS
 exact⟨_,rfl,SL.bo (cM.put k rv hS Xp) Xi⟩
def bKm(mark id table after:Int):SP 195 [bx wp,Γ mark,Γ id,Γ table,Γ after] [.ob (cM wp k)] (λv post=>(∃q,v= .bool q)/\post=[.ob (cM wp (k.ta mark id table after))]):=by
 refine Enzz λW F w hS=>?_;apply bEw;delta aI bh bS bk br ai bc;obtain⟨rv,hS⟩:=cM.iff.1 hS;unfold l5 at hS;have eF:∀{w:Ζ},k.xw mark id table after->SL W (.pt wp [Γ k.mark,Γ k.after,Γ k.id,Γ k.table,rv,Γ k.cG,.bool k.last,Γ k.n,Γ k.state] 179::eI rv k.rows::F) w->∃post,((∃q,Value.bool false= .bool q)/\post=[.ob (cM wp (k.ta mark id table after))])/\SL W (app post F) w:=λh hS=>by
  rw[show k.ta mark id table after=k from zzc h];exact⟨_,⟨⟨_,rfl⟩,rfl⟩,SL.bo (cM.put k rv hS Xp) Xi⟩
 refine Gp ?_;refine za (λh=>eF (.inl h) hS) (λh0=>?_);refine Gp ?_;refine za (λh=>eF (.inr (by omega)) hS) (λh1=>?_);refine Gp ?_;refine za (λh=>eF (.inr (by omega)) hS) (λh2=>?_);refine Gp ?_;refine za (λh=>eF (.inr (by omega)) hS) (λh3=>?_);refine Gp ?_;refine za (λh=>eF (.inr (by omega)) hS) (λh4=>?_);refine Gp ?_;refine za (λh=>eF (.inr (by omega)) hS) (λh5=>?_);refine Gp ?_;refine za (λh=>eF (.inr (by omega)) hS) (λh6=>?_);refine Gp ?_;refine za (λh=>eF (.inr (by omega)) hS) (λh7=>?_);refine Gp ?_;refine za (λh=>eF (.inr (by omega)) hS) (λh8=>?_);clear eF;have bC:¬k.xw mark id table after:=by unfold cL.xw;omega
 rw[show k.ta mark id table after=⟨k.n,1,mark,after,id,table,[],0,false⟩ from zzb bC];refine Gp ?_;refine Zn hS Xu rfl (by simp) (by simp[Value.oneCell']) λw hS=>?_;simp only[List.take,List.drop,zzn,zzo]at hS;refine Gn λw hS=>?_;have hS:=eI.nil hS;exact⟨_,⟨⟨_,rfl⟩,rfl⟩,SL.bo (cM.put (wp:=wp) ⟨k.n,1,mark,after,id,table,[],0,false⟩ Θ hS Xp) Xi⟩
def bKq:SP 199 [bx wp] [.ob (cM wp k)] (λv post=>(∃q,v= .bool q)/\post=[.ob (cM wp k.shut)]):=by
 refine Enzz λW F w hS=>?_;apply bE0;delta aI bh bS br ai;obtain⟨rv,hS⟩:=cM.iff.1 hS;unfold l5 at hS;unfold cL.shut;refine bj (λh=>?_) (λh=>?_)
 ·rw[zzb h];exact⟨_,⟨⟨_,rfl⟩,rfl⟩,SL.bo (cM.put k rv hS Xp) Xi⟩
 rw[zzc (by omega)];refine Gn λw hS=>?_;exact⟨_,⟨⟨_,rfl⟩,rfl⟩,SL.bo (cM.put {k with state:=3} rv hS Xp) Xi⟩
def bKi(mark:Int):SP 189 [bx wp,Γ mark] [.ob (cM wp k)] (λv post=>(∃q,v= .bool q)/\post=[.ob (cM wp (k.low mark))]):=by
 refine Enzz λW F w hS=>?_;apply bEp;delta aI bh aW bS bk br ai;obtain⟨rv,hS⟩:=cM.iff.1 hS;unfold l5 at hS;unfold cL.low;refine bj (λh=>?_) (λh=>?_)
 ·rw[zzb (by omega)];exact⟨_,⟨⟨_,rfl⟩,rfl⟩,SL.bo (cM.put k rv hS Xp) Xi⟩
 refine bj (λh2=>?_) (λh2=>?_)
 ·rw[zzb (by omega)];exact⟨_,⟨⟨_,rfl⟩,rfl⟩,SL.bo (cM.put k rv hS Xp) Xi⟩
 rw[zzc (by omega)];refine Gn λw hS=>?_;exact⟨_,⟨⟨_,rfl⟩,rfl⟩,SL.bo (cM.put {k with state:=4} rv hS Xp) Xi⟩
def q9(x:l_):SP 182 [bx wp,agg (eb x)] [.ob (cM wp k)] (bA (.bool (k.waits x.kind x.mark)) [.ob (cM wp k)]):=by
 refine Enzz λW F w hS=>?_;apply bEi;delta aI bh aW bk br ai;obtain⟨rv,hS⟩:=cM.iff.1 hS;unfold l5 at hS;refine zx hS λxb w hS=>?_;unfold eb at hS;unfold cL.waits;refine Gn λw hS=>?_;refine za (λh=>?_) (λh=>?_)
 ·refine bj (λh2=>?_) (λh2=>?_)
  ·refine bj (λh3=>?_) (λh3=>?_)
   ·rw[zzm (by omega)];exact⟨_,⟨rfl,rfl⟩,SL.bo (cM.put k rv hS Xp) Xi⟩
   refine Gp ?_;rw[show decide (x.kind=2/\x.mark=k.mark/\(k.state=1\/k.state=2))=decide (k.state=2) by rw[yye];omega];exact⟨_,⟨rfl,rfl⟩,SL.bo (cM.put k rv hS Xp) Xi⟩
  rw[zzx (by omega)];exact⟨_,⟨rfl,rfl⟩,SL.bo (cM.put k rv hS Xp) Xi⟩
 rw[zzx (by omega)];exact⟨_,⟨rfl,rfl⟩,SL.bo (cM.put k rv hS Xp) Xi⟩
end
def Kb:∀(A B:List Row) (k:Int),nc k (A++B)=(nc k A && nc (ky k A) B)
 | [],B,k=>by simp[nc,ky]
 | r::A,B,k=>by
  have e:ky k (r::A)=ky r.key A:=by
   unfold ky;cases A with
   | nil=>rfl
   | cons y A=>rw[List.getLast?_cons_cons];rfl
  show (decide (k<r.key/\r.key<=1099511627776) && nc r.key (A++B))=((decide (k<r.key/\r.key<=1099511627776) && nc r.key A) && nc (ky k (r::A)) B);rw[Kb A B r.key,e,Bool.and_assoc]
def btb(a:Int)(A:List Row)(r:Row):ky a (A++[r])=r.key:=by
 unfold ky;rw[List.getLast?_append];simp
def bKf(wp:Nat)(k:cL)(H:a_)(v:Ε)(C:List Row)(hv:cn H 2 v C.length (C.map dV).flatten)(hn:C.length<=1000000):
  SP 135 [bx wp,v] [.ob (cM wp k),.mem H] (λu post=>(∃q,u= .bool q)/\post=[.ob (cM wp (k.fill C)),.mem H]):=by
 refine Enzz λW F w hS=>?_;apply bC8;delta aI bh aW bS bk br ai bK;obtain⟨rv,hS⟩:=cM.iff.1 hS;have eF:∀{w:Ζ} {l:Β},k.wz C->SL W l w->jk [.pt wp (l5 k rv) 179,eI rv k.rows,.mem H] l->True:=λ_ _ _=>trivial;clear eF;unfold l5 at hS;have eF:∀{w:Ζ},k.wz C->SL W (.pt wp [Γ k.mark,Γ k.after,Γ k.id,Γ k.table,rv,Γ k.cG,.bool k.last,Γ k.n,Γ k.state] 179::eI rv k.rows::.mem H::F) w->∃post,((∃q,Value.bool false= .bool q)/\post=[.ob (cM wp (k.fill C)),.mem H])/\SL W (app post F) w:=λh hS=>by
  rw[show k.fill C=k from zzc h];exact⟨_,⟨⟨_,rfl⟩,rfl⟩,SL.bo (cM.put k rv hS Xp) Xi⟩
 refine Gp ?_;refine za (λh=>eF (.inl h) hS) (λh1=>?_);refine zn hv ?_;refine Gp ?_;refine za (λh=>eF (.inr (.inl (by omega))) hS) (λh2=>?_);refine Gp ?_;refine zn hv ?_;refine⟨λus w=>∃i:Nat,us=[Γ (ky k.after (C.take i)),Γ i]/\i<=C.length/\nc k.after (C.take i)=true/\SL W (.pt wp [Γ k.mark,Γ k.after,Γ k.id,Γ k.table,rv,Γ k.cG,.bool k.last,Γ k.n,Γ k.state] 179::eI rv k.rows::.mem H::F) w,
  λus _=>match us with|[_,.int _ i]=>(C.length-i).toNat|_=>0,⟨0,rfl,by omega,rfl,hS⟩,?_⟩
 clear hS;rintro v5 v29 w ⟨i,bM,hi,hr,hS⟩;cases bM;refine bj (λh=>?_) (λh=>?_)
 ·have bn:i<C.length:=by omega
  have hx:C[i]?=some C[i]:=zzd bn;have eN:C.take (i+1)=C.take i++[C[i]]:=zze bn;have dh:nc k.after C=true->nc k.after (C.take (i+1))=true:=λh=>by
   rw[<- yyf (i+1) C,Kb,zzs]at h;exact h.1
  have ue:nc k.after (C.take (i+1))=decide (ky k.after (C.take i)<C[i].key/\C[i].key<=1099511627776):=by
   rw[eN,Kb,hr];unfold nc;simp[nc]
  refine zB hS Xh iK hv hx bn ?_;generalize C[i]=r at *
  refine Gb λxb w hS=>?_;have e_:∀{w:Ζ},¬(ky k.after (C.take i)<r.key/\r.key<=1099511627776)->SL W (.pt xb (dV r) 182::.pt wp [Γ k.mark,Γ k.after,Γ k.id,Γ k.table,rv,Γ k.cG,.bool k.last,Γ k.n,Γ k.state] 179::eI rv k.rows::.mem H::F) w->∃post,((∃q,Value.bool false= .bool q)/\post=[.ob (cM wp (k.fill C)),.mem H])/\SL W (app post F) w:=λhb hS=>by
   refine eF (.inr (.inr ?_)) (aR hS);cases hq:nc k.after C with
   | false=>rfl
   | true=>rw[dh hq]at ue;exact absurd (zzt ue.symm) hb
  have TE:=@e_;clear eF e_;refine za (λh=>TE (by omega) hS) (λh3=>?_);refine Gp ?_;refine za (λh=>TE (by omega) hS) (λh4=>?_);refine Gp ?_;refine⟨⟨i+1,?_,by omega,?_,aR hS⟩,by dsimp only;omega⟩
  ·rw[eN,btb]
  rw[ue];exact zzm (by omega)
 have he:C.take i=C:=zzz (by omega);rw[he]at hr
 have bC:¬k.wz C:=by
  rintro (h|h|h)
  ·exact h1 h
  ·omega
  rw[hr]at h;cases h
 rw[show k.fill C={k with state:=2,rows:=C,cG:=ky k.after C,last:=decide ((C.length:Int)<k.n)} from zzb bC];clear eF;refine Cc (Rz (λv0 w R h=>KG v0 w R h) rfl (by decide) hv (tc uV C) (by omega) (by omega)) ?_;clear hS;rintro u post rfl w hS;try simp only[app]at hS
 have hS:SL W (eI u C::_) w:=hS;have o1:u.oneCell'=true:=bd.one hS;refine Gn λw hS=>?_;refine Cg (bte H v C k.after k.n hv hn) λw hS=>?_;exact⟨_,⟨⟨_,rfl⟩,rfl⟩,SL.bo (cM.put (wp:=wp) {k with state:=2,rows:=C,cG:=ky k.after C,last:=decide ((C.length:Int)<k.n)} u hS Xp) Xi⟩
def bfq{D:List Row}{i:Nat}(hi:i<D.length)(x:Row)(rest:Ξ):((D.map dV).flatten++rest).take (0+i*2)++dV x++((D.map dV).flatten++rest).drop (0+i*2+2)=((D.set i x).map dV).flatten++rest:=by
 have hl:((D.map dV).flatten).length=D.length*2:=n_ iK D;rw[yyd,yy4 (by omega),wwf (by omega),show i*2+2=(i+1)*2 by omega,sM iK,uZ iK,xxf,zzc hi];simp
def YP(cb:Nat)(c:da)(r:Row):SP 290 [agg (dV r),bx cb] [.pt cb (eM c) 118] (bA (.bool (decide (r.key=c.key))) [.pt cb (eM c) 118]):=by
 refine Enzz λW F w hS=>?_;apply bHb;delta aW;refine zx hS λxb w hS=>?_;unfold dV at hS;unfold eM at hS ⊢;refine Gp ?_;(exact bw hS)
def bcc(cb:Nat)(c:da)(v:Ε)(C:List Row)(hn:C.length<=1000000):
  SP 289 [v,.func (.func 290) #[] #[bx cb]] [.pt cb (eM c) 118,eI v C] (λu post=>post=[.pt cb (eM c) 118,eI u (C.filter λr=>!decide (r.key=c.key))]):=by
 intro W F w hS;apply bG9;delta aI bJ ai bK;(try simp only[app]at hS);have hC:=Jf (t:=182) iK rfl (λv0 v1 w R h=>bHy v0 v1 w R h) (λr=>YP cb c r) v C (by omega);simp only[zzn,zzo]at hC;refine Cg (hC) λw hS=>?_;cases hf:C.findIdx? (λr=>decide (r.key=c.key)) with
 | none=>
  simp only[km];refine za (λ_=>?_) (λh=>absurd trivial h);have e:C.filter (λr=>!decide (r.key=c.key))=C:=yyy.2 λr hr=>by
   have:=wwb.1 hf r hr;rw[this];rfl
  rw[e];exact⟨_,rfl,aR hS⟩
 | some i0=>
  obtain⟨rS,wN,pS⟩:=yym.1 hf;have tS:(C.take (i0+1)).filter (λr=>!decide (r.key=c.key))=C.take i0:=by
   rw[zze rS,xxj,yyy.2 λr hr=>by
    obtain⟨j,hj,rfl⟩:=yyh hr;rw[zzf]at hj
    rw[vva];have:=pS j (by omega);simpa using this]
   simp at wN;simp[wN]
  simp only[km];refine Χ ?_;rcases bd.open (SL.bo hS (t:=eI v C::.pt cb (eM c) 118::F) Xi) with ⟨_,h0,_⟩|⟨b,cap,rest,rfl,om,hlen,iT,hS⟩
  ·omega
  refine Gp ?_;refine⟨λus w=>∃(i j:Nat) (D:List Row),us=[Γ i,Γ j]/\i<j/\j<=C.length/\D.length=C.length/\D.take i=(C.take j).filter (λr=>!decide (r.key=c.key))/\D.drop j=C.drop j/\SL W (.pt b ((D.map dV).flatten++rest) 182::.pt cb (eM c) 118::F) w,
   λus _=>match us with|[_,.int _ j]=>(C.length-j).toNat|_=>0,⟨i0,i0+1,C,rfl,by omega,by omega,rfl,tS.symm,rfl,aR hS⟩,?_⟩
  clear hS hf rS wN pS tS;rintro v5 v6 w ⟨i,j,D,bM,wM,hj,hD,ht,hd,hS⟩;cases bM;refine bj (λh=>?_) (λh=>?_)
  ·have fY:j<C.length:=by omega
   have TL:j<D.length:=by omega
   have hxe:D[j]=C[j]:=by
    have h1:(D.drop j)[0]?=(C.drop j)[0]?:=by rw[hd]
    rw[vvk,vvk,xxy,zzd TL,zzd fY]at h1
    simpa using h1
   have eN:C.take (j+1)=C.take j++[C[j]]:=zze fY;have EN:D.drop (j+1)=C.drop (j+1):=by
    rw[<- ww5,<- ww5,hd]
   have EK:∀q u,(dV D[j])[q]?=some u->((D.map dV).flatten++rest)[0+j*2+q]?=some u:=λq u hu=>by
    rw[yyd];have:=pM iK D j q D[j] u (zzd TL) hu;rw[zzy (zzh.1 this).1];exact this
   refine zI fY ?_;refine yh hS Xh rfl EK ?_;rw[hxe];generalize C[j]=r at *
   refine Gb λxb w hS=>?_;refine yE (args':=[agg (dV r),bx cb]) rfl (YP cb c r) rfl hS Xp ?_;clear hS;rintro _ post ⟨rfl,rfl⟩ w hS;(try simp only[app]at hS);refine Gp ?_
   refine zw (λhq=>?_) (λhq=>?_)
   ·refine zz hS Xh rfl ?_;refine zI (show i<C.length by omega) ?_;refine Zn hS Xu rfl ?_ (uV _) λw hS=>?_
    ·rw[zza,n_ iK];omega
    rw[bfq (by omega)]at hS
    refine Gp ?_;refine⟨⟨i+1,j+1,D.set i r,rfl,by omega,by omega,by rw[yyl];exact hD,?_,?_,aR hS⟩,by dsimp only;omega⟩
    ·rw[eN,xxj,<- ht];have:([r].filter λr=>!decide (r.key=c.key))=[r]:=by simp[hq]
     rw[this,zze (by rw[yyl];omega),List.getElem_set_self,List.take_set_of_le (zzj _)]
    rw[List.drop_set_of_lt (by omega)];exact EN
   refine Gp ?_;refine⟨⟨i,j+1,D,rfl,by omega,by omega,hD,?_,EN,aR hS⟩,by dsimp only;omega⟩;rw[eN,xxj,<- ht];have:([r].filter λr=>!decide (r.key=c.key))=[]:=by simp[hq]
   rw[this,zz3]
  have hjc:j=C.length:=by omega
  subst hjc;rw[zz0]at ht
  rw[<- ht];have hl:((D.map dV).flatten).length=D.length*2:=n_ iK D;refine⟨some ⟨b,0,none⟩,C.length,cap,i,C.length,cap,rfl,rfl,rfl,⟨_,rfl⟩,by omega,by omega,by omega,?_⟩;rw[zzb (show ¬cap=i by omega)];simp only[yyo,zz9,yyd];have hA:((D.map dV).flatten.take (i*2)).length=i*2:=by rw[zzf,hl];omega
  have e2:((D.map dV).flatten++rest).take (i*2)++bE [Γ 0,.string ⟨#[]⟩] (C.length-i)++((D.map dV).flatten++rest).drop (i*2+(bE [Γ 0,.string ⟨#[]⟩] (C.length-i)).length)=(D.map dV).flatten.take (i*2)++(bE [Γ 0,.string ⟨#[]⟩] (C.length-i)++rest):=by
   have:=RA ((D.map dV).flatten.take (i*2)) ((D.map dV).flatten.drop (i*2)) (bE [Γ 0,.string ⟨#[]⟩] (C.length-i)) rest (by rw[zzq,hl,kV];show _=(C.length-i)*2;omega);rw[hA,<- zzg ((D.map dV).flatten.take (i*2)) ((D.map dV).flatten.drop (i*2)) rest,yyf]at this
   exact this
  refine WM (tt:=182) (z:=[Γ 0,.string ⟨#[]⟩]) (zv:=.agg #[Γ 0,.string ⟨#[]⟩]) (n:=C.length-i) (o:=i*2) (cs:=(D.map dV).flatten++rest) (l':=.pt b ((D.map dV).flatten.take (i*2)++(bE [Γ 0,.string ⟨#[]⟩] (C.length-i)++rest)) 182::.pt cb (eM c) 118::F) hS ?_ xx6 (λw=>by kernel_rfl) rfl (by simp[Value.oneCell']) (by omega) (by rw[zza,hl];show i*2+(C.length-i)*2<=_;omega) ?_
  ·rw[show (C.length-i)*([Γ 0,Value.string ⟨#[]⟩]:Ξ).length=(bE [Γ 0,.string ⟨#[]⟩] (C.length-i)).length from (kV _ _).symm,e2];exact fg.hd
  intro u w hS;refine⟨some ⟨b,0,none⟩,C.length,cap,0,i,cap,rfl,rfl,⟨_,rfl⟩,rfl,by omega,by omega,by omega,?_⟩;rw[zzb (show ¬cap=0 by omega)];simp only[yyo,zz9,vv8,xxy,wwh];have hS:=bd.mk (n:=i) (cap:=cap) (sz:=2) (rest:=bE [Γ 0,.string ⟨#[]⟩] (C.length-i)++rest) (by omega) hA (by rw[zza,iT,kV];show (C.length-i)*2+_=_;omega) hS;rw[sM iK]at hS
  have bn:(D.take i).length=i:=by rw[zzf];omega
  refine⟨_,rfl,?_⟩;have hS:SL W (eI (.slice (some ⟨b,0,none⟩) i cap) (D.take i)::.pt cb (eM c) 118::F) w:=by unfold eI;rw[bn];exact hS
  exact aR hS
def bjf(t:Int)(l:List da)(i:Nat)(h:i<l.length)(r:Row):kh t (l.take (i+1)) r=(kh t (l.take i) r || decide (l[i].table=t/\l[i].key=r.key)):=by
 unfold kh;rw[zze h,List.any_append];simp
def bKp(wp:Nat)(k:cL)(H:a_)(v:Ε)(l:List da)(hv:cn H 4 v l.length (l.map eM).flatten)(hn:k.rows.length<=1000000)(hl:l.length<=140737488351232):
  SP 246 [bx wp,v] [.ob (cM wp k),.mem H] (λu post=>(∃q,u= Γ q)/\post=[.ob (cM wp (k.p_ l)),.mem H]):=by
 refine Enzz λW F w hS=>?_;apply bF7;delta aI bh aW bk ai bK;obtain⟨rv,hS⟩:=cM.iff.1 hS;unfold l5 at hS;unfold cL.p_;refine bj (λh=>?_) (λh=>?_)
 ·rw[zzb h];exact⟨_,⟨⟨_,rfl⟩,rfl⟩,SL.bo (cM.put k rv hS Xp) Xi⟩
 rw[zzc (by omega)];refine Gp ?_;refine zy hS (v:=rv) (t:=182) (sz:=2) (n:=k.rows.length) (cells:=(k.rows.map dV).flatten) Xh ?_;refine zn hv ?_;refine⟨λus w=>∃(i:Nat) (ru:Ε),us=[Γ i]/\i<=l.length/\SL W (.pt wp [Γ k.mark,Γ k.after,Γ k.id,Γ k.table,ru,Γ k.cG,.bool k.last,Γ k.n,Γ k.state] 179::eI ru (k.rows.filter λr=>!kh k.table (l.take i) r)::.mem H::F) w,
  λus _=>match us with|[.int _ i]=>(l.length-i).toNat|_=>0,⟨0,rv,rfl,by omega,?_⟩,?_⟩
 ·have:(k.rows.filter λr=>!kh k.table (l.take 0) r)=k.rows:=yyy.2 λr _=>by simp[kh]
  rw[this];exact aR hS
 clear hS;rintro v21 w ⟨i,ru,bM,hi,hS⟩;cases bM;refine bj (λh=>?_) (λh=>?_)
 ·have bn:i<l.length:=by omega
  have hx:l[i]?=some l[i]:=zzd bn;have lO:(k.rows.filter λr=>!kh k.table (l.take i) r).length<=k.rows.length:=yy7 _ _;refine zB hS Xh pF hv hx bn ?_;have kj:∀r,kh k.table (l.take (i+1)) r=(kh k.table (l.take i) r || decide (l[i].table=k.table/\l[i].key=r.key)):=bjf k.table l i bn;generalize l[i]=c at *
  refine Gb λxb w hS=>?_;refine za (λh2=>?_) (λh2=>?_)
  ·refine Gp ?_;refine Cc (bcc xb c ru (k.rows.filter λr=>!kh k.table (l.take i) r) (by omega)) ?_;clear hS;rintro u post rfl w hS;try simp only[app]at hS
   have hS:SL W (eI u ((k.rows.filter λr=>!kh k.table (l.take i) r).filter λr=>!decide (r.key=c.key))::.pt xb (eM c) 118::.pt wp [Γ k.mark,Γ k.after,Γ k.id,Γ k.table,ru,Γ k.cG,.bool k.last,Γ k.n,Γ k.state] 179::.mem H::F) w:=aR hS;have o1:u.oneCell'=true:=bd.one hS;refine Gn λw hS=>?_;refine⟨⟨i+1,u,rfl,by omega,?_⟩,by dsimp only;omega⟩;have e:(k.rows.filter λr=>!kh k.table (l.take (i+1)) r)=((k.rows.filter λr=>!kh k.table (l.take i) r).filter λr=>!decide (r.key=c.key)):=by
    rw[List.filter_filter];refine uud λr _=>?_;rw[kj r];have:decide (c.table=k.table/\c.key=r.key)=decide (r.key=c.key):=by rw[yye];omega
    rw[this];cases kh k.table (l.take i) r<;>cases decide (r.key=c.key)<;>rfl
   rw[e];exact aR hS
  refine Gp ?_;refine⟨⟨i+1,ru,rfl,by omega,?_⟩,by dsimp only;omega⟩;have e:(k.rows.filter λr=>!kh k.table (l.take (i+1)) r)=(k.rows.filter λr=>!kh k.table (l.take i) r):=by
   refine uud λr _=>?_;rw[kj r,zzx (by omega),Bool.or_false]
  rw[e];exact aR hS
 have:l.take i=l:=zzz (by omega);rw[this]at hS
 have lO:(k.rows.filter λr=>!kh k.table l r).length<=k.rows.length:=yy7 _ _;refine Gp ?_;refine zy hS (v:=ru) (t:=182) (sz:=2) (n:=(k.rows.filter λr=>!kh k.table l r).length) (cells:=((k.rows.filter λr=>!kh k.table l r).map dV).flatten) Xh ?_;refine Gp ?_;exact⟨_,⟨⟨_,rfl⟩,rfl⟩,SL.bo (cM.put {k with rows:=k.rows.filter λr=>!kh k.table l r} ru hS Xp) Xi⟩
abbrev um:gO:=⟨0,Θ,Θ⟩
def vU(wp:Nat)(k:cL)(H:a_)(mark aw:Int)(u:Ε)(post:Β):Prop:=match (k.high mark aw).2 with
 | none=>u= .tuple #[agg (dD um),.bool false]/\post=[.ob (cM wp k),.mem H]
 | some t=>∃(x:gO) (H':a_),H.le H'/\u= .tuple #[agg (dD x),.bool true]/\gn H' x t/\post=[.ob (cM wp (l6 k.n)),.mem H']
def JR{a:Int}{u v:Ε}(h1:u.oneCell'=true)(h2:v.oneCell'=true):∀x∈[Γ a,u,v],x.oneCell'=true:=by
 intro x hx;simp only[yya,yy5,vvb]at hx;rcases hx with rfl|rfl|rfl
 ·rfl
 ·exact h1
 exact h2
def Yk(wp:Nat)(k:cL)(H:a_)(mark aw:Int)(hn:k.rows.length<=1000000):SP 247 [bx wp,Γ mark,Γ aw] [.ob (cM wp k),.mem H] (vU wp k H mark aw):=by
 refine Enzz λW F w hS=>?_;apply bF8;delta aI bh aW bS bg bk BJ ai bK bc;obtain⟨rv,hS⟩:=cM.iff.1 hS;have eF:∀{w:Ζ} {rb:Nat},k.tW mark aw->SL W (.pt rb [Γ 0,Θ,Θ] 236::.pt wp (l5 k rv) 179::eI rv k.rows::.mem H::F) w->∃post,vU wp k H mark aw (.tuple #[agg (dD um),.bool false]) post/\SL W (app post F) w:=λh hS=>by
  have e:(k.high mark aw).2=none:=by unfold cL.high;rw[zzc h]
  refine⟨[.ob (cM wp k),.mem H],?_,SL.bo (cM.put k rv hS Xp) Xi⟩;unfold vU;rw[e];exact⟨rfl,rfl⟩
 refine Gb λrb w hS=>?_;refine za (λh=>?_) (λh1=>?_)
 ·refine Gn λw hS=>?_;exact eF (.inl h) hS
 refine bj (λh=>?_) (λh2=>?_)
 ·refine Gn λw hS=>?_;exact eF (.inr (.inl h)) hS
 refine bj (λh=>?_) (λh3=>?_)
 ·refine Gn λw hS=>?_;exact eF (.inr (.inr (by omega))) hS
 refine bj (λh=>?_) (λh4=>?_)
 ·refine Gn λw hS=>?_;exact eF (.inr (.inr (by omega))) hS
 clear eF;have bC:¬k.tW mark aw:=by unfold cL.tW;omega
 have e:(k.high mark aw).2=some ⟨aw,jv k aw,[vE k]⟩:=by unfold cL.high;rw[zzb bC]
 refine⟨λus w=>∃(b nb:Nat),us=[bx b]/\SL W (.pt b [Γ aw,Θ,.slice (some ⟨nb,0,none⟩) 1 1] 236::.pt nb [Γ 2,Γ k.id,Γ 0,Γ 0,Γ 0,Γ k.cG,.bool k.last] 357::.pt rb [Γ 0,Θ,Θ] 236::.pt wp (l5 k rv) 179::eI rv k.rows::.mem H::F) w,?_,?_⟩
 ·refine Gn λw hS=>?_;refine⟨?_,?_⟩
  ·refine Gb λnb w hS=>?_;refine Gb λb w hS=>?_;exact⟨b,nb,rfl,aR hS⟩
  refine Gb λb w hS=>?_;refine Gb λnb w hS=>?_;exact⟨b,nb,rfl,aR hS⟩
 clear hS;rintro v8 w ⟨b,nb,bM,hS⟩;cases bM;refine Gp ?_;refine zy hS (v:=rv) (t:=182) (sz:=2) (n:=k.rows.length) (cells:=(k.rows.map dV).flatten) Xh ?_;have wW:(jv k aw).length=k.rows.length:=zzv ..;have hS:SL W (.ob (bd Θ 354 5 ((jv k aw).take 0).length (((jv k aw).take 0).map iR).flatten)::_) w:=bd.nil hS;refine⟨λus w=>∃(i:Nat) (ov:Ε),us=[Γ i]/\i<=k.rows.length/\SL W (.ob (bd ov 354 5 ((jv k aw).take i).length (((jv k aw).take i).map iR).flatten)::.pt b [Γ aw,ov,.slice (some ⟨nb,0,none⟩) 1 1] 236::.pt nb [Γ 2,Γ k.id,Γ 0,Γ 0,Γ 0,Γ k.cG,.bool k.last] 357::.pt rb [Γ 0,Θ,Θ] 236::.pt wp (l5 k rv) 179::eI rv k.rows::.mem H::F) w,
  λus _=>match us with|[.int _ i]=>(k.rows.length-i).toNat|_=>0,⟨0,Θ,rfl,by omega,aR hS⟩,?_⟩
 clear hS;rintro v59 w ⟨i,ov,bM,hi,hS⟩;cases bM;refine bj (λh=>?_) (λh=>?_)
 ·have bn:i<k.rows.length:=by omega
  have hx:k.rows[i]?=some k.rows[i]:=zzd bn;have dY:(jv k aw)[i]'(by omega)=⟨aw,k.table,k.rows[i].key,false,k.rows[i].val⟩:=by unfold jv;rw[xx9]
  have eN:(jv k aw).take (i+1)=(jv k aw).take i++[⟨aw,k.table,k.rows[i].key,false,k.rows[i].val⟩]:=by rw[zze (by omega),dY]
  have EZ:((jv k aw).take i).length=i:=by rw[zzf];omega
  refine zX hS (v:=rv) (t:=182) Xh iK hx bn ?_;generalize k.rows[i]=r at *
  refine Gb λxb w hS=>?_;refine Gb λyb w hS=>?_;refine yf (n:=((jv k aw).take i).length) (xs:=(jv k aw).take i) (y:=⟨aw,k.table,r.key,false,r.val⟩) (enc:=iR) hS Xr Xh wx (λx=>B4 x) rfl (by omega) (by omega) λv2 w hS=>?_;have hS:=hS.nf (x:=(⟨aw,k.table,r.key,false,r.val⟩:fB));rw[<- eN]at hS
  have o1:v2.oneCell'=true:=bd.one hS;refine Gn λw hS=>?_;exact⟨⟨i+1,v2,rfl,by omega,aR hS⟩,by dsimp only;omega⟩
 have he:(jv k aw).take i=jv k aw:=zzz (by omega);rw[he]at hS
 have o1:ov.oneCell'=true:=bd.one hS;refine Gp ?_;refine Zn hS Xu rfl (by simp) (by simp[Value.oneCell']) λw hS=>?_;simp only[List.take,List.drop,zzn,zzo]at hS;refine Gn λw hS=>?_;refine zr (vs:=[Γ aw,ov,.slice (some ⟨nb,0,none⟩) 1 1]) hS Xu rfl rfl (JR o1 rfl) λw hS=>?_;refine Gp ?_;obtain⟨H1,bX,jt,hS⟩:=zA (H:=H) (v:=ov) hS Xp;obtain⟨H2,cF,nF,hS⟩:=SL.Wu (sz:=7) (H:=H1) (b:=nb) hS Xp rfl;have hS:=eI.nil hS;have hS:=cM.put (wp:=wp) (l6 k.n) Θ hS Xp;refine⟨[.ob (cM wp (l6 k.n)),.mem H2],?_,aR hS⟩;unfold vU;rw[e];exact⟨⟨aw,ov,.slice (some ⟨nb,0,none⟩) 1 1⟩,H2,a_.le_trans bX cF,rfl,⟨rfl,jt.mono cF,nF⟩,rfl⟩
abbrev btc(e u l:Int):Ξ:=[Γ e,Γ u,Γ l]
abbrev jj(p:Nat)(e u l:Int):Μ:=.pt p (btc e u l) 190
def ZD(p:Nat)(e u l now:Int)(he:1<=e/\e<=1073741824):SP 166 [Δ p,Γ now] [jj p e u l] (bA (.tuple #[]) [jj p e (iM e now) l]):=by
 refine Enzz λW F w hS=>?_;apply bD2;delta bh bS ai;have e1:min (max now 0) 1125899906842624+e=iM e now:=rfl;refine Gn λw hS=>?_;rw[e1]at hS
 (exact bw hS)
def aRw(e now aw:Int)(he:1<=e/\e<=1073741824)(hn:0<=now/\now<=1125899906842624)(hl:0<=aw/\aw<=1099511627776):SP 113 [Γ e,Γ now,Γ aw] [] (λv post=>∃p:Nat,v= .tuple #[Δ p,Γ 0]/\post=[jj p e (iM e now) aw]):=by
 refine Enzz λW F w hS=>?_;apply bCm;delta aI bk ai bT;refine Gp ?_;refine Χ ?_;refine Gp ?_;refine Χ ?_;refine Gp ?_;refine Χ ?_;refine Gp ?_;refine Χ ?_;refine Gp ?_;refine Χ ?_;refine Gp ?_;refine Χ ?_;refine Gp ?_;refine⟨_,rfl,zD hS λp w hS=>?_⟩;refine Gp ?_;refine Cg (ZD p e 0 aw now he) λw hS=>?_;exact⟨_,⟨p,rfl,rfl⟩,aR hS⟩
def Ym(p:Nat)(e u l x:Int):SP 133 [Δ p,Γ x] [jj p e u l] (bA (.tuple #[]) [jj p e u (max l x)]):=by
 refine Enzz λW F w hS=>?_;apply bC6;delta bh bS;refine Gn λw hS=>?_;(exact bw hS)
def Zh(p:Nat)(e u l now at_ cr:Int):SP 127 [Δ p,Γ now,Γ at_,Γ cr] [jj p e u l] (bA (.bool (decide (u<=now/\(at_<=l\/0<cr)))) [jj p e u l]):=by
 refine Enzz λW F w hS=>?_;apply bC0;delta aI bh aW bk br ai;refine bj (λh1=>?_) (λh1=>?_)
 ·refine bj (λh2=>?_) (λh2=>?_)
  ·rw[zzm (p:=u<=now/\(at_<=l\/0<cr)) ⟨by omega,.inl (by omega)⟩];(exact bw hS)
  refine Gp ?_;rw[show decide (u<=now/\(at_<=l\/0<cr))=decide (0<cr) from yye.2 ⟨λh=>by omega,λh=>by omega⟩];(exact bw hS)
 rw[zzx (p:=u<=now/\(at_<=l\/0<cr)) (by omega)];(exact bw hS)
def Qj(p:Nat)(e u l:Int):SP 57 [Δ p] [jj p e u l] (bA (Γ u) [jj p e u l]):=by
 refine Enzz λW F w hS=>?_;apply bIz;delta aW bk;refine Gp ?_;(exact bw hS)
def yo(p:Nat)(e u l now at_ cr:Int)(he:1<=e/\e<=1073741824)(hr:u<=now/\(at_<=l\/0<cr)):SP 141 [Δ p,Γ now,Γ at_,Γ cr] [jj p e u l]
  (λv post=>if at_<=l then v= .tuple #[agg (dD um),Γ 9]/\post=[jj p e (iM e now) l] else v= .tuple #[agg (dD ⟨at_,Θ,Θ⟩),Γ 8]/\post=[jj p e (iM e now) at_]):=by
 refine Enzz λW F w hS=>?_;apply bDf;delta aI bh bS bk bJ ai bc;refine Gb λxb w hS=>?_;refine Cg (Zh p e u l now at_ cr) λw hS=>?_;refine zw (λh=>by rw[zzm hr]at h;cases h) (λ_=>?_);refine Gp ?_;refine Cg (ZD p e u l now he) λw hS=>?_;refine za (λh=>?_) (λh=>?_)
 ·refine Gn λw hS=>?_;exact⟨_,(zzc h).mpr ⟨rfl,rfl⟩,aR hS⟩
 refine Gn λw hS=>?_;exact⟨_,(zzb h).mpr ⟨rfl,rfl⟩,aR hS⟩

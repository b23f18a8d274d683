/- Part. -/
import Derived.Test.YtgfbifafbkkghaaGreatDoorJ8
namespace Go.Proofs.YtgfbifafbkkghaaGreatDoor
set_option linter.all false
open Go.RowKit
abbrev fz:=List (List Row)
def gC(ts:fz)(t:Int):List Row:=if t<0 then [] else (ts[t.toNat]?).getD []
def gP(ts:fz)(c:bY):fz:=ts.set c.table.toNat (iE (gC ts c.table) c)
def dV(ts:fz)(l:List bY):fz:=l.foldl gP ts
def fK(n:Nat)(c:bY):Bool:=decide (0<=c.table/\c.table<(n:Int))
def nI(ts:fz)(l:List bY):Bool:=l.all (fK ts.length) && (dV ts l).all λC=>decide (C.length<=1000)
def ru(ts:fz)(c:bY):(gP ts c).length=ts.length:=yyi
def pk(ts:fz):∀l:List bY,(dV ts l).length=ts.length:=λl=>by
 unfold dV;induction l generalizing ts with
 | nil=>rfl
 | cons c l ih=>rw[xxw,ih,ru]
def PN(ts:fz)(l m:List bY):dV ts (l++m)=dV (dV ts l) m:=wwz
def Jb(ts:fz)(l:List bY)(c:bY):dV ts (l++[c])=gP (dV ts l) c:=by rw[PN];rfl
def mz(ts:fz)(t:Nat)(h:t<ts.length):gC ts t=ts[t]:=by
 unfold gC;rw[zzb (by omega),zzy,zzc h];rfl
def A2{ts:fz}{t:Int}(h:0<=t/\t<ts.length):gC ts t∈ts:=by
 obtain⟨n,rfl⟩:∃n:Nat,t=n:=⟨t.toNat,by omega⟩;rw[mz ts n (by omega)];exact zzi _
structure kF(C:List Row):Prop where
 sorted:ek C
 rows:∀r∈C,wc r
def kF.app{C:List Row}(h:kF C){c:bY}{k:Int}(hc:fQ c k=true):kF (iE C c):=by
 have hm:=pS.1 hc;unfold iE;split
 ·exact⟨Oq h.sorted _,λr hr=>h.rows r (MO hr)⟩
 refine⟨Ef h.sorted _,λr hr=>?_⟩;rcases MQ hr with rfl|hr
 ·exact⟨by show 1<=c.key;omega,by show c.key<=_;omega,by show c.val.size<=_;omega⟩
 exact h.rows r hr
def NT:kF []:=⟨List.Pairwise.nil,by simp⟩
def Z'(C:List Row)(c:bY):(iE C c).length<=C.length+1:=by
 unfold iE;split
 ·have:=Mg C c.key;omega
 exact Dz C _
def DJ{ts:fz}{c:bY}{C:List Row}(h:C∈gP ts c):C∈ts\/C=iE (gC ts c.table) c:=by
 unfold gP at h;exact vvs h
def PB{ts:fz}(h:∀C∈ts,kF C){c:bY}{k:Int}(hc:fQ c k=true)(ht:fK ts.length c=true):∀C∈gP ts c,kF C:=λC hC=>by
 rcases DJ hC with hC|rfl
 ·exact h C hC
 exact (h _ (A2 (zzl ht))).app hc
def BG{k:Int}:∀{l:List bY} {ts:fz},(∀C∈ts,kF C)->(∀c∈l,fQ c k=true)->(∀c∈l,fK ts.length c=true)->∀C∈dV ts l,kF C
 | [],ts,h,_,_=>h
 | c::l,ts,h,h1,h2=>by
  show ∀C∈dV (gP ts c) l,kF C;refine BG (PB h (h1 c (.head _)) (h2 c (.head _))) (λx hx=>h1 x (.tail _ hx)) λx hx=>?_;rw[ru];exact h2 x (.tail _ hx)
def wY(N:Nat):∀{l:List bY} {ts:fz},(∀C∈ts,C.length<=N)->(∀c∈l,fK ts.length c=true)->∀C∈dV ts l,C.length<=N+l.length
 | [],ts,h,_=>h
 | c::l,ts,h,h2=>by
  intro C hC;have hA:∀C∈gP ts c,C.length<=N+1:=λC hC=>by
   rcases DJ hC with hC|rfl
   ·have:=h C hC;omega
   have h1:=Z' (gC ts c.table) c;have h3:=h _ (A2 (zzl (h2 c (.head _))));omega
  have:=wY (N+1) (l:=l) hA (λx hx=>by rw[ru];exact h2 x (.tail _ hx)) C hC;rw[zzg];omega
structure b7 where
 g:b6
 d:DS
 ts:fz
 eZ:Int
 image:Int
def gf(R:List PF)(n:Nat)(f:Int):Option (Int × fz):=match cw PF.id R f with
 | none=>none
 | some x=>match iO x.b with
  | none=>none
  | some y=>if y.2.length=n then some y else none
abbrev mF:=Int × Int × fz
def eD(R:List PF)(n:Nat)(f:Int)(x:mF):mF:=match gf R n f with
 | none=>x
 | some y=>if 0<=x.1/\y.1<=x.2.1 then x else (f,y.1,y.2)
def lg(R:List PF)(n:Nat):mF:=eD R n 1 (eD R n 0 (-1,0,List.replicate n []))
def lj(n:Nat)(image:Int):List (Φ)->Int->fz->Option fz
 | [],_,ts=>some ts
 | b::r,aR,ts=>match ix b with
  | .error _=>none
  | .ok t=>if t.aR=aR/\(∀c∈t.changes,c.table<(n:Int)) then lj n image r (aR+1) (if image<aR then dV ts t.changes else ts) else none
def nr(d:DS)(cV size:Int):DS × Except Int b7:=
 if cV<1\/8<cV then (d,.error 1)
 else match eO d 16 size with
  | (d',.error e)=>(d',.error e)
  | (d',.ok g)=>
   let x:=lg d'.R cV.toNat
   match lj cV.toNat x.2.1 (cr g.a_) (cX g.a_) x.2.2 with
   | none=>(d',.error 3)
   | some ts=>if x.2.1<=bF g.a_/\cX g.a_<=x.2.1+1 then (d',.ok ⟨g,d',ts,x.1,x.2.1⟩) else (d',.error 3)
abbrev jX:=lW
def b7.kI(k:b7)(t:bS):b7 × (Int × Int):=
 if k.d.off=true then (k,(0,8))
 else if nI k.ts t.changes=false\/1099511627776<=bF k.g.a_ then (k,(0,7))
 else
  let r:=gk k.g k.d (jX {t with aR:=bF k.g.a_+1})
  if r.2.2=0 then ({k with g:=r.1.1,d:=r.1.2,ts:=dV k.ts t.changes},(bF k.g.a_+1,0)) else ({k with g:=r.1.1,d:=r.1.2},(0,r.2.2))
def b7.kj(k:b7)(sg:Ψ)(l:List bY):b7 × (Int × Int):=
 if cI ⟨1,1,l,sg,0⟩=true/\(∀c∈l,c.table<(k.ts.length:Int)) then k.kI ⟨1,1,l,sg,0⟩ else (k,(0,1))
def b7.vT(k:b7)(kind mark:Int):b7 × (Int × Int):=
 if (kind=2\/kind=3)/\cI ⟨1,kind,[],[],mark⟩=true then k.kI ⟨1,kind,[],[],mark⟩ else (k,(0,1))
def b7.gM(k:b7)(aR:Int):Except Int bS:=match kA k.g.a_ aR with
 | none=>.error 5
 | some b=>ix b
def Nu(k:b7):Int:=if k.eZ=0 then 1 else 0
def Sa(d:DS)(f:Int)(b:Φ):DS × Int:=
 let c:=if 0<=mg d.R f then d.cut f 0 else (d,0)
 if c.2≠0 then c else
 let a:=c.1.append f b
 if a.2≠0 then a else a.1.sync f
def b7.Sc(k:b7):b7 × Int:=
 let r:=Sa k.d (Nu k) (cD (pM (bF k.g.a_) k.ts))
 if r.2=0 then ({k with d:=r.1,eZ:=Nu k,image:=bF k.g.a_},0) else ({k with d:=r.1},r.2)
def b7.aIi(k:b7)(aR:Int):b7 × Int:=
 if aR<0\/bF k.g.a_<aR then (k,1)
 else if k.d.off=true then (k,8)
 else
  let r:=if k.image<aR then k.Sc else (k,0)
  if r.2≠0 then r else
  let t:=aIh r.1.g r.1.d aR
  ({r.1 with g:=t.1.1,d:=t.1.2},t.2)
def Px(C:List Row)(key:Int)(n:Int):List Row:=(C.filter λr=>decide (key<r.key)).take n.toNat
def b7.Ro(k:b7)(t key n:Int):List Row:=Px (gC k.ts t) key n
structure dU(lo hi:Int)(A B M:List PF):Prop where
 a:∀x∈A,x.id<lo
 m:∀x∈M,lo<=x.id/\x.id<hi
 b:∀x∈B,hi<=x.id
def fN(A B:List PF)(d:DS):DS:={d with R:=A++d.R++B}
section
variable {lo hi:Int} {A B M:List PF}
def dU.cK(h:dU lo hi A B M){f:Int}(h1:lo<=f)(h2:f<hi):dA PF.id (A++M++B) f=A.length+dA PF.id M f:=by
 have eA:A.filter (λx=>decide (PF.id x<f))=A:=xxn.2 λx hx=>zzr (by have:=h.a x hx;omega);have eB:B.filter (λx=>decide (PF.id x<f))=[]:=vvc.2 λx hx=>by have:=h.b x hx;simp;omega
 unfold dA;rw[xxp,xxp,eA,eB,zz4,zza]
def dU.at_(h:dU lo hi A B M)(c:Nat)(hc:c<=M.length):(A++M++B)[A.length+c]?=if c<M.length then M[c]? else B[0]?:=by
 rw[zze,zz3 (by omega),show A.length+c-A.length=c by omega];split
 ·rw[zzs (by omega)]
 rw[zz3 (by omega),show c-M.length=0 by omega]
def dU.is(h:dU lo hi A B M){f:Int}(h1:lo<=f)(h2:f<hi):gx PF.id (A++M++B) f=gx PF.id M f:=by
 unfold gx;rw[h.cK h1 h2,h.at_ _ (xd M f)];by_cases hc:dA PF.id M f<M.length
 ·rw[zzd hc]
 rw[zzb hc,yys (l:=M) (by omega)];cases hB:B[0]? with
 | none=>rfl
 | some y=>
  have:=h.b y (xxz hB);simp;omega
def dU.get(h:dU lo hi A B M){f:Int}(h1:lo<=f)(h2:f<hi):cw PF.id (A++M++B) f=cw PF.id M f:=by
 unfold cw;rw[h.is h1 h2];split
 ·rename_i hi;obtain⟨hl,_⟩:=oW hi;rw[h.cK h1 h2,h.at_ _ (by omega),zzd hl]
 rfl
def dU.put(h:dU lo hi A B M){x:PF}(h1:lo<=x.id)(h2:x.id<hi):gL PF.id (A++M++B) x=A++gL PF.id M x++B:=by
 have hc:=xd (key:=PF.id) M x.id;unfold gL;rw[h.is h1 h2,h.cK h1 h2];have e1:(A++M++B).take (A.length+dA PF.id M x.id)=A++M.take (dA PF.id M x.id):=by
  rw[zze,yy2,wwg hc]
 rw[e1];split
 ·rename_i hi;obtain⟨hl,_⟩:=oW hi;rw[zze A M B,ww3,yy3,wwh (by omega)];simp only[zze]
 rw[zze A M B,yy3,wwh hc];simp only[zze]
def dU.del(h:dU lo hi A B M){f:Int}(h1:lo<=f)(h2:f<hi):jj PF.id (A++M++B) f=A++jj PF.id M f++B:=by
 unfold jj;rw[h.is h1 h2];split
 ·rename_i hi;obtain⟨hl,_⟩:=oW hi;rw[h.cK h1 h2,zze,List.eraseIdx_append_of_length_le (by omega),show A.length+dA PF.id M f-A.length=dA PF.id M f by omega,List.eraseIdx_append_of_lt_length hl,zze]
 rfl
def dU.ox(h:dU lo hi A B M){f:Int}(h1:lo<=f)(h2:f<hi)(g:PF->PF):lU (A++M++B) f g=A++lU M f g++B:=by
 unfold lU;rw[h.get h1 h2];split
 ·rw[h.put (x:={g _ with id:=f}) h1 h2]
 rfl
def dU.len(h:dU lo hi A B M){f:Int}(h1:lo<=f)(h2:f<hi):mg (A++M++B) f=mg M f:=by
 unfold mg;rw[h.get h1 h2]
def dU.O3{M':List PF}(h:dU lo hi A B M)(hm:∀x∈M',lo<=x.id/\x.id<hi):dU lo hi A B M':=⟨h.a,hm,h.b⟩
def dU.bas(h:dU lo hi A B M){f:Int}(h1:lo<=f)(h2:f<hi)(g:PF->PF):dU lo hi A B (lU M f g):=h.O3 λx hx=>by
 rcases AD hx with hx|⟨y,_,_,rfl⟩
 ·exact h.m x hx
 exact⟨h1,h2⟩
def dU.bao(h:dU lo hi A B M)(f:Int):dU lo hi A B (jj PF.id M f):=h.O3 λx hx=>h.m x (Az hx)
end
section
variable {lo hi:Int} {A B:List PF} {d:DS}
def Vm(f:Int):may (fN A B d) f=may d f:=rfl
def LO(h:dU lo hi A B d.R){f:Int}(h1:lo<=f)(h2:f<hi):(fN A B d).find f=d.find f:=by
 unfold DS.find;rw[Vm,show (fN A B d).R=A++d.R++B from rfl,h.is h1 h2]
def Vl(h:dU lo hi A B d.R){f:Int}(h1:lo<=f)(h2:f<hi)(n:Int):(fN A B d).cut f n=(fN A B (d.cut f n).1,(d.cut f n).2)/\dU lo hi A B (d.cut f n).1.R:=by
 unfold DS.cut;rw[LO h h1 h2,show (fN A B d).R=A++d.R++B from rfl,h.len h1 h2];split
 ·exact⟨rfl,h⟩
 split
 ·exact⟨rfl,h⟩
 rw[show (fN A B d).cK.off=d.cK.off from rfl];split
 ·exact⟨rfl,h⟩
 rw[h.ox h1 h2];exact⟨rfl,h.bas h1 h2 _⟩
def Vn(h:dU lo hi A B d.R){f:Int}(h1:lo<=f)(h2:f<hi):(fN A B d).remove f=(fN A B (d.remove f).1,(d.remove f).2)/\dU lo hi A B (d.remove f).1.R:=by
 unfold DS.remove;rw[LO h h1 h2];split
 ·exact⟨rfl,h⟩
 rw[show (fN A B d).cK.off=d.cK.off from rfl];split
 ·exact⟨rfl,h⟩
 rw[show (fN A B d).R=A++d.R++B from rfl,h.del h1 h2];exact⟨rfl,h.bao f⟩
structure O'(lo hi:Int)(g:b6):Prop where
 b0:lo<=g.base
 b1:g.base+4096<=hi
 a_:∀s∈g.a_,g.base<=s.file/\s.file<g.base+4096
 cE:∀x,g.cE=some x->g.base<=x.file/\x.file<g.base+4096
def U5{M:List PF}{base:Int}(h:dU base (base+4096) A B M):dB base (A++M++B)=dB base M:=by
 have eA:(A.map PF.id).filter (λf=>decide (base<=f/\f<base+4096))=[]:=vvc.2 λf hf=>by
  obtain⟨x,hx,rfl⟩:=zz1.1 hf;have:=h.a x hx;simp;omega
 have eB:(B.map PF.id).filter (λf=>decide (base<=f/\f<base+4096))=[]:=vvc.2 λf hf=>by
  obtain⟨x,hx,rfl⟩:=zz1.1 hf;have:=h.b x hx;simp;omega
 unfold dB;rw[zzx,zzx,xxp,xxp,eA,eB,zzp,zz4]
def VX{M:List PF}{L:List bR}{f:Int}{last:Bool}(h:dU lo hi A B M)(h1:lo<=f)(h2:f<hi):gy L (A++M++B) f last=gy L M f last:=by
 unfold gy;rw[h.get h1 h2]
def Mn{M:List PF}(h:dU lo hi A B M):∀(ids:Ω) (prev:Option Int) (L:List bR) (wh:Bool),(∀f∈ids,lo<=f/\f<hi)->jz (A++M++B) ids prev L wh=jz M ids prev L wh
 | [],_,_,_,_=>rfl
 | f::r,prev,L,wh,hi=>by
  unfold jz;rw[VX h (hi f (.head _)).1 (hi f (.head _)).2];simp only;rw[Mn h r _ _ _ λf hf=>hi f (.tail _ hf)]
def LJ{M:List PF}{base f:Int}(h:f∈dB base M):base<=f/\f<base+4096:=by
 unfold dB at h;exact zzl (xxf.1 h).2
def PW{L:List bR}{base:Int}{ids:Ω}{wh:Bool}(h:dU base (base+4096) A B d.R)(hi:∀f∈ids,base<=f/\f<base+4096):gQ L (fN A B d) ids wh=(fN A B (gQ L d ids wh).1,(gQ L d ids wh).2)/\dU base (base+4096) A B (gQ L d ids wh).1.R:=by
 unfold gQ;cases hl:ids.getLast? with
 | none=>exact⟨rfl,h⟩
 | some f=>
  obtain⟨h1,h2⟩:=hi f (uuf hl);simp only;split
  ·exact Vn h h1 h2
  rw[show (fN A B d).R=A++d.R++B from rfl,h.len h1 h2];split
  ·exact Vl h h1 h2 _
  exact⟨rfl,h⟩
def Xj{base size:Int}(h:dU base (base+4096) A B d.R):eO (fN A B d) base size=(fN A B (eO d base size).1,(eO d base size).2)/\dU base (base+4096) A B (eO d base size).1.R:=by
 unfold eO;split
 ·exact⟨rfl,h⟩
 rw[show (fN A B d).off=d.off from rfl,show (fN A B d).R=A++d.R++B from rfl,U5 h,Mn h _ _ _ _ λf hf=>LJ hf];split
 ·exact⟨rfl,h⟩
 split
 ·exact⟨rfl,h⟩
 rename_i L wh _;obtain⟨e,hw⟩:=PW (L:=L) (wh:=wh) h λf hf=>LJ hf;rw[e];simp only;split
 ·exact⟨rfl,hw⟩
 exact⟨rfl,hw⟩
end
def fq(n:Nat)(l:List bS):fz:=(List.range n).map λt:Nat=>rF (t:Int) l
def o9(n:Nat)(l:List bS):(fq n l).length=n:=by unfold fq;simp
def OH{n:Nat}(l:List bS)(t:Nat)(h:t<n):gC (fq n l) t=rF (t:Int) l:=by
 rw[mz _ t (by rw[o9];exact h)];unfold fq;simp
def aFy{ts:fz}{c:bY}(h:fK ts.length c=true)(t:Nat)(ht:t<ts.length):gC (gP ts c) t=pj t (gC ts t) c:=by
 have hc:0<=c.table/\c.table<(ts.length:Int):=zzl h;rw[mz _ t (by rw[ru];exact ht)];unfold gP pj;rw[xxr];by_cases e:c.table=t
 ·rw[zzd (by omega),zzd e,e];rfl
 rw[zzb (by omega),zzb e,mz ts t ht]
def OF:∀{l:List bY} {ts:fz},(∀c∈l,fK ts.length c=true)->∀t:Nat,t<ts.length->gC (dV ts l) t=l.foldl (pj t) (gC ts t)
 | [],ts,_,t,_=>rfl
 | c::l,ts,h,t,ht=>by
  show gC (dV (gP ts c) l) t=_;rw[OF (λx hx=>by rw[ru];exact h x (.tail _ hx)) t (by rw[ru];exact ht),aFy (h c (.head _)) t ht];rfl
def aF4{a b:fz}(hl:a.length=b.length)(h:∀t:Nat,t<a.length->gC a t=gC b t):a=b:=
 vvp hl λt h1 h2=>by have:=h t h1;rw[mz a t h1,mz b t h2]at this;exact this
def OI{n:Nat}{l:List bS}{t:bS}(h:∀c∈t.changes,fK n c=true):dV (fq n l) t.changes=fq n (l++[t]):=by
 have hl:=o9 n l;have h':∀c∈t.changes,fK (fq n l).length c=true:=λc hc=>by rw[hl];exact h c hc
 refine aF4 (by rw[pk,o9,o9]) λi hi=>?_;rw[pk,hl]at hi
 rw[OF h' i (by rw[hl];exact hi),OH l i hi,OH _ i hi];unfold rF;simp
def Ep(n:Nat):fq n []=List.replicate n []:=by
 unfold fq rF;refine vvp (by simp) λi h1 h2=>by simp
structure uA(n:Nat)(all:List bS):Prop where
 may:∀t∈all,cI t=true
 aR:∀i (h:i<all.length),all[i].aR=(i:Int)+1
 ch:∀t∈all,∀c∈t.changes,fK n c=true
def P_{t:bS}(h:cI t=true):ix (jX t)= .ok t:=Q_ h
def NO{n:Nat}{all:List bS}(h:uA n all)(m:Nat):∀(k j:Nat),j+k=all.length->lj n m ((all.drop j).map jX) ((j:Int)+1) (fq n (all.take (max j m)))=some (fq n (all.take (max all.length m)))
 | 0,j,hj=>by
  rw[yyt (by omega),show j=all.length by omega];rfl
 | k+1,j,hj=>by
  have hl:j<all.length:=by omega
  have ih:=NO h m k (j+1) (by omega);have hm:=h.may _ (zzi hl);have nS:=h.ch _ (zzi hl);rw[yya hl,zzj,lj,P_ hm];simp only;rw[zzd ⟨h.aR j hl,λc hc=>(zzl (nS c hc)).2⟩];have e:(if (m:Int)<(j:Int)+1 then dV (fq n (all.take (max j m))) all[j].changes else fq n (all.take (max j m)))=fq n (all.take (max (j+1) m)):=by
   split
   ·rw[show max j m=j by omega,show max (j+1) m=j+1 by omega,OI nS,zzh hl]
   rw[show max j m=m by omega,show max (j+1) m=m by omega]
  rw[e,show (j:Int)+1+1=((j+1:Nat):Int)+1 by omega];exact ih
def OJ{n:Nat}:∀(k:Nat) (l:List bS),l.length=k->(∀t∈l,cI t=true)->(∀t∈l,∀c∈t.changes,fK n c=true)->(∀C∈fq n l,kF C)
 | 0,l,hl,_,_=>by
  rw[zzm hl,Ep];intro C hC;rw[ww4 hC];exact NT
 | k+1,l,hl,h1,h2=>by
  have d_:l≠[]:=λe=>by rw[e]at hl;cases hl
  obtain⟨l',t,rfl⟩:∃l' t,l=l'++[t]:=⟨l.dropLast,l.getLast d_,(vve d_).symm⟩;have nS:=h2 t (by simp);rw[zza,yyg]at hl
  rw[<- OI nS];exact BG (k:=8) (OJ k l' (by omega) (λx hx=>h1 x (by simp[hx])) λx hx=>h2 x (by simp[hx])) (λc hc=>(iW (h1 t (by simp))).2.2.2.2.2.1 c hc) λc hc=>by rw[o9];exact nS c hc
def aF2{n:Nat}{l:List bS}(h1:∀t∈l,cI t=true)(h2:∀t∈l,∀c∈t.changes,fK n c=true):∀C∈fq n l,kF C:=OJ l.length l rfl h1 h2
structure Laid(g:b6)(d:DS)(f n:Int)(es:List Φ):Prop where
 chain:gX f n g.a_
 sV:cr g.a_=es
 files:d.R=g.a_.map mv
 nil:g.a_=[]->f=g.base/\n=1
 base:g.base<=f
 b0:0<=g.base
 b1:g.base<=12288
 s0:64<=g.size
 s1:g.size<=65536
 n1:1<=n
 fi:f+es.length+2<=g.base+4096
 cE:g.cE=none
def mG.laid{g:b6}{d:DS}{f n:Int}{es:List Φ}(h:mG g d f n es):Laid g d f n es:=⟨h.chain,h.sV,h.files,h.nil,h.base,h.b0,h.b1,h.s0,h.s1,h.n1,h.fi,h.cE⟩
def Laid.bap{g:b6}{d d':DS}{f n:Int}{es:List Φ}(h:Laid g d f n es)(hR:d'.R=d.R):Laid g d' f n es:=⟨h.chain,h.sV,hR.trans h.files,h.nil,h.base,h.b0,h.b1,h.s0,h.s1,h.n1,h.fi,h.cE⟩
def PV(n:Nat)(x:PF):Prop:=∀y,iO x.b=some y->y.2.length≠n
structure ui(n:Nat)(all:List bS)(I:List PF)(eZ:Int)(m:Nat):Prop where
 sorted:fF PF.id I
 ids:∀x∈I,x.id=0\/x.id=1
 safe:∀x∈I,x.safe=x.b.length
 none_:eZ = -1->m=0
 new:eZ = -1\/eZ=0\/eZ=1
 le:m<=all.length
 some_:eZ≠-1->∃x∈I,x.id=eZ/\x.b=cD (pM m (fq n (all.take m)))
 other:∀x∈I,x.id≠eZ->PV n x\/∃y,iO x.b=some y/\y.1<m/\eZ≠-1
def Vc{R:List PF}(hs:fF PF.id R){n:Nat}{f:Int}:gf R n f=none\/∃x∈R,x.id=f/\∃y,iO x.b=some y/\y.2.length=n/\gf R n f=some y:=by
 unfold gf;cases hg:cw PF.id R f with
 | none=>exact .inl rfl
 | some x=>
  have hx:=pA hg;simp only;cases hd:iO x.b with
  | none=>exact .inl rfl
  | some y=>
   simp only;by_cases hl:y.2.length=n
   ·exact .inr ⟨x,hx.1,hx.2,y,hd,hl,by rw[zzd hl]⟩
   exact .inl (zzb hl)
def Vd{R:List PF}(hs:fF PF.id R){n:Nat}{x:PF}(hx:x∈R){y:Int × fz}(hd:iO x.b=some y)(hl:y.2.length=n):gf R n x.id=some y:=by
 unfold gf;rw[xD hs hx];simp only[hd];rw[zzd hl]
def ui.load{n:Nat}{all:List bS}{I:List PF}{eZ:Int}{m:Nat}(h:ui n all I eZ m)(hm:∀j,j<=all.length->iz j (fq n (all.take j))=true):lg I n=(eZ,(m:Int),fq n (all.take m)):=by
 have hn:eZ≠-1->gf I n eZ=some ((m:Int),fq n (all.take m)):=λd_=>by
  obtain⟨x,hx,hf,hb⟩:=h.some_ d_;rw[<- hf];exact Vd h.sorted hx (by rw[hb];exact RU (hm m h.le)) (o9 _ _)
 have ho:∀f,f≠eZ->gf I n f=none\/∃y,gf I n f=some y/\y.1<m/\eZ≠-1:=λf hf=>by
  rcases Vc h.sorted (n:=n) (f:=f) with e|⟨x,hx,Ah,y,h1,h2,h3⟩
  ·exact .inl e
  rcases h.other x hx (by rw[Ah];exact hf) with hb|⟨z,hz,h4,h5⟩
  ·exact absurd h2 (hb y h1)
  rw[h1]at hz;cases hz
  exact .inr ⟨y,h3,h4,h5⟩
 unfold lg;rcases h.new with e|e|e
 ·have Um:=h.none_ e;have o0:gf I n 0=none:=by
   rcases ho 0 (by rw[e];decide) with h1|⟨_,_,_,h1⟩
   ·exact h1
   exact absurd e h1
  have o1:gf I n 1=none:=by
   rcases ho 1 (by rw[e];decide) with h1|⟨_,_,_,h1⟩
   ·exact h1
   exact absurd e h1
  unfold eD;rw[o0,o1,e,Um];simp only[uu6,Ep];rfl
 ·have hn:=hn (by rw[e];decide);rw[e]at hn
  have h0:eD I n 0 (-1,0,List.replicate n [])=(0,(m:Int),fq n (all.take m)):=by
   unfold eD;rw[hn];simp
  rw[h0,e];unfold eD;rcases ho 1 (by rw[e];decide) with h1|⟨y,h1,h2,_⟩
  ·rw[h1]
  rw[h1];simp only;rw[zzd ⟨by decide,by omega⟩]
 have hn:=hn (by rw[e];decide);rw[e]at hn
 rcases ho 0 (by rw[e];decide) with h1|⟨y,h1,h2,_⟩
 ·have h0:eD I n 0 (-1,0,List.replicate n [])=(-1,0,List.replicate n []):=by unfold eD;rw[h1]
  rw[h0,e];unfold eD;rw[hn];simp
 have h0:eD I n 0 (-1,0,List.replicate n [])=(0,y.1,y.2):=by unfold eD;rw[h1];simp
 rw[h0,e];unfold eD;rw[hn];simp only;rw[zzb (by omega)]
def ER(n:Nat)(all:List bS):Prop:=∀j,j<=all.length->iz j (fq n (all.take j))=true
structure sF(n:Nat)(k:b7)(all:List bS)(tr:Nat)(I:List PF)(d0:DS)(f:Int)(lo m:Nat):Prop where
 R8:k.d=fN I [] d0
 eh:dU 16 4112 I [] d0.R
 log:Laid k.g d0 f ((lo:Int)+1) ((all.drop lo).map jX)
 base:k.g.base=16
 Vb:ui n all I k.eZ m
 image:k.image=m
 V1:lo<=m
 V3:lo<=tr
 ts:k.ts=fq n all
 file:f<=16+lo
def VZ{I M:List PF}(hI:∀x∈I,x.id=0\/x.id=1)(hM:∀x∈M,16<=x.id)(n:Nat):lg (I++M++[]) n=lg I n:=by
 have hw:dU 0 16 [] M I:=⟨by simp,λx hx=>by rcases hI x hx with h|h<;>omega,hM⟩;have hg:∀f:Int,0<=f->f<16->gf (I++M++[]) n f=gf I n f:=λf h0 h1=>by
  unfold gf;have:=hw.get h0 h1;rw[zzp]at this
  rw[zz4,this]
 unfold lg eD;rw[hg 0 (by decide) (by decide),hg 1 (by decide) (by decide)]
def X8{n:Nat}{all:List bS}(h:uA n all){lo m:Nat}(h1:lo<=m)(h2:m<=all.length):lj n m ((all.drop lo).map jX) ((lo:Int)+1) (fq n (all.take m))=some (fq n all):=by
 have:=NO h m (all.length-lo) lo (by omega);rw[show max lo m=m by omega,show max all.length m=all.length by omega,zz6]at this
 exact this
def Xk{n:Nat}(n1:1<=n)(n8:n<=8){all:List bS}(ht:uA n all)(hi:ER n all){I:List PF}{d1 d2:DS}{g:b6}{size:Int}(ho:eO d1 16 size=(d2,.ok g))(hw:dU 16 4112 I [] d1.R){f eZ:Int}{lo m tr:Nat}
  (hl:mG g d2 f ((lo:Int)+1) ((all.drop lo).map jX)) (hb:g.base=16) (l7:ui n all I eZ m) (Le:lo<=m) (cA:lo<=tr) (hf:f<=16+lo) :
  nr (fN I [] d1) n size=(fN I [] d2,.ok ⟨g,fN I [] d2,fq n all,eZ,m⟩)/\sF n ⟨g,fN I [] d2,fq n all,eZ,m⟩ all tr I d2 f lo m:=by
 obtain⟨e,Dj⟩:=Xj (base:=16) (size:=size) (A:=I) (B:=[]) (d:=d1) hw;rw[ho]at e Dj
 have x_:lg (fN I [] d2).R n=(eZ,(m:Int),fq n (all.take m)):=by
  show lg (I++d2.R++[]) n=_;rw[VZ l7.ids λx hx=>(Dj.m x hx).1];exact l7.load hi
 have nf:=l7.le;have oR:=hl.head;rw[yyh,zz0]at oR
 have vw:cX g.a_=(lo:Int)+1:=by
  by_cases hs:g.a_=[]
  ·rw[hs];have:=(hl.nil hs).2;show (1:Int)=_;omega
  exact hl.chain.low hs
 refine⟨?_,⟨rfl,Dj,hl.laid,hb,l7,rfl,Le,cA,rfl,hf⟩⟩;unfold nr;rw[zzb (by omega),e];simp only[zzy];rw[x_,hl.sV,vw];simp only;rw[X8 ht Le nf];simp only;rw[zzd ⟨by omega,by omega⟩]
set_option maxRecDepth 100000
def LR:∀(C:List Row) (c:Row) (i:Nat),i<=C.length->(∀j (h:j<C.length),j<i->C[j].key<c.key)->(∀h:i<C.length,c.key<=C[i].key) ->
  eW C c=C.take i++[c]++C.drop (if ∃h:i<C.length,C[i].key=c.key then i+1 else i)
 | [],c,i,hi,_,_=>by
  have:i=0:=by simpa using hi
  subst this;simp[eW]
 | x::C,c,0,_,_,h2=>by
  have hx:=h2 (by simp);simp only[vv6]at hx;have:¬x.key<c.key:=by omega
  by_cases he:x.key=c.key
  ·simp[eW,he]
  simp[eW,this,he]
 | x::C,c,i+1,hi,h1,h2=>by
  have hx:x.key<c.key:=h1 0 (by simp) (by omega);have ih:=LR C c i (by simpa using hi) (λj h hj=>by have:=h1 (j+1) (by simpa using h) (by omega);simpa using this) (λh=>by have:=h2 (by simpa using h);simpa using this);simp only[eW,hx,vvj,ih,zzg,vv9,Nat.add_lt_add_iff_right];split<;>simp
def JP:∀(C:List Row) (k:Int) (i:Nat) (h:i<C.length),(∀j (h:j<C.length),j<i->C[j].key≠k)->C[i].key=k->gH C k=C.take i++C.drop (i+1)
 | x::C,k,0,_,_,h2=>by simp at h2;simp[gH,h2]
 | x::C,k,i+1,h,h1,h2=>by
  have hx:x.key≠k:=h1 0 (by simp) (by omega);have ih:=JP C k i (by simpa using h) (λj h hj=>by have:=h1 (j+1) (by simpa using h) (by omega);simpa using this) (by simpa using h2);simp[gH,hx,ih]
def JQ:∀(C:List Row) (k:Int),(∀j (h:j<C.length),C[j].key≠k)->gH C k=C
 | [],k,_=>rfl
 | x::C,k,h=>by
  have hx:x.key≠k:=h 0 (by simp);simp[gH,hx,JQ C k (λj hj=>by have:=h (j+1) (by simpa using hj);simpa using this)]
def mH(H:aX)(vs:Ξ)(ts:List (List Row)):Prop:=vs.length=ts.length/\∀(i:Nat) (v:Ε) (C:List Row),vs[i]?=some v->ts[i]?=some C->bK H 2 v C.length (C.map gw).flatten
def mH.mono{H H':aX}{vs:Ξ}{ts:List (List Row)}(hh:H.le H')(h:mH H vs ts):mH H' vs ts:=⟨h.1,λi v C h1 h2=>(h.2 i v C h1 h2).mono hh⟩
structure AtR(C:List Row)(key:Int)(i:Nat):Prop where
 le:i<=C.length
 lo:∀j (h:j<C.length),j<i->C[j].key<key
 hi:∀h:i<C.length,key<=C[i].key
def j6(C:List Row)(key:Int)(i:Nat):Bool:=decide (∃h:i<C.length,C[i].key=key)
def AtR.gt{C:List Row}{key:Int}{i:Nat}(h:AtR C key i)(hs:ek C):∀j (hj:j<C.length),i<j->key<C[j].key:=λj hj pD=>by
 have h1:=h.hi (by omega);have:=xx7.1 hs i j (by omega) hj pD;omega
def AtR.up{C:List Row}{key:Int}{i:Nat}(h:AtR C key i)(hs:ek C)(hn:j6 C key i=false):∀j (hj:j<C.length),i<=j->key<C[j].key:=λj hj pD=>by
 rcases ww0 i j with h1|h1
 ·exact h.gt hs j hj h1
 obtain rfl:j=i:=by omega
 have h1:=h.hi hj;have h2:¬C[j].key=key:=λe=>yyj hn ⟨hj,e⟩;omega
def AtR.ins{C:List Row}{key:Int}{i:Nat}(h:AtR C key i)(v:Η):eW C ⟨key,v⟩=if j6 C key i=true then C.set i ⟨key,v⟩ else C.take i++[⟨key,v⟩]++C.drop i:=by
 rw[LR C ⟨key,v⟩ i h.le h.lo h.hi];by_cases hk:∃h:i<C.length,C[i].key=key
 ·rw[zzd hk,zzd (show j6 C key i=true from zzr hk)];rw[xxl,zzd hk.1];simp
 rw[zzb hk,zzb (by simpa [j6] using hk)]
def AtR.del{C:List Row}{key:Int}{i:Nat}(h:AtR C key i)(hs:ek C):gH C key=if j6 C key i=true then C.take i++C.drop (i+1) else C:=by
 cases hk:j6 C key i with
 | true=>
  obtain⟨hi,e⟩:=zzl hk;rw[zzd rfl];exact JP C key i hi (λj hj gJ=>by have:=h.lo j hj gJ;omega) e
 | false=>
  rw[zzb (by decide)];refine JQ C key λj hj=>?_;rcases ww0 j i with h1|h1
  ·have:=h.lo j hj h1;omega
  have:=h.up hs hk j hj h1;omega
def AtR.get{C:List Row}{key:Int}{i:Nat}(h:AtR C key i)(hs:ek C):(cP C key).isSome=j6 C key i/\∀hi:i<C.length,C[i].key=key->cP C key=some C[i].val:=by
 have h2:∀hi:i<C.length,C[i].key=key->cP C key=some C[i].val:=λhi e=>by
  unfold cP;have:C.find? (λc=>decide (c.key=key))=some C[i]:=by
   rw[List.find?_eq_some_iff_getElem];refine⟨by simpa using e,i,hi,rfl,λj hj=>?_⟩;have:=h.lo j (by omega) hj;simp;omega
  rw[this];rfl
 refine⟨?_,h2⟩;cases hk:j6 C key i with
 | true=>
  obtain⟨hi,e⟩:=zzl hk;rw[h2 hi e];rfl
 | false=>
  unfold cP;have:C.find? (λc=>decide (c.key=key))=none:=by
   rw[uur];intro x hx;obtain⟨j,hj,rfl⟩:=yyf hx;rcases ww0 j i with h1|h1
   ·have:=h.lo j hj h1;simp;omega
   have:=h.up hs hk j hj h1;simp;omega
  rw[this];rfl
def j7(C:List Row)(l:List Row):List Row:=l.foldl eW C
def LS:∀(C:List Row) (r:Row),(∀x∈C,x.key<r.key)->eW C r=C++[r]
 | [],r,_=>rfl
 | x::C,r,h=>by
  unfold eW;rw[zzd (h x (.head _)),LS C r λy hy=>h y (.tail _ hy)];rfl
def NG:∀(l C:List Row),ek (C++l)->j7 C l=C++l
 | [],C,_=>by simp[j7]
 | r::l,C,h=>by
  have h1:eW C r=C++[r]:=LS C r λx hx=>(List.pairwise_append.1 h).2.2 x hx r (.head _);show j7 (eW C r) l=_;rw[h1,NG l (C++[r]) (by simpa using h)];simp
def XU{l:List Row}(h:ek l):j7 [] l=l:=NG l [] h
def NF:∀(l:List Row) {C:List Row},ek C->ek (j7 C l)
 | [],C,h=>h
 | r::l,C,h=>NF l (C:=eW C r) (Ef h r)
def ND:∀(l:List Row) (C:List Row),(j7 C l).length<=C.length+l.length
 | [],C=>by simp[j7]
 | r::l,C=>by
  have h1:=ND l (eW C r);have h2:=Dz C r;show (j7 (eW C r) l).length<=_;rw[zzg];omega
def XV{l:List Row}{i:Nat}(h:i<l.length)(C:List Row):j7 C (l.take (i+1))=eW (j7 C (l.take i)) l[i]:=by
 unfold j7;rw[zzh h,wwz];rfl

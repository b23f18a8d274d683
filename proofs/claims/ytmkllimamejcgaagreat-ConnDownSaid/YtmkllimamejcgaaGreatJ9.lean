/- Part. -/
import Derived.Test.YtmkllimamejcgaaGreatJ8
namespace Go.Proofs.YtmkllimamejcgaaGreat
set_option linter.all false
open Go.RowKit
def tth:=@Int.le_trans
def eg(t:cF):Bool:=decide (1<=t.aw/\t.aw<=1099511627776) &&
 (if t.kind=1 then decide (t.mark=0/\t.changes.length<=16/\t.signals.length<=2) && t.changes.all (λc=>mK c 8) && t.signals.all (λs=>decide (s.size<=40))
  else decide ((t.kind=2\/t.kind=3)/\1<=t.mark/\t.mark<=1099511627776/\t.changes=[]/\t.signals=[]))
def xZ{c:ep}{k:Int}:mK c k=true↔0<=c.table/\c.table<k/\1<=c.key/\c.key<=1099511627776/\c.val.size<=32/\(c.gone=true->c.val=emp):=by unfold mK;rw[zzw]
def vU{t:cF}:eg t=true↔(1<=t.aw/\t.aw<=1099511627776) /\
  ((t.kind=1/\t.mark=0/\t.changes.length<=16/\t.signals.length<=2/\(∀c∈t.changes,mK c 8=true)/\∀s∈t.signals,s.size<=40) \/
   ((t.kind=2\/t.kind=3)/\1<=t.mark/\t.mark<=1099511627776/\t.changes=[]/\t.signals=[])):=by
 unfold eg;rw[zzu,zzw];refine and_congr_right λ_=>?_;split
 ·rename_i hk;rw[zzu,zzu,zzw,zz3,zz3];constructor
  ·rintro ⟨⟨⟨h1,h2,h3⟩,h4⟩,h5⟩;exact .inl ⟨hk,h1,h2,h3,h4,λs hs=>zzp (h5 s hs)⟩
  rintro (⟨_,h1,h2,h3,h4,h5⟩|⟨h,_⟩)
  ·exact⟨⟨⟨h1,h2,h3⟩,h4⟩,λs hs=>zzm (h5 s hs)⟩
  omega
 rename_i hk;rw[zzw];constructor
 ·exact λh=>.inr h
 rintro (⟨h,_⟩|h)
 ·exact absurd h hk
 exact h
def mj{t:cF}(h:eg t=true):(1<=t.aw/\t.aw<=1099511627776)/\(1<=t.kind/\t.kind<=3)/\(0<=t.mark/\t.mark<=1099511627776)/\t.changes.length<=16/\t.signals.length<=2/\(∀c∈t.changes,mK c 8=true)/\∀s∈t.signals,s.size<=40:=by
 obtain⟨h1,h2⟩:=vU.1 h;rcases h2 with ⟨k,m,a,b,c,d⟩|⟨k,m1,m2,a,b⟩
 ·exact⟨h1,by omega,by omega,a,b,c,d⟩
 rw[a,b];exact⟨h1,by omega,by omega,by simp,by simp,by simp,by simp⟩
def k9(t:cF):List dE:=[iF t.aw,iF t.kind,iF t.mark,iF t.changes.length]++(t.changes.map pM).flatten++([iF t.signals.length]++t.signals.map tF)
def vp(t:cF):Except Int Φ:=if eg t=true then ou (k9 t) else .error 1
def bIa(t:cF):(k9 t).length=5+t.changes.length*4+t.signals.length:=by
 unfold k9;simp only[zza,zzi,yym,zzn];rw[AP (f:=pM) (k:=4) (λ_=>rfl)];omega
def bF9{t:cF}(h:eg t=true):∀f∈k9 t,vS f:=by
 obtain⟨h1,h2,h3,h4,h5,h6,h7⟩:=mj h;intro f hf;unfold k9 at hf;simp only[zz5,zz0,wwe,zzx,xxq,vvz]at hf;rcases hf with ((rfl|rfl|rfl|rfl)|⟨l,⟨c,hc,rfl⟩,hf⟩)|rfl|⟨s,hs,rfl⟩
 ·exact lM (by omega)
 ·exact lM (by omega)
 ·exact lM (by omega)
 ·exact lM (by omega)
 ·have h8:=xZ.1 (h6 c hc);have hb:=Ey c.gone;unfold pM at hf;simp only[zz0,xxq,vvz]at hf;rcases hf with rfl|rfl|rfl|rfl
  ·exact lM (by omega)
  ·exact lM (by omega)
  ·exact lM (by omega)
  exact .inr ⟨rfl,rfl,by show c.val.size<=4096;omega⟩
 ·exact lM (by omega)
 have:=h7 s hs;exact .inr ⟨rfl,rfl,by show s.size<=4096;omega⟩
def SC{t:cF}(h:eg t=true):vp t= .ok (eV (k9 t).length 2++((k9 t).map fy).flatten)/\jD (eV (k9 t).length 2++((k9 t).map fy).flatten)= .ok (k9 t):=by
 have hl:=bIa t;obtain⟨_,_,_,h4,h5,_,_⟩:=mj h;obtain⟨e1,e2⟩:=HP (l:=k9 t) (by omega) (bF9 h);exact⟨by unfold vp;rw[zzd h,e1],e2⟩
def kT{α:Type}(one:cY->α × cY):Nat->cY->List α × cY
 | 0,r=>([],r)
 | i+1,r=>((one r).1::(kT one i (one r).2).1,(kT one i (one r).2).2)
def ri(r:cY):ep × cY:=
 let b:=dC 8 r;let c:=fz b.2;let d:=s8 c.2;let e:=pq d.2
 (⟨b.1,c.1,d.1,e.1⟩,e.2)
def VG(x:Int × Int × Int × (Int × List ep) × (Int × Ψ)):cF:=⟨x.1,x.2.1,x.2.2.2.1.2,x.2.2.2.2.2,x.2.2.1⟩
def wM{α:Type}(i:cY->Int × cY)(m:Nat->cY->List α × cY):cY->(Int × List α) × cY:=tT i λn=>m n.toNat
def lD:cY->cF × cY:=xX VG (tT fz λ_=>tT (dC 3) λ_=>tT fz λ_=>tT (wM (dC 16) (kT ri)) λ_=>wM (dC 2) (kT pq))
def AD(l:List dE):Option cF:=
 let x:=lD ⟨l,false⟩
 if x.2.bad=false/\x.2.l=[]/\eg x.1=true then some x.1 else none
def lH(b:Φ):Except Int cF:=match jD b with
 | .error e=>.error e
 | .ok l=>match AD l with
  | some t=>.ok t
  | none=>.error 3
def F5{α:Type}{one:cY->α × cY}{f:α->List dE}:∀(xs:List α) (l:List dE),(∀x∈xs,∀l,one ⟨f x++l,false⟩=(x,⟨l,false⟩))->kT one xs.length ⟨(xs.map f).flatten++l,false⟩=(xs,⟨l,false⟩)
 | [],l,_=>rfl
 | x::xs,l,h=>by
  have ih:=F5 xs l λy hy=>h y (.tail _ hy);have h1:=h x (.head _) ((xs.map f).flatten++l);rw[zzo,zz8,zzk,zzi,kT,h1,ih]
def aWj{c:ep}{l:List dE}(h:0<=c.table/\c.table<=8):ri ⟨pM c++l,false⟩=(c,⟨l,false⟩):=by
 unfold ri pM;have e2:dC 8 ⟨[iF c.table,iF c.key,iF (g_ c.gone),tF c.val]++l,false⟩=(c.table,⟨[iF c.key,iF (g_ c.gone),tF c.val]++l,false⟩):=pk h;have e3:fz ⟨[iF c.key,iF (g_ c.gone),tF c.val]++l,false⟩=(c.key,⟨[iF (g_ c.gone),tF c.val]++l,false⟩):=rfl;have e4:s8 ⟨[iF (g_ c.gone),tF c.val]++l,false⟩=(c.gone,⟨[tF c.val]++l,false⟩):=HE;have e5:pq ⟨[tF c.val]++l,false⟩=(c.val,⟨l,false⟩):=rfl;simp only[e2,e3,e4,e5]
def cDz{t:cF}(h:eg t=true):lD ⟨k9 t,false⟩=(t,⟨[],false⟩):=by
 obtain⟨h1,h2,h3,h4,h5,h6,h7⟩:=mj h;have e0:k9 t=iF t.aw::(iF t.kind::(iF t.mark::(iF t.changes.length::((t.changes.map pM).flatten++(iF t.signals.length::((t.signals.map λs=>[tF s]).flatten++[])))))):=by
  unfold k9;have:∀l:Ψ,l.map tF=(l.map λs=>[tF s]).flatten:=λl=>by induction l with
   | nil=>rfl
   | cons x l ih=>rw[zzo,zzo,zz8,ih];rfl
  rw[this];simp
 rw[e0];have e1:∀n l,fz ⟨iF n::l,false⟩=(n,⟨l,false⟩):=λn l=>rfl;have e2:∀l,dC 3 ⟨iF t.kind::l,false⟩=(t.kind,⟨l,false⟩):=λl=>pk (by omega);have e3:∀l,dC 16 ⟨iF t.changes.length::l,false⟩=((t.changes.length:Int),⟨l,false⟩):=λl=>pk (by omega);have e4:∀l,kT ri t.changes.length ⟨(t.changes.map pM).flatten++l,false⟩=(t.changes,⟨l,false⟩):=λl=>F5 t.changes l λc hc l=>aWj (by have:=xZ.1 (h6 c hc);omega);have e5:∀l,dC 2 ⟨iF t.signals.length::l,false⟩=((t.signals.length:Int),⟨l,false⟩):=λl=>pk (by omega);have e6:∀l,kT pq t.signals.length ⟨(t.signals.map λs=>[tF s]).flatten++l,false⟩=(t.signals,⟨l,false⟩):=λl=>F5 t.signals l λs hs l=>rfl;unfold lD wM xX tT VG;simp only[e1,e2,e3,e4,e5,e6,zzy]
def R_{t:cF}(h:eg t=true):∃b,vp t= .ok b/\lH b= .ok t:=by
 obtain⟨e1,e2⟩:=SC h;refine⟨_,e1,?_⟩;unfold lH;rw[e2];have e3:AD (k9 t)=some t:=by
  unfold AD;rw[cDz h];simp only;rw[zzd ⟨trivial,trivial,h⟩]
 simp only[e3]
def HS{b:Φ}{t:cF}(h:lH b= .ok t):eg t=true:=by
 unfold lH at h;split at h
 ·cases h
 split at h
 ·rename_i x hx;cases h;unfold AD at hx;simp only at hx;split at hx
  ·rename_i hc;cases hx;exact hc.2.2
  cases hx
 cases h
def nG(t:cF):Φ:=match vp t with
 | .ok b=>b
 | .error _=>[]
def RB{t:cF}(h:eg t=true):lH (nG t)= .ok t:=by
 obtain⟨b,e1,e2⟩:=R_ h;unfold nG;rw[e1];exact e2
def RC{t:cF}(h:eg t=true):vp t= .ok (nG t):=by
 obtain⟨b,e1,_⟩:=R_ h;unfold nG;rw[e1]
def HF{t:cF}(h:eg t=true):(nG t).length<=1200:=by
 obtain⟨h1,h2,h3,h4,h5,h6,h7⟩:=mj h;unfold nG;rw[(SC h).1];simp only;rw[zza,lQ];unfold k9;simp only[zzt,zzo,yy7,yyw,zz8,xx6,zza,zz1,vm];rw[Cu,xxj,xxj];have hT:∀s:Η,(fy (tF s)).length=3+s.size:=λs=>by
  show (gW 2::(eV (s.size:Nat) 2++s.data.toList)).length=_;rw[zzi,zza,lQ];have:s.data.toList.length=s.size:=rfl;omega
 have k1:=um (f:=(λx=>(x.map fy).flatten)∘pM) (k:=62) t.changes λc hc=>by
  have:=(xZ.1 (h6 c hc)).2.2.2.2.1;show (((pM c).map fy).flatten).length<=62;unfold pM;simp only[zzo,yy7,zz8,xx6,zza,yym,vm,hT];omega
 have k2:=um (f:=fy∘tF) (k:=43) t.signals λs hs=>by
  have:=h7 s hs;show (fy (tF s)).length<=43;rw[hT];omega
 omega
def sQ(r:Row):Prop:=1<=r.key/\r.key<=1099511627776/\r.val.size<=32
instance (r:Row):Decidable (sQ r):=by unfold sQ;infer_instance
structure Ca(C:List Row):Prop where
 sorted:gg C
 rows:∀r∈C,sQ r
 len:C.length<=1000
def wc:Int->List Row->Bool
 | _,[]=>true
 | k,r::C=>decide (k<r.key/\r.key<=1099511627776/\r.val.size<=32) && wc r.key C
def WB:∀{C:List Row} {k:Int},wc k C=true↔(∀r∈C,k<r.key)/\gg C/\∀r∈C,r.key<=1099511627776/\r.val.size<=32
 | [],k=>by simp[wc,gg]
 | r::C,k=>by
  unfold wc;rw[zzu,zzw,WB (C:=C) (k:=r.key)];unfold gg;rw[yyg];constructor
  ·rintro ⟨⟨h1,h2,h3⟩,h4,h5,h6⟩;refine⟨λx hx=>?_,⟨λx hx=>h4 x hx,h5⟩,λx hx=>?_⟩
   ·rcases zz0.1 hx with rfl|hx
    ·exact h1
    have:=h4 x hx;omega
   rcases zz0.1 hx with rfl|hx
   ·exact⟨h2,h3⟩
   exact h6 x hx
  rintro ⟨h1,⟨h2,h3⟩,h4⟩;exact⟨⟨h1 r (.head _),h4 r (.head _)⟩,λx hx=>h2 x hx,h3,λx hx=>h4 x (.tail _ hx)⟩
def rH(C:List Row):Bool:=wc 0 C && decide (C.length<=1000)
def Vq{C:List Row}:rH C=true↔Ca C:=by
 unfold rH;rw[zzu,zzw,WB];constructor
 ·rintro ⟨⟨h1,h2,h3⟩,h4⟩;exact⟨h2,λr hr=>⟨by have:=h1 r hr;omega,(h3 r hr).1,(h3 r hr).2⟩,h4⟩
 rintro ⟨h1,h2,h3⟩;exact⟨⟨λr hr=>by have:=(h2 r hr).1;omega,h1,λr hr=>⟨(h2 r hr).2.1,(h2 r hr).2.2⟩⟩,h3⟩
def jd(aw:Int)(ts:List (List Row)):Bool:=decide (0<=aw/\aw<=1099511627776/\1<=ts.length/\ts.length<=8) && ts.all rH
def sM{aw:Int}{ts:List (List Row)}:jd aw ts=true↔(0<=aw/\aw<=1099511627776/\1<=ts.length/\ts.length<=8)/\∀C∈ts,Ca C:=by
 unfold jd;rw[zzu,zzw,zz3];exact and_congr_right λ_=>⟨λh C hC=>Vq.1 (h C hC),λh C hC=>Vq.2 (h C hC)⟩
def th(r:Row):List dE:=[iF r.key,tF r.val]
def ow(C:List Row):List dE:=iF C.length::(C.map th).flatten
def mX(aw:Int)(ts:List (List Row)):List dE:=[iF aw,iF ts.length]++(ts.map ow).flatten
def SJ(C:List Row):(ow C).length=1+C.length*2:=by
 unfold ow;rw[zzi,AP (f:=th) (k:=2) (λ_=>rfl)];omega
def bF6{aw:Int}{ts:List (List Row)}(h:jd aw ts=true):(mX aw ts).length<=16010:=by
 obtain⟨h1,h2⟩:=sM.1 h;have k:=um (f:=ow) (k:=2001) ts λC hC=>by rw[SJ];have:=(h2 C hC).len;omega
 unfold mX;rw[zza];simp only[zzi,yym];have:ts.length*2001<=8*2001:=yyy _ h1.2.2.2;omega
def bF5{aw:Int}{ts:List (List Row)}(h:jd aw ts=true):∀f∈mX aw ts,vS f:=by
 obtain⟨h1,h2⟩:=sM.1 h;intro f hf;unfold mX at hf;simp only[zz5,zz0,wwe,zzx,xxq,vvz]at hf;rcases hf with (rfl|rfl)|⟨l,⟨C,hC,rfl⟩,hf⟩
 ·exact lM (by omega)
 ·exact lM (by omega)
 have hT:=h2 C hC;have hl:=hT.len;unfold ow at hf;simp only[zz0,wwe,zzx]at hf;rcases hf with rfl|⟨l,⟨r,hr,rfl⟩,hf⟩
 ·exact lM (by omega)
 obtain⟨k1,k2,k3⟩:=hT.rows r hr;unfold th at hf;simp only[zz0,xxq,vvz]at hf;rcases hf with rfl|rfl
 ·exact lM (by omega)
 exact .inr ⟨rfl,rfl,by show r.val.size<=4096;omega⟩
def jl(aw:Int)(ts:List (List Row)):Φ:=eV (mX aw ts).length 2++((mX aw ts).map fy).flatten
def bFj(s:Η):(fy (tF s)).length=3+s.size:=by
 show (gW 2::(eV (s.size:Nat) 2++s.data.toList)).length=_;rw[zzi,zza,lQ];have:s.data.toList.length=s.size:=rfl;omega
def Bo{aw:Int}{ts:List (List Row)}(h:jd aw ts=true):(jl aw ts).length<=360000:=by
 obtain⟨h1,h2⟩:=sM.1 h;unfold jl mX;rw[zza,lQ];simp only[zzt,zzo,yy7,yyw,zz8,xx6,zza,zz1,vm];rw[Cu,xxj];have k:=um (f:=(λx=>(x.map fy).flatten)∘ow) (k:=44009) ts λC hC=>by
  have hT:=h2 C hC;have hl:=hT.len;show (((ow C).map fy).flatten).length<=44009;unfold ow;rw[zzo,zz8,zza,vm,Cu,xxj];have k2:=um (f:=(λx=>(x.map fy).flatten)∘th) (k:=44) C λr hr=>by
   have:=(hT.rows r hr).2.2;show (((th r).map fy).flatten).length<=44;unfold th;simp only[zzo,yy7,zz8,xx6,zza,yym,vm,bFj];omega
  have:C.length*44<=1000*44:=yyy _ hl;omega
 have:ts.length*44009<=8*44009:=yyy _ h1.2.2.2;omega
def UL{aw:Int}{ts:List (List Row)}(h:jd aw ts=true):ou (mX aw ts)= .ok (jl aw ts)/\jD (jl aw ts)= .ok (mX aw ts):=
 HP (l:=mX aw ts) (by have:=bF6 h;omega) (bF5 h)
def EM(aw:Int)(ts:List (List Row)):Except Int Φ:=if jd aw ts=true then .ok (da (jl aw ts)) else .error 1
def b_b(x:Int × Η):Row:=⟨x.1,x.2⟩
def we:cY->Row × cY:=xX b_b (tT fz λ_=>pq)
def rR:cY->List Row × cY:=xX Prod.snd (wM (dC 1000) (iV we))
def VF(x:Int × (Int × List (List Row))):Int × List (List Row):=(x.1,x.2.2)
def mJ:cY->(Int × List (List Row)) × cY:=xX VF (tT fz λ_=>wM (dC 8) (kT rR))
def uO(l:List dE):Option (Int × List (List Row)):=
 let x:=mJ ⟨l,false⟩
 if x.2.bad=false/\x.2.l=[]/\jd x.1.1 x.1.2=true then some x.1 else none
def ky(b:Φ):Option (Int × List (List Row)):=match gY b with
 | .error _=>none
 | .ok (p,n)=>if n=b.length then (match jD p with
  | .error _=>none
  | .ok l=>uO l) else none
def a_2{b:Φ}{x:Int × List (List Row)}(h:ky b=some x):jd x.1 x.2=true:=by
 unfold ky at h;split at h
 ·cases h
 split at h
 ·split at h
  ·cases h
  unfold uO at h;simp only at h;split at h
  ·rename_i hc;cases h;exact hc.2.2
  cases h
 cases h
def czp{r:Row}{l:List dE}:we ⟨th r++l,false⟩=(r,⟨l,false⟩):=rfl
def cCv{C:List Row}{l:List dE}(h:C.length<=1000):rR ⟨ow C++l,false⟩=(C,⟨l,false⟩):=by
 unfold rR wM xX tT ow;rw[zzv,pk (by omega)];simp only[zzy];rw[F6 C l λr _ l=>czp]
def bXv{aw:Int}{ts:List (List Row)}(h:jd aw ts=true):mJ ⟨mX aw ts,false⟩=((aw,ts),⟨[],false⟩):=by
 obtain⟨h1,h2⟩:=sM.1 h;have e0:mX aw ts=iF aw::(iF ts.length::((ts.map ow).flatten++[])):=by unfold mX;simp
 rw[e0];have e1:∀l,fz ⟨iF aw::l,false⟩=(aw,⟨l,false⟩):=λl=>rfl;have e2:∀l,dC 8 ⟨iF ts.length::l,false⟩=((ts.length:Int),⟨l,false⟩):=λl=>pk (by omega);have e3:∀l,kT rR ts.length ⟨(ts.map ow).flatten++l,false⟩=(ts,⟨l,false⟩):=λl=>F5 ts l λC hC l=>cCv (h2 C hC).len;unfold mJ wM xX tT VF;simp only[e1,e2,e3,zzy]
def R6{b p:Φ}{n:Nat}(ht:gY b= .ok (p,n))(hn:n=b.length){l:List dE}(hd:jD p= .ok l):ky b=uO l:=by
 unfold ky;rw[ht];simp only;rw[zzd hn,hd]
def bXu{l:List dE}{x:Int × List (List Row)}(h:mJ ⟨l,false⟩=(x,⟨[],false⟩))(hm:jd x.1 x.2=true):uO l=some x:=by
 unfold uO;rw[h];simp only;rw[zzd ⟨trivial,trivial,hm⟩]
def R7{aw:Int}{ts:List (List Row)}(h:jd aw ts=true):ky (da (jl aw ts))=some (aw,ts):=by
 have hl:=Bo h;have h1:=(UL h).2;have h2:=bXv h;generalize jl aw ts=p at *
 have ht:=KU (p:=p) (r:=[]) (by omega);rw[zz1]at ht
 exact (R6 ht (kI p).symm h1).trans (bXu h2 h)
abbrev iN:=List (List Row)
def ib(ts:iN)(t:Int):List Row:=if t<0 then [] else (ts[t.toNat]?).getD []
def kr(ts:iN)(c:ep):iN:=ts.set c.table.toNat (lz (ib ts c.table) c)
def fV(ts:iN)(l:List ep):iN:=l.foldl kr ts
def ij(n:Nat)(c:ep):Bool:=decide (0<=c.table/\c.table<(n:Int))
def k_(ts:iN)(l:List ep):Bool:=l.all (ij ts.length) && (fV ts l).all λC=>decide (C.length<=1000)
def wD(ts:iN)(c:ep):(kr ts c).length=ts.length:=yyj
def ud(ts:iN):∀l:List ep,(fV ts l).length=ts.length:=λl=>by
 unfold fV;induction l generalizing ts with
 | nil=>rfl
 | cons c l ih=>rw[xxo,ih,wD]
def aIq(ts:iN)(l m:List ep):fV ts (l++m)=fV (fV ts l) m:=ww3
def Rk(ts:iN)(l:List ep)(c:ep):fV ts (l++[c])=kr (fV ts l) c:=by rw[aIq];rfl
def nY(ts:iN)(t:Nat)(h:t<ts.length):ib ts t=ts[t]:=by
 unfold ib;rw[zzb (by omega),zzy,zzc h];rfl
def DY{ts:iN}{t:Int}(h:0<=t/\t<ts.length):ib ts t∈ts:=by
 obtain⟨n,rfl⟩:∃n:Nat,t=n:=⟨t.toNat,by omega⟩;rw[nY ts n (by omega)];exact zzh _
structure nE(C:List Row):Prop where
 sorted:gg C
 rows:∀r∈C,sQ r
def nE.app{C:List Row}(h:nE C){c:ep}{k:Int}(hc:mK c k=true):nE (lz C c):=by
 have hm:=xZ.1 hc;unfold lz;split
 ·exact⟨Xe h.sorted _,λr hr=>h.rows r (Vw hr)⟩
 refine⟨KA h.sorted _,λr hr=>?_⟩;rcases Vy hr with rfl|hr
 ·exact⟨by show 1<=c.key;omega,by show c.key<=_;omega,by show c.val.size<=_;omega⟩
 exact h.rows r hr
def WD:nE []:=⟨List.Pairwise.nil,by simp⟩
def czl(C:List Row)(c:ep):(lz C c).length<=C.length+1:=by
 unfold lz;split
 ·have:=Vd C c.key;omega
 exact JM C _
def JU{ts:iN}{c:ep}{C:List Row}(h:C∈kr ts c):C∈ts\/C=lz (ib ts c.table) c:=by
 unfold kr at h;exact vv5 h
def aIc{ts:iN}(h:∀C∈ts,nE C){c:ep}{k:Int}(hc:mK c k=true)(ht:ij ts.length c=true):∀C∈kr ts c,nE C:=λC hC=>by
 rcases JU hC with hC|rfl
 ·exact h C hC
 exact (h _ (DY (zzp ht))).app hc
def Hy{k:Int}:∀{l:List ep} {ts:iN},(∀C∈ts,nE C)->(∀c∈l,mK c k=true)->(∀c∈l,ij ts.length c=true)->∀C∈fV ts l,nE C
 | [],ts,h,_,_=>h
 | c::l,ts,h,h1,h2=>by
  show ∀C∈fV (kr ts c) l,nE C;refine Hy (aIc h (h1 c (.head _)) (h2 c (.head _))) (λx hx=>h1 x (.tail _ hx)) λx hx=>?_;rw[wD];exact h2 x (.tail _ hx)
def Es(N:Nat):∀{l:List ep} {ts:iN},(∀C∈ts,C.length<=N)->(∀c∈l,ij ts.length c=true)->∀C∈fV ts l,C.length<=N+l.length
 | [],ts,h,_=>h
 | c::l,ts,h,h2=>by
  intro C hC;have hA:∀C∈kr ts c,C.length<=N+1:=λC hC=>by
   rcases JU hC with hC|rfl
   ·have:=h C hC;omega
   have h1:=czl (ib ts c.table) c;have h3:=h _ (DY (zzp (h2 c (.head _))));omega
  have:=Es (N+1) (l:=l) hA (λx hx=>by rw[wD];exact h2 x (.tail _ hx)) C hC;rw[zzi];omega
structure cN where
 g:cU
 d:DS
 ts:iN
 dX:Int
 image:Int
def iK(R:List PF)(n:Nat)(f:Int):Option (Int × iN):=match dK PF.id R f with
 | none=>none
 | some x=>match ky x.b with
  | none=>none
  | some y=>if y.2.length=n then some y else none
abbrev rV:=Int × Int × iN
def gw(R:List PF)(n:Nat)(f:Int)(x:rV):rV:=match iK R n f with
 | none=>x
 | some y=>if 0<=x.1/\y.1<=x.2.1 then x else (f,y.1,y.2)
def lu(R:List PF)(n:Nat):rV:=gw R n 1 (gw R n 0 (-1,0,List.replicate n []))
def oI(n:Nat)(image:Int):List (Φ)->Int->iN->Option iN
 | [],_,ts=>some ts
 | b::r,aw,ts=>match lH b with
  | .error _=>none
  | .ok t=>if t.aw=aw/\(∀c∈t.changes,c.table<(n:Int)) then oI n image r (aw+1) (if image<aw then fV ts t.changes else ts) else none
def kH(d:DS)(cO size:Int):DS × Except Int cN:=
 if cO<1\/8<cO then (d,.error 1)
 else match eN d 16 size with
  | (d',.error e)=>(d',.error e)
  | (d',.ok g)=>
   let x:=lu d'.R cO.toNat
   match oI cO.toNat x.2.1 (cR g.bF) (fj g.bF) x.2.2 with
   | none=>(d',.error 3)
   | some ts=>if x.2.1<=cI g.bF/\fj g.bF<=x.2.1+1 then (d',.ok ⟨g,d',ts,x.1,x.2.1⟩) else (d',.error 3)
abbrev gi:=nG
def cN.fU(k:cN)(t:cF):cN × (Int × Int):=
 if k.d.off=true then (k,(0,8))
 else if k_ k.ts t.changes=false\/1099511627776<=cI k.g.bF then (k,(0,7))
 else
  let r:=eO k.g k.d (gi {t with aw:=cI k.g.bF+1})
  if r.2.2=0 then ({k with g:=r.1.1,d:=r.1.2,ts:=fV k.ts t.changes},(cI k.g.bF+1,0)) else ({k with g:=r.1.1,d:=r.1.2},(0,r.2.2))
def cN.kx(k:cN)(sg:Ψ)(l:List ep):cN × (Int × Int):=
 if eg ⟨1,1,l,sg,0⟩=true/\(∀c∈l,c.table<(k.ts.length:Int)) then k.fU ⟨1,1,l,sg,0⟩ else (k,(0,1))
def cN.j9(k:cN)(kind mark:Int):cN × (Int × Int):=
 if (kind=2\/kind=3)/\eg ⟨1,kind,[],[],mark⟩=true then k.fU ⟨1,kind,[],[],mark⟩ else (k,(0,1))
def cN.gX(k:cN)(aw:Int):Except Int cF:=match mN k.g.bF aw with
 | none=>.error 5
 | some b=>lH b
def jv(k:cN):Int:=if k.dX=0 then 1 else 0
def ju(d:DS)(f:Int)(b:Φ):DS × Int:=
 let c:=if 0<=gn d.R f then d.cut f 0 else (d,0)
 if c.2≠0 then c else
 let a:=c.1.append f b
 if a.2≠0 then a else a.1.sync f
def cN.gR(k:cN):cN × Int:=
 let r:=ju k.d (jv k) (da (jl (cI k.g.bF) k.ts))
 if r.2=0 then ({k with d:=r.1,dX:=jv k,image:=cI k.g.bF},0) else ({k with d:=r.1},r.2)
def cN.gZ(k:cN)(aw:Int):cN × Int:=
 if aw<0\/cI k.g.bF<aw then (k,1)
 else if k.d.off=true then (k,8)
 else
  let r:=if k.image<aw then k.gR else (k,0)
  if r.2≠0 then r else
  let t:=gQ r.1.g r.1.d aw
  ({r.1 with g:=t.1.1,d:=t.1.2},t.2)
def od(C:List Row)(key:Int)(n:Int):List Row:=(C.filter λr=>decide (key<r.key)).take n.toNat
def cN.wL(k:cN)(t key n:Int):List Row:=od (ib k.ts t) key n
structure dI(lo hi:Int)(A B M:List PF):Prop where
 a:∀x∈A,x.id<lo
 m:∀x∈M,lo<=x.id/\x.id<hi
 b:∀x∈B,hi<=x.id
def dh(A B:List PF)(d:DS):DS:={d with R:=A++d.R++B}
section
variable {lo hi:Int} {A B M:List PF}
def dI.cA(h:dI lo hi A B M){f:Int}(h1:lo<=f)(h2:f<hi):fq PF.id (A++M++B) f=A.length+fq PF.id M f:=by
 have eA:A.filter (λx=>decide (PF.id x<f))=A:=yy3.2 λx hx=>zzm (by have:=h.a x hx;omega);have eB:B.filter (λx=>decide (PF.id x<f))=[]:=vvm.2 λx hx=>by have:=h.b x hx;simp;omega
 unfold fq;rw[yyv,yyv,eA,eB,zz1,zza]
def dI.at_(h:dI lo hi A B M)(c:Nat)(hc:c<=M.length):(A++M++B)[A.length+c]?=if c<M.length then M[c]? else B[0]?:=by
 rw[zzk,yyb (by omega),show A.length+c-A.length=c by omega];split
 ·rw[zzs (by omega)]
 rw[yyb (by omega),show c-M.length=0 by omega]
def dI.is(h:dI lo hi A B M){f:Int}(h1:lo<=f)(h2:f<hi):iA PF.id (A++M++B) f=iA PF.id M f:=by
 unfold iA;rw[h.cA h1 h2,h.at_ _ (ED M f)];by_cases hc:fq PF.id M f<M.length
 ·rw[zzd hc]
 rw[zzb hc,yys (l:=M) (by omega)];cases hB:B[0]? with
 | none=>rfl
 | some y=>
  have:=h.b y (yy9 hB);simp;omega
def dI.get(h:dI lo hi A B M){f:Int}(h1:lo<=f)(h2:f<hi):dK PF.id (A++M++B) f=dK PF.id M f:=by
 unfold dK;rw[h.is h1 h2];split
 ·rename_i hi;obtain⟨hl,_⟩:=tL hi;rw[h.cA h1 h2,h.at_ _ (by omega),zzd hl]
 rfl
def dI.put(h:dI lo hi A B M){x:PF}(h1:lo<=x.id)(h2:x.id<hi):fZ PF.id (A++M++B) x=A++fZ PF.id M x++B:=by
 have hc:=ED (key:=PF.id) M x.id;unfold fZ;rw[h.is h1 h2,h.cA h1 h2];have e1:(A++M++B).take (A.length+fq PF.id M x.id)=A++M.take (fq PF.id M x.id):=by
  rw[zzk,xxy,xxf hc]
 rw[e1];split
 ·rename_i hi;obtain⟨hl,_⟩:=tL hi;rw[zzk A M B,vvh,xxd,xxg (by omega)];simp only[zzk]
 rw[zzk A M B,xxd,xxg hc];simp only[zzk]
def dI.del(h:dI lo hi A B M){f:Int}(h1:lo<=f)(h2:f<hi):jE PF.id (A++M++B) f=A++jE PF.id M f++B:=by
 unfold jE;rw[h.is h1 h2];split
 ·rename_i hi;obtain⟨hl,_⟩:=tL hi;rw[h.cA h1 h2,zzk,List.eraseIdx_append_of_length_le (by omega),show A.length+fq PF.id M f-A.length=fq PF.id M f by omega,List.eraseIdx_append_of_lt_length hl,zzk]
 rfl
def dI.app(h:dI lo hi A B M){f:Int}(h1:lo<=f)(h2:f<hi)(b:Φ):kN (A++M++B) f b=A++kN M f b++B:=by
 unfold kN;rw[h.get h1 h2,h.put (x:=⟨f,_,_⟩) h1 h2]
def dI.rS(h:dI lo hi A B M){f:Int}(h1:lo<=f)(h2:f<hi)(g:PF->PF):ki (A++M++B) f g=A++ki M f g++B:=by
 unfold ki;rw[h.get h1 h2];split
 ·rw[h.put (x:={g _ with id:=f}) h1 h2]
 rfl
def dI.len(h:dI lo hi A B M){f:Int}(h1:lo<=f)(h2:f<hi):gn (A++M++B) f=gn M f:=by
 unfold gn;rw[h.get h1 h2]
def dI.K8{M':List PF}(h:dI lo hi A B M)(hm:∀x∈M',lo<=x.id/\x.id<hi):dI lo hi A B M':=⟨h.a,hm,h.b⟩
def dI.cMb(h:dI lo hi A B M){f:Int}(h1:lo<=f)(h2:f<hi)(b:Φ):dI lo hi A B (kN M f b):=h.K8 λx hx=>by
 rcases Bw hx with rfl|hx
 ·exact⟨h1,h2⟩
 exact h.m x hx
def dI.X7(h:dI lo hi A B M){f:Int}(h1:lo<=f)(h2:f<hi)(g:PF->PF):dI lo hi A B (ki M f g):=h.K8 λx hx=>by
 rcases F_ hx with hx|⟨y,_,_,rfl⟩
 ·exact h.m x hx
 exact⟨h1,h2⟩
def dI.cMf(h:dI lo hi A B M)(f:Int):dI lo hi A B (jE PF.id M f):=h.K8 λx hx=>h.m x (F' hx)
end
section
variable {lo hi:Int} {A B:List PF} {d:DS}
def UO(f:Int):may (dh A B d) f=may d f:=rfl
def JD(h:dI lo hi A B d.R){f:Int}(h1:lo<=f)(h2:f<hi):(dh A B d).find f=d.find f:=by
 unfold DS.find;rw[UO,show (dh A B d).R=A++d.R++B from rfl,h.is h1 h2]
def FW(h:dI lo hi A B d.R){f:Int}(h1:lo<=f)(h2:f<hi)(b:Φ):(dh A B d).append f b=(dh A B (d.append f b).1,(d.append f b).2)/\dI lo hi A B (d.append f b).1.R:=by
 unfold DS.append;rw[UO];split
 ·exact⟨rfl,h⟩
 rw[show (dh A B d).R=A++d.R++B from rfl,h.app h1 h2];exact⟨rfl,h.cMb h1 h2 b⟩
def JF(h:dI lo hi A B d.R){f:Int}(h1:lo<=f)(h2:f<hi):(dh A B d).sync f=(dh A B (d.sync f).1,(d.sync f).2)/\dI lo hi A B (d.sync f).1.R:=by
 unfold DS.sync;rw[JD h h1 h2];split
 ·exact⟨rfl,h⟩
 rw[show (dh A B d).cA.off=d.cA.off from rfl];split
 ·exact⟨rfl,h⟩
 rw[show (dh A B d).R=A++d.R++B from rfl,h.rS h1 h2];exact⟨rfl,h.X7 h1 h2 _⟩
def FX(h:dI lo hi A B d.R){f:Int}(h1:lo<=f)(h2:f<hi)(n:Int):(dh A B d).cut f n=(dh A B (d.cut f n).1,(d.cut f n).2)/\dI lo hi A B (d.cut f n).1.R:=by
 unfold DS.cut;rw[JD h h1 h2,show (dh A B d).R=A++d.R++B from rfl,h.len h1 h2];split
 ·exact⟨rfl,h⟩
 split
 ·exact⟨rfl,h⟩
 rw[show (dh A B d).cA.off=d.cA.off from rfl];split
 ·exact⟨rfl,h⟩
 rw[h.rS h1 h2];exact⟨rfl,h.X7 h1 h2 _⟩
def JE(h:dI lo hi A B d.R){f:Int}(h1:lo<=f)(h2:f<hi):(dh A B d).remove f=(dh A B (d.remove f).1,(d.remove f).2)/\dI lo hi A B (d.remove f).1.R:=by
 unfold DS.remove;rw[JD h h1 h2];split
 ·exact⟨rfl,h⟩
 rw[show (dh A B d).cA.off=d.cA.off from rfl];split
 ·exact⟨rfl,h⟩
 rw[show (dh A B d).R=A++d.R++B from rfl,h.del h1 h2];exact⟨rfl,h.cMf f⟩
structure nz(lo hi:Int)(g:cU):Prop where
 b0:lo<=g.base
 b1:g.base+4096<=hi
 bF:∀s∈g.bF,g.base<=s.file/\s.file<g.base+4096
 dx:∀x,g.dx=some x->g.base<=x.file/\x.file<g.base+4096
def Wi{g:cU}(h:nz lo hi g){off:Bool}{p:Φ}{x:ig}(hx:eQ g off p= .ok x):g.base<=x.file/\x.file<g.base+4096:=by
 have hf:∀f,g.base<=f->mE g f p= .ok x->g.base<=x.file/\x.file<g.base+4096:=λf hb hf=>by
  unfold mE at hf;split at hf
  ·cases hf
  cases hf;exact⟨hb,by dsimp only;omega⟩
 unfold eQ at hx;split at hx
 ·cases hx
 split at hx
 ·cases hx
 split at hx
 ·cases hx
 split at hx
 ·exact hf _ (yyf _) hx
 rename_i s hs;have hs:=h.bF s (xx1 hs);split at hx
 ·cases hx;exact hs
 exact hf _ (by omega) hx
def VD{g:cU}(hg:nz lo hi g)(h:dI lo hi A B d.R):dc g (dh A B d)=(((dc g d).1.1,dh A B (dc g d).1.2),(dc g d).2)/\dI lo hi A B (dc g d).1.2.R/\nz lo hi (dc g d).1.1:=by
 unfold dc;cases ht:g.dx with
 | none=>exact⟨rfl,h,hg⟩
 | some x=>
  have hx:=hg.dx x ht;have h1:=hg.b0;have h2:=hg.b1;simp only;split
  ·obtain⟨e,hw⟩:=JE h (f:=x.file) (by omega) (by omega);rw[e];refine⟨rfl,hw,hg.b0,hg.b1,hg.bF,λy hy=>?_⟩;simp only at hy;split at hy
   ·cases hy
   cases hy;exact hx
  obtain⟨e,hw⟩:=FX h (f:=x.file) (by omega) (by omega) x.oz;rw[e];refine⟨rfl,hw,hg.b0,hg.b1,hg.bF,λy hy=>?_⟩;simp only at hy;split at hy
  ·cases hy
  cases hy;exact hx
def cwz{L:List c_}{x:ig}{p:Φ}{P:Int->Prop}(hL:∀s∈L,P s.file)(hx:P x.file):∀s∈jH L x p,P s.file:=by
 unfold jH;have h1:∀s∈(if x.fresh=true then L++[⟨x.file,cI L+1,0,[]⟩] else L),P s.file:=by
  split
  ·intro s hs;rcases zz5.1 hs with hs|hs
   ·exact hL s hs
   rw[zz7.1 hs];exact hx
  exact hL
 intro s hs;simp only at hs;rcases zz5.1 hs with hs|hs
 ·exact h1 s (List.dropLast_subset _ hs)
 obtain⟨y,hy,rfl⟩:=zzx.1 hs;exact h1 y (xx1 (by simpa using hy))
def Ep{g:cU}(hg:nz lo hi g)(h:dI lo hi A B d.R)(p:Φ):eO g (dh A B d) p=(((eO g d p).1.1,dh A B (eO g d p).1.2),(eO g d p).2)/\dI lo hi A B (eO g d p).1.2.R/\nz lo hi (eO g d p).1.1:=by
 unfold eO;rw[show (dh A B d).off=d.off from rfl];cases hp:eQ g d.off p with
 | error e=>exact⟨rfl,h,hg⟩
 | ok x=>
  have hx:=Wi hg hp;have h1:=hg.b0;have h2:=hg.b1;obtain⟨em,hm,pU⟩:=VD hg h;simp only;rw[em];simp only;split
  ·exact⟨rfl,hm,pU⟩
  obtain⟨ea,ha⟩:=FW hm (f:=x.file) (by omega) (by omega) x.b;rw[ea];simp only;split
  ·exact⟨rfl,ha,pU⟩
  obtain⟨es,hs⟩:=JF ha (f:=x.file) (by omega) (by omega);rw[es];simp only;split
  ·exact⟨rfl,hs,pU⟩
  refine⟨rfl,hs,pU.b0,pU.b1,?_,pU.dx⟩;have uy:(dc g d).1.1.base=g.base:=(tO g d).2.1;show ∀s∈jH (dc g d).1.1.bF x p,(dc g d).1.1.base<=s.file/\s.file<(dc g d).1.1.base+4096;exact cwz (P:=λf=>(dc g d).1.1.base<=f/\f<(dc g d).1.1.base+4096) pU.bF (by rw[uy];exact hx)
def XH(n:Int):∀(L:List c_) (d:DS),(∀s∈L,lo<=s.file/\s.file<hi)->dI lo hi A B d.R->gJ L (dh A B d) n=(((gJ L d n).1.1,dh A B (gJ L d n).1.2),(gJ L d n).2)/\dI lo hi A B (gJ L d n).1.2.R
 | [],d,_,h=>⟨rfl,h⟩
 | [s],d,_,h=>⟨rfl,h⟩
 | s::t::r,d,hL,h=>by
  unfold gJ;obtain⟨e,hw⟩:=JE h (hL s (.head _)).1 (hL s (.head _)).2;split
  ·rw[e];simp only;split
   ·exact⟨rfl,hw⟩
   exact XH n (t::r) _ (λs hs=>hL s (.tail _ hs)) hw
  exact⟨rfl,h⟩
def XE{g:cU}(hg:nz lo hi g)(h:dI lo hi A B d.R)(n:Int):gQ g (dh A B d) n=(((gQ g d n).1.1,dh A B (gQ g d n).1.2),(gQ g d n).2)/\dI lo hi A B (gQ g d n).1.2.R/\nz lo hi (gQ g d n).1.1:=by
 unfold gQ;rw[show (dh A B d).off=d.off from rfl];split
 ·exact⟨rfl,h,hg⟩
 have h1:=hg.b0;have h2:=hg.b1;obtain⟨e,hw⟩:=XH n g.bF d (λs hs=>by have:=hg.bF s hs;omega) h;rw[e];exact⟨rfl,hw,hg.b0,hg.b1,λs hs=>hg.bF s ((KW n g.bF d).1 s hs),hg.dx⟩
def bXk{M:List PF}{base:Int}(h:dI base (base+4096) A B M):fN base (A++M++B)=fN base M:=by
 have eA:(A.map PF.id).filter (λf=>decide (base<=f/\f<base+4096))=[]:=vvm.2 λf hf=>by
  obtain⟨x,hx,rfl⟩:=zzx.1 hf;have:=h.a x hx;simp;omega
 have eB:(B.map PF.id).filter (λf=>decide (base<=f/\f<base+4096))=[]:=vvm.2 λf hf=>by
  obtain⟨x,hx,rfl⟩:=zzx.1 hf;have:=h.b x hx;simp;omega
 unfold fN;rw[zzt,zzt,yyv,yyv,eA,eB,zzr,zz1]
def bY7{M:List PF}{L:List c_}{f:Int}{last:Bool}(h:dI lo hi A B M)(h1:lo<=f)(h2:f<hi):jb L (A++M++B) f last=jb L M f last:=by
 unfold jb;rw[h.get h1 h2]
def Vj{M:List PF}(h:dI lo hi A B M):∀(ids:Ω) (prev:Option Int) (L:List c_) (wh:Bool),(∀f∈ids,lo<=f/\f<hi)->lP (A++M++B) ids prev L wh=lP M ids prev L wh
 | [],_,_,_,_=>rfl
 | f::r,prev,L,wh,hi=>by
  unfold lP;rw[bY7 h (hi f (.head _)).1 (hi f (.head _)).2];simp only;rw[Vj h r _ _ _ λf hf=>hi f (.tail _ hf)]
def UI{M:List PF}{base f:Int}(h:f∈fN base M):base<=f/\f<base+4096:=by
 unfold fN at h;exact zzp (yyz.1 h).2
def aRa{L:List c_}{base:Int}{ids:Ω}{wh:Bool}(h:dI base (base+4096) A B d.R)(hi:∀f∈ids,base<=f/\f<base+4096):iG L (dh A B d) ids wh=(dh A B (iG L d ids wh).1,(iG L d ids wh).2)/\dI base (base+4096) A B (iG L d ids wh).1.R:=by
 unfold iG;cases hl:ids.getLast? with
 | none=>exact⟨rfl,h⟩
 | some f=>
  obtain⟨h1,h2⟩:=hi f (xx1 hl);simp only;split
  ·exact JE h h1 h2
  rw[show (dh A B d).R=A++d.R++B from rfl,h.len h1 h2];split
  ·exact FX h h1 h2 _
  exact⟨rfl,h⟩
def BA{base size:Int}(h:dI base (base+4096) A B d.R):eN (dh A B d) base size=(dh A B (eN d base size).1,(eN d base size).2)/\dI base (base+4096) A B (eN d base size).1.R:=by
 unfold eN;split
 ·exact⟨rfl,h⟩
 rw[show (dh A B d).off=d.off from rfl,show (dh A B d).R=A++d.R++B from rfl,bXk h,Vj h _ _ _ _ λf hf=>UI hf];split
 ·exact⟨rfl,h⟩
 split
 ·exact⟨rfl,h⟩
 rename_i L wh _;obtain⟨e,hw⟩:=aRa (L:=L) (wh:=wh) h λf hf=>UI hf;rw[e];simp only;split
 ·exact⟨rfl,hw⟩
 exact⟨rfl,hw⟩
end
def RT(A M B:List PF)(keep:Ω):eY (A++M++B) keep=eY A keep++eY M (keep.drop A.length)++eY B (keep.drop (A.length+M.length)):=by
 have hm:∀(L:List PF) (k:Nat),(L.mapIdx λi=>iY keep (i+k))=eY L (keep.drop k):=λL k=>by
  unfold eY;congr 1
  funext i x
  unfold iY jQ;rw[wws,uu1 k i]
 conv=>lhs;unfold eY
 rw[uu3,uu3,zza,hm M A.length,hm B (A.length+M.length)];rfl
def RV(R:List PF)(keep:Ω):(eY R keep).map PF.id=R.map PF.id:=by
 unfold eY;refine xxw (by simp) λi h1 h2=>?_;rw[xx5,vv6,xx5];rfl
def DE{R:List PF}{keep:Ω}{y:PF}(h:y∈eY R keep):∃x∈R,x.id=y.id:=by
 have h1:y.id∈(eY R keep).map PF.id:=vv7 h;rw[RV]at h1
 obtain⟨x,hx,e⟩:=zzx.1 h1;exact⟨x,hx,e⟩
def dI.ed{lo hi:Int}{A B M:List PF}(h:dI lo hi A B M)(keep k2 k3:Ω):dI lo hi (eY A keep) (eY B k3) (eY M k2):=
 ⟨λx hx=>by obtain⟨y,hy,e⟩:=DE hx;rw[<- e];exact h.a y hy,λx hx=>by obtain⟨y,hy,e⟩:=DE hx;rw[<- e];exact h.m y hy,λx hx=>by obtain⟨y,hy,e⟩:=DE hx;rw[<- e];exact h.b y hy⟩
def fB(n:Nat)(l:List cF):iN:=(List.range n).map λt:Nat=>w_ (t:Int) l
def p9(n:Nat)(l:List cF):(fB n l).length=n:=by unfold fB;simp
def Xx{n:Nat}(l:List cF)(t:Nat)(h:t<n):ib (fB n l) t=w_ (t:Int) l:=by
 rw[nY _ t (by rw[p9];exact h)];unfold fB;simp
def cCs{ts:iN}{c:ep}(h:ij ts.length c=true)(t:Nat)(ht:t<ts.length):ib (kr ts c) t=vi t (ib ts t) c:=by
 have hc:0<=c.table/\c.table<(ts.length:Int):=zzp h;rw[nY _ t (by rw[wD];exact ht)];unfold kr vi;rw[xxp];by_cases e:c.table=t
 ·rw[zzd (by omega),zzd e,e];rfl
 rw[zzb (by omega),zzb e,nY ts t ht]
def Xw:∀{l:List ep} {ts:iN},(∀c∈l,ij ts.length c=true)->∀t:Nat,t<ts.length->ib (fV ts l) t=l.foldl (vi t) (ib ts t)
 | [],ts,_,t,_=>rfl
 | c::l,ts,h,t,ht=>by
  show ib (fV (kr ts c) l) t=_;rw[Xw (λx hx=>by rw[wD];exact h x (.tail _ hx)) t (by rw[wD];exact ht),cCs (h c (.head _)) t ht];rfl
def cCx{a b:iN}(hl:a.length=b.length)(h:∀t:Nat,t<a.length->ib a t=ib b t):a=b:=
 xxw hl λt h1 h2=>by have:=h t h1;rw[nY a t h1,nY b t h2]at this;exact this
def GJ{n:Nat}{l:List cF}{t:cF}(h:∀c∈t.changes,ij n c=true):fV (fB n l) t.changes=fB n (l++[t]):=by
 have hl:=p9 n l;have h':∀c∈t.changes,ij (fB n l).length c=true:=λc hc=>by rw[hl];exact h c hc
 refine cCx (by rw[ud,p9,p9]) λi hi=>?_;rw[ud,hl]at hi
 rw[Xw h' i (by rw[hl];exact hi),Xx l i hi,Xx _ i hi];unfold w_;simp
def KR(n:Nat):fB n []=List.replicate n []:=by
 unfold fB w_;refine xxw (by simp) λi h1 h2=>by simp
structure s6(n:Nat)(all:List cF):Prop where
 may:∀t∈all,eg t=true
 aw:∀i (h:i<all.length),all[i].aw=(i:Int)+1
 ch:∀t∈all,∀c∈t.changes,ij n c=true
def RA{t:cF}(h:eg t=true):lH (gi t)= .ok t:=RB h
def WA{n:Nat}{all:List cF}(h:s6 n all)(m:Nat):∀(k j:Nat),j+k=all.length->oI n m ((all.drop j).map gi) ((j:Int)+1) (fB n (all.take (max j m)))=some (fB n (all.take (max all.length m)))
 | 0,j,hj=>by
  rw[yy6 (by omega),show j=all.length by omega];rfl
 | k+1,j,hj=>by
  have hl:j<all.length:=by omega
  have ih:=WA h m k (j+1) (by omega);have hm:=h.may _ (zzh hl);have l_:=h.ch _ (zzh hl);rw[yyq hl,zzo,oI,RA hm];simp only;rw[zzd ⟨h.aw j hl,λc hc=>(zzp (l_ c hc)).2⟩];have e:(if (m:Int)<(j:Int)+1 then fV (fB n (all.take (max j m))) all[j].changes else fB n (all.take (max j m)))=fB n (all.take (max (j+1) m)):=by
   split
   ·rw[show max j m=j by omega,show max (j+1) m=j+1 by omega,GJ l_,zze hl]
   rw[show max j m=m by omega,show max (j+1) m=m by omega]
  rw[e,show (j:Int)+1+1=((j+1:Nat):Int)+1 by omega];exact ih
def Xy{n:Nat}:∀(k:Nat) (l:List cF),l.length=k->(∀t∈l,eg t=true)->(∀t∈l,∀c∈t.changes,ij n c=true)->(∀C∈fB n l,nE C)
 | 0,l,hl,_,_=>by
  rw[zzl hl,KR];intro C hC;rw[vvj hC];exact WD
 | k+1,l,hl,h1,h2=>by
  have dQ:l≠[]:=λe=>by rw[e]at hl;cases hl
  obtain⟨l',t,rfl⟩:∃l' t,l=l'++[t]:=⟨l.dropLast,l.getLast dQ,(List.dropLast_concat_getLast dQ).symm⟩;have l_:=h2 t (by simp);rw[zza,yya]at hl
  rw[<- GJ l_];exact Hy (k:=8) (Xy k l' (by omega) (λx hx=>h1 x (by simp[hx])) λx hx=>h2 x (by simp[hx])) (λc hc=>(mj (h1 t (by simp))).2.2.2.2.2.1 c hc) λc hc=>by rw[p9];exact l_ c hc
def KS{n:Nat}{l:List cF}(h1:∀t∈l,eg t=true)(h2:∀t∈l,∀c∈t.changes,ij n c=true):∀C∈fB n l,nE C:=Xy l.length l rfl h1 h2
def XI(k:Int):∀(L:List c_) (f n:Int) (d:DS),gL f n L->d.R=L.map eD->d.off=false->0<=d.arm->0<=f->f+L.length<=16384 ->
  ∃d' i e,gJ L d k=((L.drop i,d'),e)/\(i<L.length\/i=0)/\d'.R=(L.drop i).map eD/\(i=0\/n+(cR (L.take i)).length<=k+1)/\d'.ops<=d.ops+L.length/\0<=d'.arm/\d'.arm<=d.arm /\
   ((e=0/\d'.off=false/\(d.arm=0->d'.arm=0))\/(e=8/\d'.off=true/\d.arm≠0))
 | [],f,n,d,_,hR,ho,ha,_,_=>⟨d,0,0,rfl,.inr rfl,hR,.inl rfl,by simp,ha,yyf _,.inl ⟨rfl,ho,λh=>h⟩⟩
 | [s],f,n,d,_,hR,ho,ha,_,_=>⟨d,0,0,rfl,.inr rfl,hR,.inl rfl,by simp,ha,yyf _,.inl ⟨rfl,ho,λh=>h⟩⟩
 | s::t::L,f,n,d,hc,hR,ho,ha,h0,h1=>by
  have sH:=hc.s_.sorted;obtain⟨c1,c2,c3,c4,c5,c6⟩:=hc;rw[gJ];by_cases hk:s.next-1<=k
  ·rw[zzd hk];have m_:d.find s.file=0:=by
    unfold DS.find;have hm:may d s.file=0:=by
     unfold may;rw[zzb (by simp[ho]),zzb (by simp at h1;omega)]
    rw[zzb (by simp[hm]),hR,zzd];exact (xS sH).2 ⟨eD s,by simp,rfl⟩
   by_cases AT:d.arm=1
   ·have xL:d.remove s.file=(d.cA,8):=by
     unfold DS.remove;rw[zzb (by simp[m_]),zzd (by simp[DS.cA,AT])]
    rw[xL];exact⟨d.cA,0,8,by rw[zzd (by simp)];rfl,.inr rfl,hR,.inl rfl,by simp only[DS.cA,zzi];omega,by simp[DS.cA,AT],by simp[DS.cA,AT],.inr ⟨rfl,by simp[DS.cA,AT],by omega⟩⟩
   have xL:d.remove s.file=({d.cA with R:=(t::L).map eD},0):=by
    unfold DS.remove;rw[zzb (by simp[m_]),zzb (by simp[DS.cA,AT])];have:jE PF.id d.R s.file=(t::L).map eD:=by rw[hR];exact bwe (x:=eD s) sH
    rw[this]
   rw[xL];have Tt:0<=d.cA.arm/\d.cA.arm<=d.arm:=by
    simp only[DS.cA];split<;>omega
   obtain⟨d',i,e,r1,r2,r3,r6,r7,r8,Kq,r9⟩:=XI k (t::L) (f+1) (n+s.l.length) {d.cA with R:=(t::L).map eD} c6 rfl (by simp[DS.cA,AT]) Tt.1 (by omega) (by simp at h1 ⊢;omega);refine⟨d',i+1,e,by rw[zzb (by simp)];exact r1,?_,r3,.inr ?_,?_,r8,tth Kq Tt.2,?_⟩
   ·rcases r2 with r2|r2
    ·exact .inl (by simp at r2 ⊢;omega)
    exact .inl (by simp;omega)
   ·rw[xxx,pJ,zza];rcases r6 with r6|r6
    ·subst r6;simp only[c_.next,c2]at hk;simp[cR];omega
    omega
   ·simp only[DS.cA,zzi]at r7 ⊢;omega
   have hz:({d.cA with R:=(t::L).map eD}:DS).arm=d.cA.arm:=rfl;rcases r9 with ⟨e1,e2,e3⟩|⟨e1,e2,e3⟩
   ·exact .inl ⟨e1,e2,λh=>e3 (by rw[hz];simp[DS.cA,h])⟩
   exact .inr ⟨e1,e2,λh=>e3 (by rw[hz];simp[DS.cA,h])⟩
  rw[zzb hk];exact⟨d,0,0,rfl,.inr rfl,hR,.inl rfl,by omega,ha,yyf _,.inl ⟨rfl,ho,λh=>h⟩⟩
structure Laid(g:cU)(d:DS)(f n:Int)(es:List Φ):Prop where
 chain:gL f n g.bF
 gy:cR g.bF=es
 files:d.R=g.bF.map eD
 nil:g.bF=[]->f=g.base/\n=1
 base:g.base<=f
 b0:0<=g.base
 b1:g.base<=12288
 s0:64<=g.size
 s1:g.size<=65536
 n1:1<=n
 fi:f+es.length+2<=g.base+4096
 dx:g.dx=none
def gA.laid{g:cU}{d:DS}{f n:Int}{es:List Φ}(h:gA g d f n es):Laid g d f n es:=⟨h.chain,h.gy,h.files,h.nil,h.base,h.b0,h.b1,h.s0,h.s1,h.n1,h.fi,h.dx⟩
def Laid.inv{g:cU}{d:DS}{f n:Int}{es:List Φ}(h:Laid g d f n es)(ho:d.off=false):gA g d f n es:=⟨h.chain,h.gy,h.files,h.nil,h.base,h.b0,h.b1,h.s0,h.s1,h.n1,h.fi,ho,h.dx⟩
def Laid.sW{g:cU}{d d':DS}{f n:Int}{es:List Φ}(h:Laid g d f n es)(hR:d'.R=d.R):Laid g d' f n es:=⟨h.chain,h.gy,hR.trans h.files,h.nil,h.base,h.b0,h.b1,h.s0,h.s1,h.n1,h.fi,h.dx⟩
def cDu{g:cU}{d:DS}{f n:Int}{es:List Φ}(h:gA g d f n es)(ha:0<=d.arm)(k:Int)(xu:f+es.length+1<=16384):
  ∃(g':cU) (d':DS) (f':Int) (i:Nat) (e:Int),gQ g d k=((g',d'),e)/\Laid g' d' f' (n+i) (es.drop i)/\i<=es.length/\(g.bF≠[]->g'.bF≠[])/\(∀s∈g'.bF,s∈g.bF)/\(i=0\/n+i<=k+1)/\d'.ops<=d.ops+g.bF.length/\g'.base=g.base/\g'.size=g.size/\f<=f'/\f'<=f+i/\0<=d'.arm/\d'.arm<=d.arm /\
   ((e=0/\d'.off=false/\(d.arm=0->d'.arm=0))\/(e=8/\d'.off=true/\d.arm≠0)):=by
 have hle:=h.chain.sK;rw[h.gy]at hle
 have hb:=h.base;have tz:=h.b0;obtain⟨d',i,e,r1,r2,r3,r6,r7,r8,Kq,r9⟩:=XI k g.bF f n d h.chain h.files h.off ha (by omega) (by omega);have Fj:=h.chain;rw[<- yyk i g.bF]at Fj
 obtain⟨k1,k2,k3⟩:=gL.app.1 Fj;have TH:cR (g.bF.take i)++cR (g.bF.drop i)=es:=by rw[<- wX,yyk,h.gy]
 have vD:(cR (g.bF.take i)).length+(cR (g.bF.drop i)).length=es.length:=by rw[<- TH,zza]
 have cz:(g.bF.take i).length=i:=by
  rw[zzg];rcases r2 with r2|r2<;>omega
 have dQ:g.bF≠[]->g.bF.drop i≠[]:=λhn e=>by
  have:=yyt List.length e;rw[zzq]at this
  simp at this;rcases r2 with r2|r2
  ·omega
  subst r2;exact hn (zzl (by omega))
 have hi:i<=(cR (g.bF.take i)).length:=by
  by_cases hd:g.bF.drop i=[]
  ·rcases r2 with r2|r2
   ·have:=yyt List.length hd;rw[zzq]at this;simp at this;omega
   omega
  have hA:=k2 hd;have gen:∀A:List c_,(∀s∈A,s.l≠[])->A.length<=(cR A).length:=by
   intro A;induction A with
   | nil=>intro _;simp
   | cons a A ih=>
    intro hA;have h0:a.l.length≠0:=λe=>hA a (.head _) (zzl e);have:=ih λs hs=>hA s (.tail _ hs);rw[pJ,zza,zzi];omega
  have:=gen _ hA;rw[cz]at this;exact this
 have bUw:es.drop (cR (g.bF.take i)).length=cR (g.bF.drop i):=by rw[<- TH,wwz]
 refine⟨{g with bF:=g.bF.drop i},d',f+(g.bF.take i).length,(cR (g.bF.take i)).length,e,?_,⟨k3,bUw.symm,r3,λe=>?_,by show g.base<=_;omega,h.b0,h.b1,h.s0,h.s1,by have:=h.n1;omega,?_,h.dx⟩,by omega,dQ,λs hs=>vvx hs,?_,r7,rfl,rfl,by omega,by rw[cz];omega,r8,Kq,r9⟩
 ·unfold gQ;rw[zzb (by simp[h.off]),r1]
 ·have:g.bF=[]:=Classical.byContradiction λhn=>dQ hn e;have h2:=h.nil this;rw[this];simp[cR,h2]
 ·have:=h.fi;have e:(es.drop (cR (g.bF.take i)).length).length=es.length-(cR (g.bF.take i)).length:=zzq;show f+((g.bF.take i).length:Int)+((es.drop (cR (g.bF.take i)).length).length:Int)+2<=g.base+4096;rw[e];omega
 rcases r6 with r6|r6
 ·subst r6;left;simp[cR]
 exact .inr r6
def Laid.open{g:cU}{d:DS}{f n:Int}{es:List Φ}(h:Laid g d f n es)(keep:Ω)(n2:n+es.length<=1099511627776){size:Int}(s0:64<=size)(s1:size<=65536):
  eN (d.ed keep) g.base size=(d.ed keep,.ok ⟨g.bF,g.base,size,none⟩)/\gA ⟨g.bF,g.base,size,none⟩ (d.ed keep) f n es:=by
 have hR:(d.ed keep).R=g.bF.map eD:=by
  show eY d.R keep=_;rw[h.files,RU]
 have hle:=h.chain.sK;rw[h.gy]at hle
 have tA:=h.fi;exact⟨Ka h.chain hR rfl h.b0 h.b1 s0 s1 h.base (by omega) h.n1 (by rw[h.gy];exact n2),h.chain,h.gy,hR,h.nil,h.base,h.b0,h.b1,s0,s1,h.n1,h.fi,rfl,rfl⟩
structure lZ(R R':List PF)(x:PF):Prop where
 sorted:fI PF.id R'
 xT:x∈R'
 other:∀y,y.id≠x.id->(y∈R'↔y∈R)
def bZ4(R:List PF)(x:PF):x∈fZ PF.id R x:=by unfold fZ;simp
def Xg{R:List PF}(hs:fI PF.id R){x y:PF}(hx:x∈R)(hy:y∈R)(e:x.id=y.id):x=y:=by
 have h1:=tm hs hx;have h2:=tm hs hy;rw[e,h2]at h1
 exact (wwc h1).symm
def lZ.put{R:List PF}(hs:fI PF.id R)(x:PF):lZ R (fZ PF.id R x) x:=by
 refine⟨Gi hs x,bZ4 R x,λy hy=>⟨λh=>?_,λh=>?_⟩⟩
 ·rcases Bw h with rfl|h
  ·exact absurd rfl hy
  exact h
 cases hi:iA PF.id R x.id with
 | false=>exact (Kn hs hi).mem_iff.2 (.tail _ h)
 | true=>
  obtain⟨hl,hk⟩:=tL hi;rw[Gh hi];obtain⟨j,hj,rfl⟩:=yyl h;have dQ:fq PF.id R x.id≠j:=λe=>by subst e;exact hy hk
  have:(R.set (fq PF.id R x.id) x)[j]'(by simpa using hj)=R[j]:=List.getElem_set_ne dQ _;rw[<- this];exact zzh _
def lZ.trans{R R1 R2:List PF}{x y:PF}(h1:lZ R R1 x)(h2:lZ R1 R2 y)(e:x.id=y.id):lZ R R2 y:=
 ⟨h2.sorted,h2.xT,λz hz=>(h2.other z hz).trans (h1.other z (by rw[e];exact hz))⟩
def lZ.mem{R R':List PF}{x y:PF}(h:lZ R R' x)(hy:y∈R'):y=x\/(y∈R/\y.id≠x.id):=by
 by_cases e:y.id=x.id
 ·exact .inl (Xg h.sorted hy h.xT e)
 exact .inr ⟨(h.other y e).1 hy,e⟩
def XN{R:List PF}{f:Int}{x:PF}(h:dK PF.id R f=some x)(g:PF->PF):ki R f g=fZ PF.id R {g x with id:=f}:=by
 unfold ki;rw[h]
def Vu{d:DS}{f:Int}(f0:0<=f)(f1:f<16384)(h:d.off=false):may d f=0:=by
 unfold may;rw[zzb (by simp[h]),zzb (by omega)]
def aWy(d:DS)(h:0<=d.arm):0<=d.cA.arm/\d.cA.arm<=d.arm/\d.cA.ops=d.ops+1:=by
 refine⟨?_,?_,rfl⟩
 ·simp only[DS.cA];split<;>omega
 simp only[DS.cA];split<;>omega
def SO{d:DS}{f:Int}(hs:fI PF.id d.R)(f0:0<=f)(f1:f<16384)(h:d.off=false){x:PF}(hx:x∈d.R)(e:x.id=f):d.find f=0:=by
 unfold DS.find;rw[Vu f0 f1 h,zzb (by decide),zzd ((xS hs).2 ⟨x,hx,e⟩)]
def bwo{d:DS}{f:Int}{b:Φ}(h:gn d.R f<0):ju d f b=if (d.append f b).2≠0 then d.append f b else (d.append f b).1.sync f:=by
 unfold ju;rw[zzb (show ¬0<=gn d.R f by omega)];simp only;rw[zzb (show ¬((0:Int)≠0) by decide)]
def bwn{d:DS}{f:Int}{b:Φ}(h:0<=gn d.R f):ju d f b=if (d.cut f 0).2≠0 then d.cut f 0 else if ((d.cut f 0).1.append f b).2≠0 then (d.cut f 0).1.append f b else ((d.cut f 0).1.append f b).1.sync f:=by
 unfold ju;rw[zzd h]
def bwm{d:DS}(hs:fI PF.id d.R){f:Int}(f0:0<=f)(f1:f<16384)(ho:d.off=false)(ha:0<=d.arm)(b:Φ):
  (∃d',ju d f b=(d',0)/\lZ d.R d'.R ⟨f,b.length,b⟩/\d'.off=false/\0<=d'.arm/\d'.arm<=d.arm/\d'.ops<=d.ops+3) \/
  (∃d',ju d f b=(d',8)/\d'.off=true/\d.arm≠0/\0<=d'.arm/\d'.arm<=d.arm/\d'.ops<=d.ops+3/\(d'.R=d.R\/∃pre,(pre=[]\/pre=b)/\lZ d.R d'.R ⟨f,0,pre⟩)):=by
 have j6:∀{d:DS},d.off=false->may d f=0:=λ{d} h=>Vu f0 f1 h;have sy:∀d:DS,0<=d.arm->0<=d.cA.arm/\d.cA.arm<=d.arm/\d.cA.ops=d.ops+1:=aWy;have gT:∀d:DS,d.cA.off=true->d.arm=1:=λd h=>by simpa [DS.cA] using h
 have jP:∀(d1:DS),fI PF.id d1.R->d1.off=false->0<=d1.arm->(dK PF.id d1.R f=none\/dK PF.id d1.R f=some ⟨f,0,[]⟩) ->
   (∃d',(if (d1.append f b).2≠0 then d1.append f b else (d1.append f b).1.sync f)=(d',0)/\lZ d1.R d'.R ⟨f,b.length,b⟩/\d'.off=false/\0<=d'.arm/\d'.arm<=d1.arm/\d'.ops<=d1.ops+2) \/
   (∃d',(if (d1.append f b).2≠0 then d1.append f b else (d1.append f b).1.sync f)=(d',8)/\d'.off=true/\d1.arm≠0/\0<=d'.arm/\d'.arm<=d1.arm/\d'.ops<=d1.ops+2/\lZ d1.R d'.R ⟨f,0,b⟩):=by
  intro d1 vQ vN l9 hg;obtain⟨c1,c2,c3⟩:=sy d1 l9;have tw:kN d1.R f b=fZ PF.id d1.R ⟨f,0,b⟩:=by
   unfold kN;rcases hg with hg|hg<;>rw[hg]<;>rfl
  have e1:d1.append f b=({d1.cA with R:=fZ PF.id d1.R ⟨f,0,b⟩},d1.cA.err):=by
   unfold DS.append;rw[zzb (by simp[j6 vN]),tw]
  have hS:=lZ.put vQ ⟨f,0,b⟩;rw[e1];cases hc:d1.cA.off with
  | true=>
   right;have:=gT d1 hc;exact⟨{d1.cA with R:=fZ PF.id d1.R ⟨f,0,b⟩},by simp[DS.err,hc],hc,by omega,c1,c2,by show d1.cA.ops<=_;omega,hS⟩
  | false=>
   have he:d1.cA.err=0:=by simp[DS.err,hc]
   rw[he,zzb (by simp)];obtain⟨k1,k2,k3⟩:=sy d1.cA c1;have sC:dK PF.id (fZ PF.id d1.R ⟨f,0,b⟩) f=some ⟨f,0,b⟩:=tm hS.sorted hS.xT;have m_:({d1.cA with R:=fZ PF.id d1.R ⟨f,0,b⟩}:DS).find f=0:=SO (d:={d1.cA with R:=fZ PF.id d1.R ⟨f,0,b⟩}) hS.sorted f0 f1 hc hS.xT rfl;have IF:({d1.cA with R:=fZ PF.id d1.R ⟨f,0,b⟩}:DS).cA={d1.cA.cA with R:=fZ PF.id d1.R ⟨f,0,b⟩}:=rfl;unfold DS.sync;rw[zzb (by rw[m_];simp),IF];cases jY:d1.cA.cA.off with
   | true=>
    right;have h1:=gT d1.cA jY;have h2:d1.arm≠0:=λe=>by rw[show d1.cA.arm=0 by simp[DS.cA,e]]at h1;cases h1
    exact⟨{d1.cA.cA with R:=fZ PF.id d1.R ⟨f,0,b⟩},by simp[jY],jY,h2,k1,tth k2 c2,by show d1.cA.cA.ops<=_;omega,hS⟩
   | false=>
    left;refine⟨{d1.cA.cA with R:=fZ PF.id (fZ PF.id d1.R ⟨f,0,b⟩) ⟨f,b.length,b⟩},by simp[jY,XN sC],?_,jY,k1,tth k2 c2,by show d1.cA.cA.ops<=_;omega⟩;exact hS.trans (lZ.put hS.sorted ⟨f,b.length,b⟩) rfl
 cases hg:dK PF.id d.R f with
 | none=>
  have hl:gn d.R f = -1:=by unfold gn;rw[hg]
  rw[bwo (by omega)];rcases jP d hs ho ha (.inl hg) with ⟨d',e,h1,h2,h3,h4,h5⟩|⟨d',e,h1,h2,h3,h4,h5,h6⟩
  ·exact .inl ⟨d',e,h1,h2,h3,h4,by omega⟩
  exact .inr ⟨d',e,h1,h2,h3,h4,by omega,.inr ⟨b,.inr rfl,h6⟩⟩
 | some x=>
  have hx:=uq hg;have hl:gn d.R f=(x.b.length:Int):=by unfold gn;rw[hg]
  obtain⟨c1,c2,c3⟩:=sy d ha;have m_:d.find f=0:=SO hs f0 f1 ho hx.1 hx.2;rw[bwn (by omega)];have CX:d.cut f 0=if d.cA.off=true then (d.cA,8) else ({d.cA with R:=ki d.R f (jj (0:Int).toNat)},0):=by
   unfold DS.cut;rw[zzb (show ¬d.find f≠0 by rw[m_];decide),zzb (show ¬((0:Int)<0\/gn d.R f<0) by omega)]
  rw[CX];cases hc:d.cA.off with
  | true=>
   right;have:=gT d hc;exact⟨d.cA,by simp,hc,by omega,c1,c2,by omega,.inl rfl⟩
  | false=>
   have hu:ki d.R f (jj (0:Int).toNat)=fZ PF.id d.R ⟨f,0,[]⟩:=by
    rw[XN hg];simp[jj]
   have hS:=lZ.put hs ⟨f,0,[]⟩;have sC:dK PF.id (fZ PF.id d.R ⟨f,0,[]⟩) f=some ⟨f,0,[]⟩:=tm hS.sorted hS.xT;rw[hu,zzb (show ¬(false=true) by decide)];generalize pa:({d.cA with R:=fZ PF.id d.R ⟨f,0,[]⟩}:DS)=d1;rw[zzb (show ¬((0:Int)≠0) by decide)];have jG:d1.R=fZ PF.id d.R ⟨f,0,[]⟩:=by rw[<- pa]
   have vN:d1.off=false:=by rw[<- pa];exact hc
   have l9:d1.arm=d.cA.arm:=by rw[<- pa]
   have nP:d1.ops=d.cA.ops:=by rw[<- pa]
   rcases jP d1 (by rw[jG];exact hS.sorted) vN (by omega) (.inr (by rw[jG];exact sC)) with ⟨d',e,h1,h2,h3,h4,h5⟩|⟨d',e,h1,h2,h3,h4,h5,h6⟩
   ·rw[jG]at h1
    exact .inl ⟨d',e,hS.trans h1 rfl,h2,h3,by omega,by omega⟩
   rw[jG]at h6
   refine .inr ⟨d',e,h1,λea=>h2 ?_,h3,by omega,by omega,.inr ⟨b,.inr rfl,hS.trans h6 rfl⟩⟩;rw[l9];simp[DS.cA,ea]
def aI9(n:Nat)(x:PF):Prop:=∀y,ky x.b=some y->y.2.length≠n
structure my(n:Nat)(all:List cF)(I:List PF)(dX:Int)(m:Nat):Prop where
 sorted:fI PF.id I
 ids:∀x∈I,x.id=0\/x.id=1
 safe:∀x∈I,x.safe=x.b.length
 none_:dX = -1->m=0
 new:dX = -1\/dX=0\/dX=1
 le:m<=all.length
 some_:dX≠-1->∃x∈I,x.id=dX/\x.b=da (jl m (fB n (all.take m)))
 other:∀x∈I,x.id≠dX->aI9 n x\/∃y,ky x.b=some y/\y.1<m/\dX≠-1
def bXq{R:List PF}(hs:fI PF.id R){n:Nat}{f:Int}:iK R n f=none\/∃x∈R,x.id=f/\∃y,ky x.b=some y/\y.2.length=n/\iK R n f=some y:=by
 unfold iK;cases hg:dK PF.id R f with
 | none=>exact .inl rfl
 | some x=>
  have hx:=uq hg;simp only;cases hd:ky x.b with
  | none=>exact .inl rfl
  | some y=>
   simp only;by_cases hl:y.2.length=n
   ·exact .inr ⟨x,hx.1,hx.2,y,hd,hl,by rw[zzd hl]⟩
   exact .inl (zzb hl)
def bXr{R:List PF}(hs:fI PF.id R){n:Nat}{x:PF}(hx:x∈R){y:Int × iN}(hd:ky x.b=some y)(hl:y.2.length=n):iK R n x.id=some y:=by
 unfold iK;rw[tm hs hx];simp only[hd];rw[zzd hl]
def my.load{n:Nat}{all:List cF}{I:List PF}{dX:Int}{m:Nat}(h:my n all I dX m)(hm:∀j,j<=all.length->jd j (fB n (all.take j))=true):lu I n=(dX,(m:Int),fB n (all.take m)):=by
 have hn:dX≠-1->iK I n dX=some ((m:Int),fB n (all.take m)):=λdQ=>by
  obtain⟨x,hx,hf,hb⟩:=h.some_ dQ;rw[<- hf];exact bXr h.sorted hx (by rw[hb];exact R7 (hm m h.le)) (p9 _ _)
 have ho:∀f,f≠dX->iK I n f=none\/∃y,iK I n f=some y/\y.1<m/\dX≠-1:=λf hf=>by
  rcases bXq h.sorted (n:=n) (f:=f) with e|⟨x,hx,Bk,y,h1,h2,h3⟩
  ·exact .inl e
  rcases h.other x hx (by rw[Bk];exact hf) with hb|⟨z,hz,h4,h5⟩
  ·exact absurd h2 (hb y h1)
  rw[h1]at hz;cases hz
  exact .inr ⟨y,h3,h4,h5⟩
 unfold lu;rcases h.new with e|e|e
 ·have T2:=h.none_ e;have o0:iK I n 0=none:=by
   rcases ho 0 (by rw[e];decide) with h1|⟨_,_,_,h1⟩
   ·exact h1
   exact absurd e h1
  have o1:iK I n 1=none:=by
   rcases ho 1 (by rw[e];decide) with h1|⟨_,_,_,h1⟩
   ·exact h1
   exact absurd e h1
  unfold gw;rw[o0,o1,e,T2];simp only[uu2,KR];rfl
 ·have hn:=hn (by rw[e];decide);rw[e]at hn
  have h0:gw I n 0 (-1,0,List.replicate n [])=(0,(m:Int),fB n (all.take m)):=by
   unfold gw;rw[hn];simp
  rw[h0,e];unfold gw;rcases ho 1 (by rw[e];decide) with h1|⟨y,h1,h2,_⟩
  ·rw[h1]
  rw[h1];simp only;rw[zzd ⟨by decide,by omega⟩]
 have hn:=hn (by rw[e];decide);rw[e]at hn
 rcases ho 0 (by rw[e];decide) with h1|⟨y,h1,h2,_⟩
 ·have h0:gw I n 0 (-1,0,List.replicate n [])=(-1,0,List.replicate n []):=by unfold gw;rw[h1]
  rw[h0,e];unfold gw;rw[hn];simp
 have h0:gw I n 0 (-1,0,List.replicate n [])=(0,y.1,y.2):=by unfold gw;rw[h1];simp
 rw[h0,e];unfold gw;rw[hn];simp only;rw[zzb (by omega)]
def my.drawn{n:Nat}{all:List cF}{I I':List PF}{dX:Int}{m:Nat}(h:my n all I dX m)(hm:∀j,j<=all.length->jd j (fB n (all.take j))=true)(de:m<all.length){f:Int}(hf:f=if dX=0 then 1 else 0){x:PF}(hx:x.id=f)(hs:x.safe=x.b.length)
  (hb:x.b=da (jl all.length (fB n all))) (hI:lZ I I' x):my n all I' f all.length:=by
 have Fq:f=0\/f=1:=by rw[hf];split<;>simp
 have Fu:f≠dX:=by
  rw[hf];rcases h.new with e|e|e<;>rw[e]<;>decide
 have dQ:f≠-1:=by omega
 refine⟨hI.sorted,λy hy=>?_,λy hy=>?_,λe=>absurd e dQ,.inr Fq,zzj _,λ_=>⟨x,hI.xT,hx,by rw[zz4];exact hb⟩,λy hy hyf=>?_⟩
 ·rcases hI.mem hy with rfl|⟨hy,_⟩
  ·omega
  exact h.ids y hy
 ·rcases hI.mem hy with rfl|⟨hy,_⟩
  ·exact hs
  exact h.safe y hy
 rcases hI.mem hy with rfl|⟨hy,_⟩
 ·exact absurd hx hyf
 by_cases e:y.id=dX
 ·have rA:dX≠-1:=λe1=>by rcases h.ids y hy with h2|h2<;>omega
  obtain⟨z,hz,Dv,Jw⟩:=h.some_ rA;have:y=z:=Xg h.sorted hy hz (by rw[e,Dv]);subst this;exact .inr ⟨_,by rw[Jw];exact R7 (hm m h.le),by show (m:Int)<_;omega,dQ⟩
 rcases h.other y hy e with o8|⟨z,h1,h2,h3⟩
 ·exact .inl o8
 exact .inr ⟨z,h1,by omega,dQ⟩
def a_1{p:Φ}(hp:p.length<=1048576){k:Nat}(hk:k<(da p).length):ky ((da p).take k)=none:=by
 rw[kI]at hk
 obtain⟨e,h,_⟩:=Xz hp (k:=k) (by omega);unfold ky;rw[h]
def RX{I:List PF}(h:∀x∈I,x.safe=x.b.length)(keep:Ω):eY I keep=I:=by
 have:=HM I [] keep h;simpa using this
def bZ2{R:List PF}{keep:Ω}{y:PF}(h:y∈eY R keep):∃i,∃x∈R,y=iY keep i x:=by
 unfold eY at h;obtain⟨i,hi,rfl⟩:=yyl h;rw[vv6];exact⟨i,_,zzh _,rfl⟩
def RW{R:List PF}{keep:Ω}{x:PF}(h:x∈R):∃i,iY keep i x∈eY R keep:=by
 obtain⟨i,hi,rfl⟩:=yyl h;refine⟨i,?_⟩;have:(eY R keep)[i]'(by unfold eY;simpa using hi)=iY keep i R[i]:=by unfold eY;rw[vv6]
 rw[<- this];exact zzh _
def RQ{keep:Ω}{i:Nat}{x:PF}(h:x.safe=x.b.length):iY keep i x=x:=by
 have h1:=Cs (keep:=keep) (i:=i) (x:=x) (by omega);have h2:=EG (keep:=keep) (i:=i) (x:=x) (by omega);have h3:=x8 (keep:=keep) (i:=i) (x:=x) (by omega);have h4:jQ keep i x=0:=by omega
 unfold iY;rw[h4,xxn,h,zz4,Nat.min_self,<- h]
def cB2{R:List PF}(h:fI PF.id R)(keep:Ω):fI PF.id (eY R keep):=by
 have h1:(R.map PF.id).Pairwise (· < ·):=ww1.2 h;rw[<- RV R keep]at h1
 exact ww1.1 h1
def my.ed{n:Nat}{all:List cF}{I I':List PF}{dX:Int}{m:Nat}(h:my n all I dX m)(hm:∀j,j<=all.length->jd j (fB n (all.take j))=true)(de:m<all.length)(keep:Ω)
  (hI:I'=I\/∃pre,(pre=[]\/pre=da (jl all.length (fB n all)))/\lZ I I' ⟨if dX=0 then 1 else 0,0,pre⟩):∃b_p m',my n all (eY I' keep) b_p m'/\m<=m':=by
 rcases hI with rfl|⟨pre,pX,hI⟩
 ·exact⟨dX,m,by rw[RX h.safe];exact h,zzj _⟩
 obtain⟨i,hi⟩:=RW (keep:=keep) hI.xT;generalize hx:iY keep i ⟨if dX=0 then 1 else 0,0,pre⟩=x at hi;have Du:x.id=if dX=0 then 1 else 0:=by rw[<- hx];rfl
 have nQ:x.b.length=0+jQ keep i ⟨if dX=0 then 1 else 0,0,pre⟩:=by rw[<- hx];exact Cs (x:=⟨_,0,pre⟩) (zz9 _)
 have oD:x.safe=0+jQ keep i ⟨if dX=0 then 1 else 0,0,pre⟩:=by rw[<- hx];exact EG (x:=⟨_,0,pre⟩) (zz9 _)
 have FP:x.safe=x.b.length:=by omega
 have Jt:x.b=pre.take (0+jQ keep i ⟨if dX=0 then 1 else 0,0,pre⟩):=by rw[<- hx];rfl
 have Be:lZ I (eY I' keep) x:=by
  refine⟨cB2 hI.sorted keep,hi,λy hy=>⟨λhc=>?_,λhc=>?_⟩⟩
  ·obtain⟨j,z,hz,e⟩:=bZ2 hc;have bXe:z.id=y.id:=by rw[e];rfl
   have UF:=(hI.other z (by rw[bXe,<- Du];exact hy)).1 hz;rw[RQ (h.safe z UF)]at e
   rw[e];exact UF
  have hyI:=(hI.other y (by rw[<- Du];exact hy)).2 hc;obtain⟨j,hj⟩:=RW (keep:=keep) hyI;rw[RQ (h.safe y hc)]at hj
  exact hj
 by_cases hw:x.b=da (jl all.length (fB n all))
 ·exact⟨_,_,h.drawn hm de rfl Du FP hw Be,by omega⟩
 have bUt:ky x.b=none:=by
  have T3:=hm all.length (zzj _);rw[zz4]at T3
  have hlen:=Bo T3;rcases pX with e|e
  ·rw[Jt,e,List.take_nil];rfl
  rw[Jt,e];refine a_1 (by omega) (Nat.lt_of_not_le λxx=>hw ?_);rw[Jt,e,zz6 xx]
 refine⟨dX,m,⟨Be.sorted,λy hy=>?_,λy hy=>?_,h.none_,h.new,h.le,λdQ=>?_,λy hy Bm=>?_⟩,zzj _⟩
 ·rcases Be.mem hy with rfl|⟨hy,_⟩
  ·rw[Du];split<;>simp
  exact h.ids y hy
 ·rcases Be.mem hy with rfl|⟨hy,_⟩
  ·exact FP
  exact h.safe y hy
 ·obtain⟨z,hz,Dv,Jw⟩:=h.some_ dQ;refine⟨z,(Be.other z ?_).2 hz,Dv,Jw⟩;rw[Dv,Du];rcases h.new with e|e|e<;>rw[e]<;>decide
 rcases Be.mem hy with rfl|⟨hy,_⟩
 ·exact .inl λy h1=>by rw[bUt]at h1;cases h1
 exact h.other y hy Bm
def Ak(n:Nat)(all:List cF):Prop:=∀j,j<=all.length->jd j (fB n (all.take j))=true
structure iM(n:Nat)(k:cN)(all:List cF)(tr:Nat)(I:List PF)(d0:DS)(f:Int)(lo m:Nat):Prop where
 pI:k.d=dh I [] d0
 cB:dI 16 4112 I [] d0.R
 log:Laid k.g d0 f ((lo:Int)+1) ((all.drop lo).map gi)
 base:k.g.base=16
 kD:my n all I k.dX m
 image:k.image=m
 tN:lo<=m
 sL:lo<=tr
 ts:k.ts=fB n all
 file:f<=16+lo
def my.mono{n:Nat}{all:List cF}{I:List PF}{dX:Int}{m:Nat}(h:my n all I dX m)(l:List cF):my n (all++l) I dX m:=
 ⟨h.sorted,h.ids,h.safe,h.none_,h.new,by have:=h.le;rw[zza];omega,λhn=>by rw[xxf h.le];exact h.some_ hn,h.other⟩
def bY9{I M:List PF}(hI:∀x∈I,x.id=0\/x.id=1)(hM:∀x∈M,16<=x.id)(n:Nat):lu (I++M++[]) n=lu I n:=by
 have hw:dI 0 16 [] M I:=⟨by simp,λx hx=>by rcases hI x hx with h|h<;>omega,hM⟩;have hg:∀f:Int,0<=f->f<16->iK (I++M++[]) n f=iK I n f:=λf h0 h1=>by
  unfold iK;have:=hw.get h0 h1;rw[zzr]at this
  rw[zz1,this]
 unfold lu gw;rw[hg 0 (by decide) (by decide),hg 1 (by decide) (by decide)]
def czf{n:Nat}{all:List cF}(h:s6 n all){lo m:Nat}(h1:lo<=m)(h2:m<=all.length):oI n m ((all.drop lo).map gi) ((lo:Int)+1) (fB n (all.take m))=some (fB n all):=by
 have:=WA h m (all.length-lo) lo (by omega);rw[show max lo m=m by omega,show max all.length m=all.length by omega,zz4]at this
 exact this
def V_{n:Nat}(n1:1<=n)(n8:n<=8){all:List cF}(ht:s6 n all)(hi:Ak n all){I:List PF}{d1 d2:DS}{g:cU}{size:Int}(ho:eN d1 16 size=(d2,.ok g))(hw:dI 16 4112 I [] d1.R){f dX:Int}{lo m tr:Nat}
  (hl:gA g d2 f ((lo:Int)+1) ((all.drop lo).map gi)) (hb:g.base=16) (lJ:my n all I dX m) (vJ:lo<=m) (de:lo<=tr) (hf:f<=16+lo) :
  kH (dh I [] d1) n size=(dh I [] d2,.ok ⟨g,dh I [] d2,fB n all,dX,m⟩)/\iM n ⟨g,dh I [] d2,fB n all,dX,m⟩ all tr I d2 f lo m:=by
 obtain⟨e,Dt⟩:=BA (base:=16) (size:=size) (A:=I) (B:=[]) (d:=d1) hw;rw[ho]at e Dt
 have vK:lu (dh I [] d2).R n=(dX,(m:Int),fB n (all.take m)):=by
  show lu (I++d2.R++[]) n=_;rw[bY9 lJ.ids λx hx=>(Dt.m x hx).1];exact lJ.load hi
 have mg:=lJ.le;have lh:=hl.head;rw[zzn,zzq]at lh
 have ry:fj g.bF=(lo:Int)+1:=by
  by_cases hs:g.bF=[]
  ·rw[hs];have:=(hl.nil hs).2;show (1:Int)=_;omega
  exact hl.chain.low hs
 refine⟨?_,⟨rfl,Dt,hl.laid,hb,lJ,rfl,vJ,de,rfl,hf⟩⟩;unfold kH;rw[zzb (by omega),e];simp only[zzy];rw[vK,hl.gy,ry];simp only;rw[czf ht vJ mg];simp only;rw[zzd ⟨by omega,by omega⟩]
def UN(I:List PF)(d0:DS)(keep:Ω):(dh I [] d0).ed keep=dh (eY I keep) [] (d0.ed (keep.drop I.length)):=by
 unfold DS.ed dh;simp only;rw[RT];rfl
structure s5(n:Nat)(d:DS)(all:List cF)(t:Option cF)(tr:Nat)(I I':List PF)(d0:DS)(g:cU)(f:Int)(lo m:Nat)(dX:Int):Prop where
 pI:d=dh I' [] d0
 cB:dI 16 4112 I' [] d0.R
 log:(Laid g d0 f ((lo:Int)+1) ((all.drop lo).map gi))\/∃q w,oN d0 f ((lo:Int)+1) ((all.drop lo).map gi) q w/\(w=true->∃x,t=some x/\q=gi x)
 base:g.base=16
 f16:16<=f
 file:f<=16+lo
 empty:(all.drop lo).map gi=[]->(f=16/\lo=0)\/∀y∈d0.R,(d_ [dP ((lo:Int)+1).toNat]).length<=y.safe
 kD:my n all I dX m
 xR:I'=I\/(m<all.length/\∃pre,(pre=[]\/pre=da (jl all.length (fB n all)))/\lZ I I' ⟨if dX=0 then 1 else 0,0,pre⟩)
 tN:lo<=m
 sL:lo<=tr
def s5.open{n:Nat}(n1:1<=n)(n8:n<=8){d:DS}{all:List cF}{t:Option cF}{tr:Nat}{I I':List PF}{d0:DS}{g:cU}{f:Int}{lo m:Nat}{dX:Int}(h:s5 n d all t tr I I' d0 g f lo m dX)(keep:Ω)
  (ht:∀l,l=[]\/(∃x,t=some x/\l=[x])->s6 n (all++l)/\Ak n (all++l)) (hlen:all.length<=1000) {size:Int} (s0:64<=size) (s1:size<=65536) :
  ∃k' oe I2 d2 f2 m2,kH (d.ed keep) n size=(k'.d,.ok k')/\iM n k' oe tr I2 d2 f2 lo m2/\k'.d.off=false/\k'.d.arm=0/\k'.d.ops<=d.ops+1/\(oe=all\/∃x,t=some x/\oe=all++[x]):=by
 obtain⟨t0,i0⟩:=ht [] (.inl rfl);rw[zz1]at t0 i0
 have lJ:∃JY m2,my n all (eY I' keep) JY m2/\m<=m2:=by
  rcases h.xR with e|⟨de,e⟩
  ·rw[e,RX h.kD.safe];exact⟨dX,m,h.kD,zzj _⟩
  exact h.kD.ed i0 de keep (.inr e)
 obtain⟨JY,m2,lJ,uF⟩:=lJ;have cOl:=h.tN;have cOs:=lJ.le;have uy:=h.base;have bU1:=h.f16;have A1:=h.file;have T0:=h.sL;have bVv:∃g2 d2 oe,eN (d0.ed (keep.drop I'.length)) 16 size=(d2,.ok g2)/\gA g2 d2 f ((lo:Int)+1) ((oe.drop lo).map gi)/\g2.base=16/\d2.arm=0/\d2.ops<=d0.ops+1/\(oe=all\/∃x,t=some x/\oe=all++[x]):=by
  rcases h.log with hl|⟨q,w,hT,hw⟩
  ·obtain⟨e,hv⟩:=hl.open (keep.drop I'.length) (by rw[zzn,zzq];omega) s0 s1;rw[uy]at e hv
   exact⟨_,_,all,e,hv,rfl,rfl,by show d0.ops<=_;omega,.inl rfl⟩
  obtain⟨g2,d2,iP,h1,h2,h3,h4,h5,h6,h7⟩:=XD hT (keep.drop I'.length) (base:=16) (size:=size) (by decide) (by decide) s0 s1 bU1 (by rw[zzn,zzq];omega) (by omega) (by rw[zzn,zzq];omega) (λe=>(h.empty e).imp (λe=>by omega) λe=>e);rcases h7 with e|⟨ew,e⟩
  ·exact⟨g2,d2,all,h1,by rw[<- e];exact h2,h5,h3,h4,.inl rfl⟩
  obtain⟨x,hx,rfl⟩:=hw ew;refine⟨g2,d2,all++[x],h1,?_,h5,h3,h4,.inr ⟨x,hx,rfl⟩⟩;rw[xxg (by omega),zzt,wwd,<- e];exact h2
 obtain⟨g2,d2,oe,e1,e2,e3,e4,e5,e6⟩:=bVv;have Jn:s6 n oe/\Ak n oe/\my n oe (eY I' keep) JY m2:=by
  rcases e6 with rfl|⟨x,hx,rfl⟩
  ·exact⟨t0,i0,lJ⟩
  obtain⟨a,b⟩:=ht [x] (.inr ⟨x,hx,rfl⟩);exact⟨a,b,lJ.mono [x]⟩
 have rG:dI 16 4112 (eY I' keep) [] (d0.ed (keep.drop I'.length)).R:=h.cB.ed keep _ [];obtain⟨o1,o2⟩:=V_ n1 n8 Jn.1 Jn.2.1 e1 rG e2 e3 Jn.2.2 (by omega) T0 A1;rw[<- UN]at o1
 rw[h.pI];exact⟨_,oe,_,_,_,_,o1,o2,e2.off,e4,e5,e6⟩
def Laid.EY{g:cU}{d:DS}{f n:Int}{es:List Φ}(h:Laid g d f n es)(hb:g.base=16):nz 16 4112 g:=by
 have hle:=h.chain.sK;rw[h.gy]at hle
 have tA:=h.fi;have hba:=h.base;refine⟨by omega,by omega,λs hs=>?_,λx hx=>by rw[h.dx]at hx;cases hx⟩;have:=h.chain.s_.mem (x:=eD s) (vv7 hs);rw[zzn]at this
 have h1:(eD s).id=s.file:=rfl;omega
def SB{t:cF}(h:eg t=true):(gi t).length<=2000:=yy2 (HF h) (by decide)
def iM.head{n:Nat}{k:cN}{all:List cF}{tr:Nat}{I:List PF}{d0:DS}{f:Int}{lo m:Nat}(h:iM n k all tr I d0 f lo m)(ho:k.d.off=false):cI k.g.bF=all.length:=by
 have hl:=h.log.inv (by have:=h.pI;rw[this]at ho;exact ho);have hm:=h.kD.le;have:=h.tN;rw[hl.head,zzn,zzq];omega
def gA.AG{g:cU}{d:DS}{f n:Int}{es:List Φ}(h:Laid g d f n es)(e:es=[]):(f=g.base/\n=1)\/(g.bF≠[]/\∀y∈d.R,(d_ [dP n.toNat]).length<=y.safe):=by
 cases hg:g.bF with
 | nil=>exact .inl (h.nil hg)
 | cons s L=>
  refine .inr ⟨by simp,λy hy=>?_⟩;have hc:=h.chain;have h1:=h.gy;rw[e,hg,pJ]at h1
  obtain⟨h2,h3⟩:=vvq.1 h1;rw[hg]at hc
  obtain⟨_,c2,c3,_,c5,_⟩:=hc;have hL:L=[]:=by
   cases L with
   | nil=>rfl
   | cons t r=>exact absurd h2 (c5 (by simp))
  rw[h.files,hg,hL]at hy
  have hy:y=eD s:=by simpa using hy
  rw[hy];show _<=(d_ (dP s.first.toNat::s.l)).length;rw[c2,h2];exact zzj _
def iM.AG{n:Nat}{k:cN}{all:List cF}{tr:Nat}{I:List PF}{d0:DS}{f:Int}{lo m:Nat}(h:iM n k all tr I d0 f lo m):(all.drop lo).map gi=[]->(f=16/\lo=0)\/∀y∈d0.R,(d_ [dP ((lo:Int)+1).toNat]).length<=y.safe:=λe=>by
 have hb:=h.base;rcases gA.AG h.log e with h1|⟨_,h1⟩
 ·exact .inl (by omega)
 exact .inr h1
def iM.dead{n:Nat}{k:cN}{all:List cF}{tr:Nat}{I:List PF}{d0:DS}{f:Int}{lo m:Nat}(h:iM n k all tr I d0 f lo m)(he:(all.drop lo).map gi=[]->(f=16/\lo=0)\/∀y∈d0.R,(d_ [dP ((lo:Int)+1).toNat]).length<=y.safe)(t:Option cF):s5 n k.d all t tr I I d0 k.g f lo m k.dX:=
 ⟨h.pI,h.cB,.inl h.log,h.base,by have:=h.log.base;have:=h.base;omega,h.file,he,h.kD,.inl rfl,h.tN,h.sL⟩
def bXw(I:List PF)(d0:DS):dh I [] d0=dh [] d0.R {d0 with R:=I}:=by
 unfold dh;simp
def Sr{lo hi:Int}{A B:List PF}{d:DS}(h:dI lo hi A B d.R){f:Int}(h1:lo<=f)(h2:f<hi)(b:Φ):ju (dh A B d) f b=(dh A B (ju d f b).1,(ju d f b).2):=by
 unfold ju;rw[show gn (dh A B d).R f=gn d.R f from h.len h1 h2];have hc:(if 0<=gn d.R f then (dh A B d).cut f 0 else (dh A B d,0))=(dh A B (if 0<=gn d.R f then d.cut f 0 else (d,0)).1,(if 0<=gn d.R f then d.cut f 0 else (d,0)).2)/\dI lo hi A B (if 0<=gn d.R f then d.cut f 0 else (d,0)).1.R:=by
  split
  ·exact FX h h1 h2 0
  exact⟨rfl,h⟩
 generalize (if 0<=gn d.R f then d.cut f 0 else (d,0))=c at *
 rw[hc.1];simp only;split
 ·rfl
 obtain⟨ea,ha⟩:=FW hc.2 h1 h2 b;rw[ea];simp only;split
 ·rfl
 exact (JF ha h1 h2).1
def iM.trim{n:Nat}{k:cN}{all:List cF}{tr:Nat}{I:List PF}{d0:DS}{f:Int}{lo m:Nat}(h:iM n k all tr I d0 f lo m)(ho:k.d.off=false)(ha:0<=k.d.arm)(hlen:all.length<=1000)(hi:Ak n all){aw:Nat}(kB:aw<=all.length):
  (∃k' I' d1 f' kR m',k.gZ aw=(k',0)/\aw<=m'/\iM n k' all (max tr aw) I' d1 f' kR m'/\k'.d.off=false/\0<=k'.d.arm/\k'.d.arm<=k.d.arm/\k'.d.ops<=k.d.ops+(all.length+5)/\k'.g.size=k.g.size) \/
  (∃k' e I1 I' d1 g1 f' kR m' nw,k.gZ aw=(k',e)/\e≠0/\k'.d.off=true/\k.d.arm≠0/\k'.d.ops<=k.d.ops+(all.length+5)/\s5 n k'.d all none (max tr aw) I1 I' d1 g1 f' kR m' nw):=by
 have lh:=h.head ho;have vJ:=h.tN;have mg:=h.kD.le;have hle:=h.log.chain.sK;rw[h.log.gy,zzn,zzq]at hle
 have nc:∀{k:cN} {I:List PF} {d0:DS} {m:Nat},iM n k all tr I d0 f lo m->k.d.off=false->0<=k.d.arm->k.g.bF.length<=(all.length+1)->aw<=m ->
   (∃k' d1 f' kR,(({k with g:=(gQ k.g k.d aw).1.1,d:=(gQ k.g k.d aw).1.2}:cN),(gQ k.g k.d aw).2)=(k',0)/\iM n k' all (max tr aw) I d1 f' kR m/\k'.d.off=false/\0<=k'.d.arm/\k'.d.arm<=k.d.arm/\k'.d.ops<=k.d.ops+(all.length+1)/\k'.g.size=k.g.size) \/
   (∃k' e d1 g1 f' kR,(({k with g:=(gQ k.g k.d aw).1.1,d:=(gQ k.g k.d aw).1.2}:cN),(gQ k.g k.d aw).2)=(k',e)/\e≠0/\k'.d.off=true/\k.d.arm≠0/\k'.d.ops<=k.d.ops+(all.length+1)/\s5 n k'.d all none (max tr aw) I I d1 g1 f' kR m k.dX):=by
  intro k I d0 m h ho ha Dp hm;have hd:=h.pI;have gT:d0.off=false:=by rw[hd]at ho;exact ho
  have o7:0<=d0.arm:=by rw[hd]at ha;exact ha
  have hl:=h.log.inv gT;have hb:=h.base;have tA:=h.log.fi;have T0:=h.sL;have A1:=h.file;have cOr:=h.kD.le;obtain⟨ew,hw,vE⟩:=XE (A:=I) (B:=[]) (d:=d0) (h.log.EY hb) h.cB (aw:Int);obtain⟨g',d',f',i,e,et,TV,cz,dQ,rD,A5,dV,uy,Up,A0,xu,l9,xk,Dl⟩:=cDu hl o7 (aw:Int) (by omega);rw[et]at ew hw vE
  rw[hd,ew];simp only at hw ⊢;have IQ:((all.drop lo).map gi).drop i=(all.drop (lo+i)).map gi:=by rw[ttd,ttd,vvb,<- ttd]
  rw[IQ,show (lo:Int)+1+(i:Int)=((lo+i:Nat):Int)+1 by omega]at TV
  rw[zzn,zzq]at cz
  have hL:iM n {k with g:=g',d:=dh I [] d'} all (max tr aw) I d' f' (lo+i) m:=⟨rfl,hw,TV,uy.trans hb,h.kD,h.image,by have:=h.tN;omega,by omega,h.ts,by omega⟩;rcases Dl with ⟨rfl,Jc,_⟩|⟨rfl,Jc,tu⟩
  ·left;exact⟨_,d',f',lo+i,rfl,hL,Jc,l9,xk,by show d'.ops<=d0.ops+(all.length+1);omega,Up⟩
  right;exact⟨_,8,d',g',f',lo+i,rfl,by decide,Jc,tu,by show d'.ops<=d0.ops+(all.length+1);omega,hL.dead hL.AG none⟩
 have ht:k.gZ aw=(let r:=if k.image<aw then k.gR else (k,0);if r.2≠0 then r else let t:=gQ r.1.g r.1.d aw;({r.1 with g:=t.1.1,d:=t.1.2},t.2)):=by
  unfold cN.gZ;rw[zzb (by rw[lh];omega),zzb (by simp[ho])]
 rw[ht];by_cases lJ:k.image<aw
 ·rw[zzd lJ];have T4:m<all.length:=by have:=h.image;omega
  have hd:=h.pI;have gT:d0.off=false:=by rw[hd]at ho;exact ho
  have o7:0<=d0.arm:=by rw[hd]at ha;exact ha
  have Fq:jv k=0\/jv k=1:=by unfold jv;split<;>simp
  have hwI:dI 0 16 [] d0.R I:=⟨by simp,λx hx=>by rcases h.kD.ids x hx with e|e<;>omega,λx hx=>(h.cB.m x hx).1⟩;have hdw:ju k.d (jv k) (da (jl (cI k.g.bF) k.ts))=(dh [] d0.R (ju {d0 with R:=I} (jv k) (da (jl all.length (fB n all)))).1,(ju {d0 with R:=I} (jv k) (da (jl all.length (fB n all)))).2):=by
   rw[hd,bXw,lh,h.ts];exact Sr (d:={d0 with R:=I}) hwI (by omega) (by omega) _
  have mY:∀d':DS,dh [] d0.R d'=dh d'.R [] {d' with R:=d0.R}:=λd'=>by unfold dh;simp
  unfold cN.gR;rw[hdw];rcases bwm (d:={d0 with R:=I}) h.kD.sorted (f:=jv k) (by omega) (by omega) gT o7 (da (jl all.length (fB n all))) with ⟨d',e,hS,o1,a1,a2,p1⟩|⟨d',e,o1,a0,a1,a2,p1,hR⟩
  ·rw[e];simp only;rw[zzd trivial];simp only;rw[zzb (by simp)];have hid:∀x∈d'.R,x.id=0\/x.id=1:=λx hx=>by
    rcases hS.mem hx with rfl|⟨hx,_⟩
    ·exact Fq
    exact h.kD.ids x hx
   have Fo:my n all d'.R (jv k) all.length:=h.kD.drawn hi T4 (f:=jv k) rfl (x:=⟨jv k,_,_⟩) rfl rfl rfl hS;have hL:iM n {k with d:=dh [] d0.R d',dX:=jv k,image:=cI k.g.bF} all tr d'.R {d' with R:=d0.R} f lo all.length:=
    ⟨mY d',⟨λx hx=>by rcases hid x hx with e|e<;>omega,h.cB.m,by simp⟩,h.log.sW rfl,h.base,Fo,lh,by omega,h.sL,h.ts,h.file⟩
   rcases nc hL o1 a1 (by show k.g.bF.length<=(all.length+1);omega) kB with ⟨k',d1,f',kR,r1,r2,r3,r4,ra,r5,r6⟩|⟨k',e',d1,g1,f',kR,r1,r2,r3,ra,r5,r6⟩
   ·left;have r5:k'.d.ops<=d'.ops+(all.length+1):=r5;have ra:k'.d.arm<=d'.arm:=ra;exact⟨k',_,d1,f',kR,_,r1,kB,r2,r3,r4,by rw[hd];exact tth ra a2,by rw[hd];show k'.d.ops<=d0.ops+(all.length+5);have p1:d'.ops<=d0.ops+3:=p1;omega,r6⟩
   right;have r5:k'.d.ops<=d'.ops+(all.length+1):=r5;have ra:d'.arm≠0:=ra;have a2:d'.arm<=d0.arm:=a2;exact⟨k',e',_,_,d1,g1,f',kR,_,_,r1,r2,r3,by rw[hd];show d0.arm≠0;omega,by rw[hd];show k'.d.ops<=d0.ops+(all.length+5);have p1:d'.ops<=d0.ops+3:=p1;omega,r6⟩
  rw[e];simp only;rw[zzb (show ¬((8:Int)=0) by decide)];simp only;rw[zzd (show (8:Int)≠0 by decide)];right;have hid:∀x∈d'.R,x.id=0\/x.id=1:=λx hx=>by
   rcases hR with hR|⟨pre,_,hS⟩
   ·rw[hR]at hx;exact h.kD.ids x hx
   rcases hS.mem hx with rfl|⟨hx,_⟩
   ·exact Fq
   exact h.kD.ids x hx
  refine⟨_,8,I,d'.R,{d' with R:=d0.R},k.g,f,lo,m,k.dX,rfl,by decide,o1,by rw[hd];exact a0,by rw[hd];show d'.ops<=d0.ops+(all.length+5);have p1:d'.ops<=d0.ops+3:=p1;omega,mY d',⟨λx hx=>by rcases hid x hx with e|e<;>omega,h.cB.m,by simp⟩,.inl (h.log.sW rfl),h.base,by have:=h.log.base;have:=h.base;omega,h.file,h.AG,h.kD,?_,vJ,by have:=h.sL;omega⟩;rcases hR with hR|⟨pre,hp,hS⟩
  ·exact .inl hR
  exact .inr ⟨T4,pre,hp,hS⟩
 rw[zzb lJ];simp only;rw[zzb (by simp)];rcases nc h ho ha (by omega) (by have:=h.image;omega) with ⟨k',d1,f',kR,r1,r2,r3,r4,ra,r5,r6⟩|⟨k',e',d1,g1,f',kR,r1,r2,r3,ra,r5,r6⟩
 ·exact .inl ⟨k',_,d1,f',kR,_,r1,by have:=h.image;omega,r2,r3,r4,ra,by omega,r6⟩
 exact .inr ⟨k',e',_,_,d1,g1,f',kR,_,_,r1,r2,r3,ra,by omega,r6⟩
set_option maxRecDepth 100000
def UR:∀(C:List Row) (c:Row) (i:Nat),i<=C.length->(∀j (h:j<C.length),j<i->C[j].key<c.key)->(∀h:i<C.length,c.key<=C[i].key) ->
  gV C c=C.take i++[c]++C.drop (if ∃h:i<C.length,C[i].key=c.key then i+1 else i)
 | [],c,i,hi,_,_=>by
  have:i=0:=by simpa using hi
  subst this;simp[gV]
 | x::C,c,0,_,_,h2=>by
  have hx:=h2 (by simp);simp only[vvn]at hx;have:¬x.key<c.key:=by omega
  by_cases he:x.key=c.key
  ·simp[gV,he]
  simp[gV,this,he]
 | x::C,c,i+1,hi,h1,h2=>by
  have hx:x.key<c.key:=h1 0 (by simp) (by omega);have ih:=UR C c i (by simpa using hi) (λj h hj=>by have:=h1 (j+1) (by simpa using h) (by omega);simpa using this) (λh=>by have:=h2 (by simpa using h);simpa using this);simp only[gV,hx,wwj,ih,zzi,vvp,Nat.add_lt_add_iff_right];split<;>simp
def Sb:∀(C:List Row) (k:Int) (i:Nat) (h:i<C.length),(∀j (h:j<C.length),j<i->C[j].key≠k)->C[i].key=k->jW C k=C.take i++C.drop (i+1)
 | x::C,k,0,_,_,h2=>by simp at h2;simp[jW,h2]
 | x::C,k,i+1,h,h1,h2=>by
  have hx:x.key≠k:=h1 0 (by simp) (by omega);have ih:=Sb C k i (by simpa using h) (λj h hj=>by have:=h1 (j+1) (by simpa using h) (by omega);simpa using this) (by simpa using h2);simp[jW,hx,ih]
def Sc:∀(C:List Row) (k:Int),(∀j (h:j<C.length),C[j].key≠k)->jW C k=C
 | [],k,_=>rfl
 | x::C,k,h=>by
  have hx:x.key≠k:=h 0 (by simp);simp[jW,hx,Sc C k (λj hj=>by have:=h (j+1) (by simpa using hj);simpa using this)]
def nD(H:bw)(vs:Ξ)(ts:List (List Row)):Prop:=vs.length=ts.length/\∀(i:Nat) (v:Ε) (C:List Row),vs[i]?=some v->ts[i]?=some C->dq H 2 v C.length (C.map eh).flatten
def nD.mono{H H':bw}{vs:Ξ}{ts:List (List Row)}(hh:H.le H')(h:nD H vs ts):nD H' vs ts:=⟨h.1,λi v C h1 h2=>(h.2 i v C h1 h2).mono hh⟩
structure AtR(C:List Row)(key:Int)(i:Nat):Prop where
 le:i<=C.length
 lo:∀j (h:j<C.length),j<i->C[j].key<key
 hi:∀h:i<C.length,key<=C[i].key
def lN(C:List Row)(key:Int)(i:Nat):Bool:=decide (∃h:i<C.length,C[i].key=key)
def AtR.gt{C:List Row}{key:Int}{i:Nat}(h:AtR C key i)(hs:gg C):∀j (hj:j<C.length),i<j->key<C[j].key:=λj hj sD=>by
 have h1:=h.hi (by omega);have:=xxr.1 hs i j (by omega) hj sD;omega
def AtR.up{C:List Row}{key:Int}{i:Nat}(h:AtR C key i)(hs:gg C)(hn:lN C key i=false):∀j (hj:j<C.length),i<=j->key<C[j].key:=λj hj sD=>by
 rcases xx4 i j with h1|h1
 ·exact h.gt hs j hj h1
 obtain rfl:j=i:=by omega
 have h1:=h.hi hj;have h2:¬C[j].key=key:=λe=>yy0 hn ⟨hj,e⟩;omega
def AtR.ins{C:List Row}{key:Int}{i:Nat}(h:AtR C key i)(v:Η):gV C ⟨key,v⟩=if lN C key i=true then C.set i ⟨key,v⟩ else C.take i++[⟨key,v⟩]++C.drop i:=by
 rw[UR C ⟨key,v⟩ i h.le h.lo h.hi];by_cases hk:∃h:i<C.length,C[i].key=key
 ·rw[zzd hk,zzd (show lN C key i=true from zzm hk)];rw[xxh,zzd hk.1];simp
 rw[zzb hk,zzb (by simpa [lN] using hk)]
def AtR.del{C:List Row}{key:Int}{i:Nat}(h:AtR C key i)(hs:gg C):jW C key=if lN C key i=true then C.take i++C.drop (i+1) else C:=by
 cases hk:lN C key i with
 | true=>
  obtain⟨hi,e⟩:=zzp hk;rw[zzd rfl];exact Sb C key i hi (λj hj i_=>by have:=h.lo j hj i_;omega) e
 | false=>
  rw[zzb (by decide)];refine Sc C key λj hj=>?_;rcases xx4 j i with h1|h1
  ·have:=h.lo j hj h1;omega
  have:=h.up hs hk j hj h1;omega
def AtR.get{C:List Row}{key:Int}{i:Nat}(h:AtR C key i)(hs:gg C):(eZ C key).isSome=lN C key i/\∀hi:i<C.length,C[i].key=key->eZ C key=some C[i].val:=by
 have h2:∀hi:i<C.length,C[i].key=key->eZ C key=some C[i].val:=λhi e=>by
  unfold eZ;have:C.find? (λc=>decide (c.key=key))=some C[i]:=by
   rw[List.find?_eq_some_iff_getElem];refine⟨by simpa using e,i,hi,rfl,λj hj=>?_⟩;have:=h.lo j (by omega) hj;simp;omega
  rw[this];rfl
 refine⟨?_,h2⟩;cases hk:lN C key i with
 | true=>
  obtain⟨hi,e⟩:=zzp hk;rw[h2 hi e];rfl
 | false=>
  unfold eZ;have:C.find? (λc=>decide (c.key=key))=none:=by
   rw[uu5];intro x hx;obtain⟨j,hj,rfl⟩:=yyl hx;rcases xx4 j i with h1|h1
   ·have:=h.lo j hj h1;simp;omega
   have:=h.up hs hk j hj h1;simp;omega
  rw[this];rfl
def Ic:∀(C:List Row) (key:Int) (k:Nat),(∀j (h:j<C.length),j<k->C[j].key<=key)->(∀j (h:j<C.length),k<=j->key<C[j].key)->C.filter (λr=>decide (key<r.key))=C.drop k
 | [],key,k,_,_=>by simp
 | x::C,key,0,_,h2=>by
  rw[List.drop_zero,yy3];intro y hy;obtain⟨j,hj,rfl⟩:=yyl hy;exact zzm (h2 j hj (zz9 _))
 | x::C,key,k+1,h1,h2=>by
  have hx:x.key<=key:=h1 0 (by simp) (by omega);rw[xx3,zzb (by simp;omega),uuz];exact Ic C key k (λj h hj=>by have:=h1 (j+1) (by simpa using h) (by omega);simpa using this) (λj h hj=>by have:=h2 (j+1) (by simpa using h) (by omega);simpa using this)
def AtR.after{C:List Row}{key:Int}{i:Nat}(h:AtR C key i)(hs:gg C)(n:Int):od C key n=(C.drop (if lN C key i=true then i+1 else i)).take n.toNat:=by
 unfold od;cases hk:lN C key i with
 | true=>
  obtain⟨hi,e⟩:=zzp hk;rw[zzd rfl,Ic C key (i+1) (λj hj i_=>?_) (λj hj i_=>h.gt hs j hj (by omega))];rcases xx4 j i with h1|h1
  ·have:=h.lo j hj h1;omega
  obtain rfl:j=i:=by omega
  omega
 | false=>
  rw[zzb (by decide),Ic C key i (λj hj i_=>by have:=h.lo j hj i_;omega) (λj hj i_=>h.up hs hk j hj i_)]
def nW(C:List Row)(l:List Row):List Row:=l.foldl gV C
def US:∀(C:List Row) (r:Row),(∀x∈C,x.key<r.key)->gV C r=C++[r]
 | [],r,_=>rfl
 | x::C,r,h=>by
  unfold gV;rw[zzd (h x (.head _)),US C r λy hy=>h y (.tail _ hy)];rfl
def Wq:∀(l C:List Row),gg (C++l)->nW C l=C++l
 | [],C,_=>by simp[nW]
 | r::l,C,h=>by
  have h1:gV C r=C++[r]:=US C r λx hx=>(List.pairwise_append.1 h).2.2 x hx r (.head _);show nW (gV C r) l=_;rw[h1,Wq l (C++[r]) (by simpa using h)];simp
def cw2{l:List Row}(h:gg l):nW [] l=l:=Wq l [] h
def Wp:∀(l:List Row) {C:List Row},gg C->gg (nW C l)
 | [],C,h=>h
 | r::l,C,h=>Wp l (C:=gV C r) (KA h r)
def Wo:∀(l:List Row) (C:List Row),(nW C l).length<=C.length+l.length
 | [],C=>by simp[nW]
 | r::l,C=>by
  have h1:=Wo l (gV C r);have h2:=JM C r;show (nW (gV C r) l).length<=_;rw[zzi];omega
def cw3{l:List Row}{i:Nat}(h:i<l.length)(C:List Row):nW C (l.take (i+1))=gV (nW C (l.take i)) l[i]:=by
 unfold nW;rw[zze h,ww3];rfl

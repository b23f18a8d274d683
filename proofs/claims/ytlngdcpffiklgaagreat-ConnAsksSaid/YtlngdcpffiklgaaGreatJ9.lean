/- Part. -/
import Derived.Test.YtlngdcpffiklgaaGreatJ8
namespace Go.Proofs.YtlngdcpffiklgaaGreat
set_option linter.all false
open Go.RowKit
def ttk:=@Int.le_trans
def eG(t:cM):Bool:=decide (1<=t.aw/\t.aw<=1099511627776) &&
 (if t.kind=1 then decide (t.mark=0/\t.changes.length<=16/\t.signals.length<=2) && t.changes.all (λc=>mW c 8) && t.signals.all (λs=>decide (s.size<=40))
  else decide ((t.kind=2\/t.kind=3)/\1<=t.mark/\t.mark<=1099511627776/\t.changes=[]/\t.signals=[]))
def Ac{c:d_}{k:Int}:mW c k=true↔0<=c.table/\c.table<k/\1<=c.key/\c.key<=1099511627776/\c.val.size<=32/\(c.gone=true->c.val=emp):=by unfold mW;rw[zzw]
def wg{t:cM}:eG t=true↔(1<=t.aw/\t.aw<=1099511627776) /\
  ((t.kind=1/\t.mark=0/\t.changes.length<=16/\t.signals.length<=2/\(∀c∈t.changes,mW c 8=true)/\∀s∈t.signals,s.size<=40) \/
   ((t.kind=2\/t.kind=3)/\1<=t.mark/\t.mark<=1099511627776/\t.changes=[]/\t.signals=[])):=by
 unfold eG;rw[zzu,zzw];refine and_congr_right λ_=>?_;split
 ·rename_i hk;rw[zzu,zzu,zzw,zz5,zz5];constructor
  ·rintro ⟨⟨⟨h1,h2,h3⟩,h4⟩,h5⟩;exact .inl ⟨hk,h1,h2,h3,h4,λs hs=>zzp (h5 s hs)⟩
  rintro (⟨_,h1,h2,h3,h4,h5⟩|⟨h,_⟩)
  ·exact⟨⟨⟨h1,h2,h3⟩,h4⟩,λs hs=>zzo (h5 s hs)⟩
  omega
 rename_i hk;rw[zzw];constructor
 ·exact λh=>.inr h
 rintro (⟨h,_⟩|h)
 ·exact absurd h hk
 exact h
def my{t:cM}(h:eG t=true):(1<=t.aw/\t.aw<=1099511627776)/\(1<=t.kind/\t.kind<=3)/\(0<=t.mark/\t.mark<=1099511627776)/\t.changes.length<=16/\t.signals.length<=2/\(∀c∈t.changes,mW c 8=true)/\∀s∈t.signals,s.size<=40:=by
 obtain⟨h1,h2⟩:=wg.1 h;rcases h2 with ⟨k,m,a,b,c,d⟩|⟨k,m1,m2,a,b⟩
 ·exact⟨h1,by omega,by omega,a,b,c,d⟩
 rw[a,b];exact⟨h1,by omega,by omega,by simp,by simp,by simp,by simp⟩
def lj(t:cM):List dK:=[iF t.aw,iF t.kind,iF t.mark,iF t.changes.length]++(t.changes.map pU).flatten++([iF t.signals.length]++t.signals.map tF)
def vC(t:cM):Except Int Φ:=if eG t=true then oG (lj t) else .error 1
def bRs(t:cM):(lj t).length=5+t.changes.length*4+t.signals.length:=by
 unfold lj;simp only[zza,zzj,yym,zzn];rw[AZ (f:=pU) (k:=4) (λ_=>rfl)];omega
def bRr{t:cM}(h:eG t=true):∀f∈lj t,wa f:=by
 obtain⟨h1,h2,h3,h4,h5,h6,h7⟩:=my h;intro f hf;unfold lj at hf;simp only[zz6,zz1,wwg,zzx,xxs,vv1]at hf;rcases hf with ((rfl|rfl|rfl|rfl)|⟨l,⟨c,hc,rfl⟩,hf⟩)|rfl|⟨s,hs,rfl⟩
 ·exact lR (by omega)
 ·exact lR (by omega)
 ·exact lR (by omega)
 ·exact lR (by omega)
 ·have h8:=Ac.1 (h6 c hc);have hb:=ER c.gone;unfold pU at hf;simp only[zz1,xxs,vv1]at hf;rcases hf with rfl|rfl|rfl|rfl
  ·exact lR (by omega)
  ·exact lR (by omega)
  ·exact lR (by omega)
  exact .inr ⟨rfl,rfl,by show c.val.size<=4096;omega⟩
 ·exact lR (by omega)
 have:=h7 s hs;exact .inr ⟨rfl,rfl,by show s.size<=4096;omega⟩
def Tb{t:cM}(h:eG t=true):vC t= .ok (eZ (lj t).length 2++((lj t).map fD).flatten)/\jM (eZ (lj t).length 2++((lj t).map fD).flatten)= .ok (lj t):=by
 have hl:=bRs t;obtain⟨_,_,_,h4,h5,_,_⟩:=my h;obtain⟨e1,e2⟩:=Ii (l:=lj t) (by omega) (bRr h);exact⟨by unfold vC;rw[zzd h,e1],e2⟩
def kX{α:Type}(one:dh->α × dh):Nat->dh->List α × dh
 | 0,r=>([],r)
 | i+1,r=>((one r).1::(kX one i (one r).2).1,(kX one i (one r).2).2)
def rB(r:dh):d_ × dh:=
 let b:=dI 8 r;let c:=fE b.2;let d:=ta c.2;let e:=pC d.2
 (⟨b.1,c.1,d.1,e.1⟩,e.2)
def Wh(x:Int × Int × Int × (Int × List d_) × (Int × Ψ)):cM:=⟨x.1,x.2.1,x.2.2.2.1.2,x.2.2.2.2.2,x.2.2.1⟩
def wZ{α:Type}(i:dh->Int × dh)(m:Nat->dh->List α × dh):dh->(Int × List α) × dh:=t_ i λn=>m n.toNat
def lH:dh->cM × dh:=Aa Wh (t_ fE λ_=>t_ (dI 3) λ_=>t_ fE λ_=>t_ (wZ (dI 16) (kX rB)) λ_=>wZ (dI 2) (kX pC))
def AR(l:List dK):Option cM:=
 let x:=lH ⟨l,false⟩
 if x.2.bad=false/\x.2.l=[]/\eG x.1=true then some x.1 else none
def kQ(b:Φ):Except Int cM:=match jM b with
 | .error e=>.error e
 | .ok l=>match AR l with
  | some t=>.ok t
  | none=>.error 3
def Gh{α:Type}{one:dh->α × dh}{f:α->List dK}:∀(xs:List α) (l:List dK),(∀x∈xs,∀l,one ⟨f x++l,false⟩=(x,⟨l,false⟩))->kX one xs.length ⟨(xs.map f).flatten++l,false⟩=(xs,⟨l,false⟩)
 | [],l,_=>rfl
 | x::xs,l,h=>by
  have ih:=Gh xs l λy hy=>h y (.tail _ hy);have h1:=h x (.head _) ((xs.map f).flatten++l);rw[zzr,zz9,zzk,zzj,kX,h1,ih]
def a_0{c:d_}{l:List dK}(h:0<=c.table/\c.table<=8):rB ⟨pU c++l,false⟩=(c,⟨l,false⟩):=by
 unfold rB pU;have e2:dI 8 ⟨[iF c.table,iF c.key,iF (hU c.gone),tF c.val]++l,false⟩=(c.table,⟨[iF c.key,iF (hU c.gone),tF c.val]++l,false⟩):=pB h;have e3:fE ⟨[iF c.key,iF (hU c.gone),tF c.val]++l,false⟩=(c.key,⟨[iF (hU c.gone),tF c.val]++l,false⟩):=rfl;have e4:ta ⟨[iF (hU c.gone),tF c.val]++l,false⟩=(c.gone,⟨[tF c.val]++l,false⟩):=HW;have e5:pC ⟨[tF c.val]++l,false⟩=(c.val,⟨l,false⟩):=rfl;simp only[e2,e3,e4,e5]
def cKq{t:cM}(h:eG t=true):lH ⟨lj t,false⟩=(t,⟨[],false⟩):=by
 obtain⟨h1,h2,h3,h4,h5,h6,h7⟩:=my h;have e0:lj t=iF t.aw::(iF t.kind::(iF t.mark::(iF t.changes.length::((t.changes.map pU).flatten++(iF t.signals.length::((t.signals.map λs=>[tF s]).flatten++[])))))):=by
  unfold lj;have:∀l:Ψ,l.map tF=(l.map λs=>[tF s]).flatten:=λl=>by induction l with
   | nil=>rfl
   | cons x l ih=>rw[zzr,zzr,zz9,ih];rfl
  rw[this];simp
 rw[e0];have e1:∀n l,fE ⟨iF n::l,false⟩=(n,⟨l,false⟩):=λn l=>rfl;have e2:∀l,dI 3 ⟨iF t.kind::l,false⟩=(t.kind,⟨l,false⟩):=λl=>pB (by omega);have e3:∀l,dI 16 ⟨iF t.changes.length::l,false⟩=((t.changes.length:Int),⟨l,false⟩):=λl=>pB (by omega);have e4:∀l,kX rB t.changes.length ⟨(t.changes.map pU).flatten++l,false⟩=(t.changes,⟨l,false⟩):=λl=>Gh t.changes l λc hc l=>a_0 (by have:=Ac.1 (h6 c hc);omega);have e5:∀l,dI 2 ⟨iF t.signals.length::l,false⟩=((t.signals.length:Int),⟨l,false⟩):=λl=>pB (by omega);have e6:∀l,kX pC t.signals.length ⟨(t.signals.map λs=>[tF s]).flatten++l,false⟩=(t.signals,⟨l,false⟩):=λl=>Gh t.signals l λs hs l=>rfl;unfold lH wZ Aa t_ Wh;simp only[e1,e2,e3,e4,e5,e6,zzz]
def SM{t:cM}(h:eG t=true):∃b,vC t= .ok b/\kQ b= .ok t:=by
 obtain⟨e1,e2⟩:=Tb h;refine⟨_,e1,?_⟩;unfold kQ;rw[e2];have e3:AR (lj t)=some t:=by
  unfold AR;rw[cKq h];simp only;rw[zzd ⟨trivial,trivial,h⟩]
 simp only[e3]
def Il{b:Φ}{t:cM}(h:kQ b= .ok t):eG t=true:=by
 unfold kQ at h;split at h
 ·cases h
 split at h
 ·rename_i x hx;cases h;unfold AR at hx;simp only at hx;split at hx
  ·rename_i hc;cases hx;exact hc.2.2
  cases hx
 cases h
def nU(t:cM):Φ:=match vC t with
 | .ok b=>b
 | .error _=>[]
def Sf{t:cM}(h:eG t=true):kQ (nU t)= .ok t:=by
 obtain⟨b,e1,e2⟩:=SM h;unfold nU;rw[e1];exact e2
def Sg{t:cM}(h:eG t=true):vC t= .ok (nU t):=by
 obtain⟨b,e1,_⟩:=SM h;unfold nU;rw[e1]
def HX{t:cM}(h:eG t=true):(nU t).length<=1200:=by
 obtain⟨h1,h2,h3,h4,h5,h6,h7⟩:=my h;unfold nU;rw[(Tb h).1];simp only;rw[zza,lV];unfold lj;simp only[zzt,zzr,yy8,yyy,zz9,xx8,zza,zz2,vx];rw[CI,xxk,xxk];have hT:∀s:Η,(fD (tF s)).length=3+s.size:=λs=>by
  show (gY 2::(eZ (s.size:Nat) 2++s.data.toList)).length=_;rw[zzj,zza,lV];have:s.data.toList.length=s.size:=rfl;omega
 have k1:=uy (f:=(λx=>(x.map fD).flatten)∘pU) (k:=62) t.changes λc hc=>by
  have:=(Ac.1 (h6 c hc)).2.2.2.2.1;show (((pU c).map fD).flatten).length<=62;unfold pU;simp only[zzr,yy8,zz9,xx8,zza,yym,vx,hT];omega
 have k2:=uy (f:=fD∘tF) (k:=43) t.signals λs hs=>by
  have:=h7 s hs;show (fD (tF s)).length<=43;rw[hT];omega
 omega
def sX(r:Row):Prop:=1<=r.key/\r.key<=1099511627776/\r.val.size<=32
instance (r:Row):Decidable (sX r):=by unfold sX;infer_instance
structure Cl(C:List Row):Prop where
 sorted:gi C
 rows:∀r∈C,sX r
 len:C.length<=1000
def wv:Int->List Row->Bool
 | _,[]=>true
 | k,r::C=>decide (k<r.key/\r.key<=1099511627776/\r.val.size<=32) && wv r.key C
def Xj:∀{C:List Row} {k:Int},wv k C=true↔(∀r∈C,k<r.key)/\gi C/\∀r∈C,r.key<=1099511627776/\r.val.size<=32
 | [],k=>by simp[wv,gi]
 | r::C,k=>by
  unfold wv;rw[zzu,zzw,Xj (C:=C) (k:=r.key)];unfold gi;rw[yyg];constructor
  ·rintro ⟨⟨h1,h2,h3⟩,h4,h5,h6⟩;refine⟨λx hx=>?_,⟨λx hx=>h4 x hx,h5⟩,λx hx=>?_⟩
   ·rcases zz1.1 hx with rfl|hx
    ·exact h1
    have:=h4 x hx;omega
   rcases zz1.1 hx with rfl|hx
   ·exact⟨h2,h3⟩
   exact h6 x hx
  rintro ⟨h1,⟨h2,h3⟩,h4⟩;exact⟨⟨h1 r (.head _),h4 r (.head _)⟩,λx hx=>h2 x hx,h3,λx hx=>h4 x (.tail _ hx)⟩
def rN(C:List Row):Bool:=wv 0 C && decide (C.length<=1000)
def V5{C:List Row}:rN C=true↔Cl C:=by
 unfold rN;rw[zzu,zzw,Xj];constructor
 ·rintro ⟨⟨h1,h2,h3⟩,h4⟩;exact⟨h2,λr hr=>⟨by have:=h1 r hr;omega,(h3 r hr).1,(h3 r hr).2⟩,h4⟩
 rintro ⟨h1,h2,h3⟩;exact⟨⟨λr hr=>by have:=(h2 r hr).1;omega,h1,λr hr=>⟨(h2 r hr).2.1,(h2 r hr).2.2⟩⟩,h3⟩
def jo(aw:Int)(ts:List (List Row)):Bool:=decide (0<=aw/\aw<=1099511627776/\1<=ts.length/\ts.length<=8) && ts.all rN
def sS{aw:Int}{ts:List (List Row)}:jo aw ts=true↔(0<=aw/\aw<=1099511627776/\1<=ts.length/\ts.length<=8)/\∀C∈ts,Cl C:=by
 unfold jo;rw[zzu,zzw,zz5];exact and_congr_right λ_=>⟨λh C hC=>V5.1 (h C hC),λh C hC=>V5.2 (h C hC)⟩
def tq(r:Row):List dK:=[iF r.key,tF r.val]
def oH(C:List Row):List dK:=iF C.length::(C.map tq).flatten
def nk(aw:Int)(ts:List (List Row)):List dK:=[iF aw,iF ts.length]++(ts.map oH).flatten
def Tj(C:List Row):(oH C).length=1+C.length*2:=by
 unfold oH;rw[zzj,AZ (f:=tq) (k:=2) (λ_=>rfl)];omega
def bRo{aw:Int}{ts:List (List Row)}(h:jo aw ts=true):(nk aw ts).length<=16010:=by
 obtain⟨h1,h2⟩:=sS.1 h;have k:=uy (f:=oH) (k:=2001) ts λC hC=>by rw[Tj];have:=(h2 C hC).len;omega
 unfold nk;rw[zza];simp only[zzj,yym];have:ts.length*2001<=8*2001:=yyv _ h1.2.2.2;omega
def bRn{aw:Int}{ts:List (List Row)}(h:jo aw ts=true):∀f∈nk aw ts,wa f:=by
 obtain⟨h1,h2⟩:=sS.1 h;intro f hf;unfold nk at hf;simp only[zz6,zz1,wwg,zzx,xxs,vv1]at hf;rcases hf with (rfl|rfl)|⟨l,⟨C,hC,rfl⟩,hf⟩
 ·exact lR (by omega)
 ·exact lR (by omega)
 have hT:=h2 C hC;have hl:=hT.len;unfold oH at hf;simp only[zz1,wwg,zzx]at hf;rcases hf with rfl|⟨l,⟨r,hr,rfl⟩,hf⟩
 ·exact lR (by omega)
 obtain⟨k1,k2,k3⟩:=hT.rows r hr;unfold tq at hf;simp only[zz1,xxs,vv1]at hf;rcases hf with rfl|rfl
 ·exact lR (by omega)
 exact .inr ⟨rfl,rfl,by show r.val.size<=4096;omega⟩
def jw(aw:Int)(ts:List (List Row)):Φ:=eZ (nk aw ts).length 2++((nk aw ts).map fD).flatten
def bIw(s:Η):(fD (tF s)).length=3+s.size:=by
 show (gY 2::(eZ (s.size:Nat) 2++s.data.toList)).length=_;rw[zzj,zza,lV];have:s.data.toList.length=s.size:=rfl;omega
def By{aw:Int}{ts:List (List Row)}(h:jo aw ts=true):(jw aw ts).length<=360000:=by
 obtain⟨h1,h2⟩:=sS.1 h;unfold jw nk;rw[zza,lV];simp only[zzt,zzr,yy8,yyy,zz9,xx8,zza,zz2,vx];rw[CI,xxk];have k:=uy (f:=(λx=>(x.map fD).flatten)∘oH) (k:=44009) ts λC hC=>by
  have hT:=h2 C hC;have hl:=hT.len;show (((oH C).map fD).flatten).length<=44009;unfold oH;rw[zzr,zz9,zza,vx,CI,xxk];have k2:=uy (f:=(λx=>(x.map fD).flatten)∘tq) (k:=44) C λr hr=>by
   have:=(hT.rows r hr).2.2;show (((tq r).map fD).flatten).length<=44;unfold tq;simp only[zzr,yy8,zz9,xx8,zza,yym,vx,bIw];omega
  have:C.length*44<=1000*44:=yyv _ hl;omega
 have:ts.length*44009<=8*44009:=yyv _ h1.2.2.2;omega
def Vk{aw:Int}{ts:List (List Row)}(h:jo aw ts=true):oG (nk aw ts)= .ok (jw aw ts)/\jM (jw aw ts)= .ok (nk aw ts):=
 Ii (l:=nk aw ts) (by have:=bRo h;omega) (bRn h)
def E8(aw:Int)(ts:List (List Row)):Except Int Φ:=if jo aw ts=true then .ok (dm (jw aw ts)) else .error 1
def cBr(x:Int × Η):Row:=⟨x.1,x.2⟩
def wx:dh->Row × dh:=Aa cBr (t_ fE λ_=>pC)
def rW:dh->List Row × dh:=Aa Prod.snd (wZ (dI 1000) (jd wx))
def Wg(x:Int × (Int × List (List Row))):Int × List (List Row):=(x.1,x.2.2)
def mV:dh->(Int × List (List Row)) × dh:=Aa Wg (t_ fE λ_=>wZ (dI 8) (kX rW))
def u0(l:List dK):Option (Int × List (List Row)):=
 let x:=mV ⟨l,false⟩
 if x.2.bad=false/\x.2.l=[]/\jo x.1.1 x.1.2=true then some x.1 else none
def kC(b:Φ):Option (Int × List (List Row)):=match gZ b with
 | .error _=>none
 | .ok (p,n)=>if n=b.length then (match jM p with
  | .error _=>none
  | .ok l=>u0 l) else none
def bFk{b:Φ}{x:Int × List (List Row)}(h:kC b=some x):jo x.1 x.2=true:=by
 unfold kC at h;split at h
 ·cases h
 split at h
 ·split at h
  ·cases h
  unfold u0 at h;simp only at h;split at h
  ·rename_i hc;cases h;exact hc.2.2
  cases h
 cases h
def cF6{r:Row}{l:List dK}:wx ⟨tq r++l,false⟩=(r,⟨l,false⟩):=rfl
def cJi{C:List Row}{l:List dK}(h:C.length<=1000):rW ⟨oH C++l,false⟩=(C,⟨l,false⟩):=by
 unfold rW wZ Aa t_ oH;rw[zzv,pB (by omega)];simp only[zzz];rw[Gi C l λr _ l=>cF6]
def cx8{aw:Int}{ts:List (List Row)}(h:jo aw ts=true):mV ⟨nk aw ts,false⟩=((aw,ts),⟨[],false⟩):=by
 obtain⟨h1,h2⟩:=sS.1 h;have e0:nk aw ts=iF aw::(iF ts.length::((ts.map oH).flatten++[])):=by unfold nk;simp
 rw[e0];have e1:∀l,fE ⟨iF aw::l,false⟩=(aw,⟨l,false⟩):=λl=>rfl;have e2:∀l,dI 8 ⟨iF ts.length::l,false⟩=((ts.length:Int),⟨l,false⟩):=λl=>pB (by omega);have e3:∀l,kX rW ts.length ⟨(ts.map oH).flatten++l,false⟩=(ts,⟨l,false⟩):=λl=>Gh ts l λC hC l=>cJi (h2 C hC).len;unfold mV wZ Aa t_ Wg;simp only[e1,e2,e3,zzz]
def SH{b p:Φ}{n:Nat}(ht:gZ b= .ok (p,n))(hn:n=b.length){l:List dK}(hd:jM p= .ok l):kC b=u0 l:=by
 unfold kC;rw[ht];simp only;rw[zzd hn,hd]
def cx7{l:List dK}{x:Int × List (List Row)}(h:mV ⟨l,false⟩=(x,⟨[],false⟩))(hm:jo x.1 x.2=true):u0 l=some x:=by
 unfold u0;rw[h];simp only;rw[zzd ⟨trivial,trivial,hm⟩]
def SI{aw:Int}{ts:List (List Row)}(h:jo aw ts=true):kC (dm (jw aw ts))=some (aw,ts):=by
 have hl:=By h;have h1:=(Vk h).2;have h2:=cx8 h;generalize jw aw ts=p at *
 have ht:=Lg (p:=p) (r:=[]) (by omega);rw[zz2]at ht
 exact (SH ht (kJ p).symm h1).trans (cx7 h2 h)
abbrev iM:=List (List Row)
def gv(ts:iM)(t:Int):List Row:=if t<0 then [] else (ts[t.toNat]?).getD []
def kz(ts:iM)(c:d_):iM:=ts.set c.table.toNat (lF (gv ts c.table) c)
def gd(ts:iM)(l:List d_):iM:=l.foldl kz ts
def iq(n:Nat)(c:d_):Bool:=decide (0<=c.table/\c.table<(n:Int))
def mM(ts:iM)(l:List d_):Bool:=l.all (iq ts.length) && (gd ts l).all λC=>decide (C.length<=1000)
def wP(ts:iM)(c:d_):(kz ts c).length=ts.length:=yyh
def um(ts:iM):∀l:List d_,(gd ts l).length=ts.length:=λl=>by
 unfold gd;induction l generalizing ts with
 | nil=>rfl
 | cons c l ih=>rw[xxq,ih,wP]
def aWi(ts:iM)(l m:List d_):gd ts (l++m)=gd (gd ts l) m:=ww6
def RX(ts:iM)(l:List d_)(c:d_):gd ts (l++[c])=kz (gd ts l) c:=by rw[aWi];rfl
def ow(ts:iM)(t:Nat)(h:t<ts.length):gv ts t=ts[t]:=by
 unfold gv;rw[zzb (by omega),zzz,zzc h];rfl
def Ec{ts:iM}{t:Int}(h:0<=t/\t<ts.length):gv ts t∈ts:=by
 obtain⟨n,rfl⟩:∃n:Nat,t=n:=⟨t.toNat,by omega⟩;rw[ow ts n (by omega)];exact zzh _
structure nS(C:List Row):Prop where
 sorted:gi C
 rows:∀r∈C,sX r
def nS.app{C:List Row}(h:nS C){c:d_}{k:Int}(hc:mW c k=true):nS (lF C c):=by
 have hm:=Ac.1 hc;unfold lF;split
 ·exact⟨X3 h.sorted _,λr hr=>h.rows r (V' hr)⟩
 refine⟨K2 h.sorted _,λr hr=>?_⟩;rcases Wa hr with rfl|hr
 ·exact⟨by show 1<=c.key;omega,by show c.key<=_;omega,by show c.val.size<=_;omega⟩
 exact h.rows r hr
def Xm:nS []:=⟨List.Pairwise.nil,by simp⟩
def cF2(C:List Row)(c:d_):(lF C c).length<=C.length+1:=by
 unfold lF;split
 ·have:=VS C c.key;omega
 exact J' C _
def Kf{ts:iM}{c:d_}{C:List Row}(h:C∈kz ts c):C∈ts\/C=lF (gv ts c.table) c:=by
 unfold kz at h;exact vv6 h
def aR4{ts:iM}(h:∀C∈ts,nS C){c:d_}{k:Int}(hc:mW c k=true)(ht:iq ts.length c=true):∀C∈kz ts c,nS C:=λC hC=>by
 rcases Kf hC with hC|rfl
 ·exact h C hC
 exact (h _ (Ec (zzp ht))).app hc
def HP{k:Int}:∀{l:List d_} {ts:iM},(∀C∈ts,nS C)->(∀c∈l,mW c k=true)->(∀c∈l,iq ts.length c=true)->∀C∈gd ts l,nS C
 | [],ts,h,_,_=>h
 | c::l,ts,h,h1,h2=>by
  show ∀C∈gd (kz ts c) l,nS C;refine HP (aR4 h (h1 c (.head _)) (h2 c (.head _))) (λx hx=>h1 x (.tail _ hx)) λx hx=>?_;rw[wP];exact h2 x (.tail _ hx)
def EL(N:Nat):∀{l:List d_} {ts:iM},(∀C∈ts,C.length<=N)->(∀c∈l,iq ts.length c=true)->∀C∈gd ts l,C.length<=N+l.length
 | [],ts,h,_=>h
 | c::l,ts,h,h2=>by
  intro C hC;have hA:∀C∈kz ts c,C.length<=N+1:=λC hC=>by
   rcases Kf hC with hC|rfl
   ·have:=h C hC;omega
   have h1:=cF2 (gv ts c.table) c;have h3:=h _ (Ec (zzp (h2 c (.head _))));omega
  have:=EL (N+1) (l:=l) hA (λx hx=>by rw[wP];exact h2 x (.tail _ hx)) C hC;rw[zzj];omega
structure cW where
 g:da
 d:DS
 ts:iM
 eh:Int
 image:Int
def iQ(R:List PF)(n:Nat)(f:Int):Option (Int × iM):=match dS PF.id R f with
 | none=>none
 | some x=>match kC x.b with
  | none=>none
  | some y=>if y.2.length=n then some y else none
abbrev sa:=Int × Int × iM
def gA(R:List PF)(n:Nat)(f:Int)(x:sa):sa:=match iQ R n f with
 | none=>x
 | some y=>if 0<=x.1/\y.1<=x.2.1 then x else (f,y.1,y.2)
def lB(R:List PF)(n:Nat):sa:=gA R n 1 (gA R n 0 (-1,0,List.replicate n []))
def oT(n:Nat)(image:Int):List (Φ)->Int->iM->Option iM
 | [],_,ts=>some ts
 | b::r,aw,ts=>match kQ b with
  | .error _=>none
  | .ok t=>if t.aw=aw/\(∀c∈t.changes,c.table<(n:Int)) then oT n image r (aw+1) (if image<aw then gd ts t.changes else ts) else none
def lD(d:DS)(cU size:Int):DS × Except Int cW:=
 if cU<1\/8<cU then (d,.error 1)
 else match ff d 16 size with
  | (d',.error e)=>(d',.error e)
  | (d',.ok g)=>
   let x:=lB d'.R cU.toNat
   match oT cU.toNat x.2.1 (cX g.bI) (fk g.bI) x.2.2 with
   | none=>(d',.error 3)
   | some ts=>if x.2.1<=cO g.bI/\fk g.bI<=x.2.1+1 then (d',.ok ⟨g,d',ts,x.1,x.2.1⟩) else (d',.error 3)
abbrev gz:=nU
def cW.gK(k:cW)(t:cM):cW × (Int × Int):=
 if k.d.off=true then (k,(0,8))
 else if mM k.ts t.changes=false\/1099511627776<=cO k.g.bI then (k,(0,7))
 else
  let r:=fy k.g k.d (gz {t with aw:=cO k.g.bI+1})
  if r.2.2=0 then ({k with g:=r.1.1,d:=r.1.2,ts:=gd k.ts t.changes},(cO k.g.bI+1,0)) else ({k with g:=r.1.1,d:=r.1.2},(0,r.2.2))
def cW.oD(k:cW)(sg:Ψ)(l:List d_):cW × (Int × Int):=
 if eG ⟨1,1,l,sg,0⟩=true/\(∀c∈l,c.table<(k.ts.length:Int)) then k.gK ⟨1,1,l,sg,0⟩ else (k,(0,1))
def cW.nE(k:cW)(kind mark:Int):cW × (Int × Int):=
 if (kind=2\/kind=3)/\eG ⟨1,kind,[],[],mark⟩=true then k.gK ⟨1,kind,[],[],mark⟩ else (k,(0,1))
def cW.gN(k:cW)(aw:Int):Except Int cM:=match mZ k.g.bI aw with
 | none=>.error 5
 | some b=>kQ b
def jF(k:cW):Int:=if k.eh=0 then 1 else 0
def kR(d:DS)(f:Int)(b:Φ):DS × Int:=
 let c:=if 0<=gH d.R f then d.cut f 0 else (d,0)
 if c.2≠0 then c else
 let a:=c.1.append f b
 if a.2≠0 then a else a.1.sync f
def cW.jb(k:cW):cW × Int:=
 let r:=kR k.d (jF k) (dm (jw (cO k.g.bI) k.ts))
 if r.2=0 then ({k with d:=r.1,eh:=jF k,image:=cO k.g.bI},0) else ({k with d:=r.1},r.2)
def cW.iR(k:cW)(aw:Int):cW × Int:=
 if aw<0\/cO k.g.bI<aw then (k,1)
 else if k.d.off=true then (k,8)
 else
  let r:=if k.image<aw then k.jb else (k,0)
  if r.2≠0 then r else
  let t:=iG r.1.g r.1.d aw
  ({r.1 with g:=t.1.1,d:=t.1.2},t.2)
def oA(C:List Row)(key:Int)(n:Int):List Row:=(C.filter λr=>decide (key<r.key)).take n.toNat
def cW.wY(k:cW)(t key n:Int):List Row:=oA (gv k.ts t) key n
structure dP(lo hi:Int)(A B M:List PF):Prop where
 a:∀x∈A,x.id<lo
 m:∀x∈M,lo<=x.id/\x.id<hi
 b:∀x∈B,hi<=x.id
def dz(A B:List PF)(d:DS):DS:={d with R:=A++d.R++B}
section
variable {lo hi:Int} {A B M:List PF}
def dP.cK(h:dP lo hi A B M){f:Int}(h1:lo<=f)(h2:f<hi):fz PF.id (A++M++B) f=A.length+fz PF.id M f:=by
 have eA:A.filter (λx=>decide (PF.id x<f))=A:=yy4.2 λx hx=>zzo (by have:=h.a x hx;omega);have eB:B.filter (λx=>decide (PF.id x<f))=[]:=vvp.2 λx hx=>by have:=h.b x hx;simp;omega
 unfold fz;rw[yyx,yyx,eA,eB,zz2,zza]
def dP.at_(h:dP lo hi A B M)(c:Nat)(hc:c<=M.length):(A++M++B)[A.length+c]?=if c<M.length then M[c]? else B[0]?:=by
 rw[zzk,yyb (by omega),show A.length+c-A.length=c by omega];split
 ·rw[zzm (by omega)]
 rw[yyb (by omega),show c-M.length=0 by omega]
def dP.is(h:dP lo hi A B M){f:Int}(h1:lo<=f)(h2:f<hi):iE PF.id (A++M++B) f=iE PF.id M f:=by
 unfold iE;rw[h.cK h1 h2,h.at_ _ (EX M f)];by_cases hc:fz PF.id M f<M.length
 ·rw[zzd hc]
 rw[zzb hc,yyt (l:=M) (by omega)];cases hB:B[0]? with
 | none=>rfl
 | some y=>
  have:=h.b y (yy5 hB);simp;omega
def dP.get(h:dP lo hi A B M){f:Int}(h1:lo<=f)(h2:f<hi):dS PF.id (A++M++B) f=dS PF.id M f:=by
 unfold dS;rw[h.is h1 h2];split
 ·rename_i hi;obtain⟨hl,_⟩:=tT hi;rw[h.cK h1 h2,h.at_ _ (by omega),zzd hl]
 rfl
def dP.put(h:dP lo hi A B M){x:PF}(h1:lo<=x.id)(h2:x.id<hi):gb PF.id (A++M++B) x=A++gb PF.id M x++B:=by
 have hc:=EX (key:=PF.id) M x.id;unfold gb;rw[h.is h1 h2,h.cK h1 h2];have e1:(A++M++B).take (A.length+fz PF.id M x.id)=A++M.take (fz PF.id M x.id):=by
  rw[zzk,xx0,xxg hc]
 rw[e1];split
 ·rename_i hi;obtain⟨hl,_⟩:=tT hi;rw[zzk A M B,vvk,xxe,xxh (by omega)];simp only[zzk]
 rw[zzk A M B,xxe,xxh hc];simp only[zzk]
def dP.del(h:dP lo hi A B M){f:Int}(h1:lo<=f)(h2:f<hi):jN PF.id (A++M++B) f=A++jN PF.id M f++B:=by
 unfold jN;rw[h.is h1 h2];split
 ·rename_i hi;obtain⟨hl,_⟩:=tT hi;rw[h.cK h1 h2,zzk,List.eraseIdx_append_of_length_le (by omega),show A.length+fz PF.id M f-A.length=fz PF.id M f by omega,List.eraseIdx_append_of_lt_length hl,zzk]
 rfl
def dP.app(h:dP lo hi A B M){f:Int}(h1:lo<=f)(h2:f<hi)(b:Φ):kP (A++M++B) f b=A++kP M f b++B:=by
 unfold kP;rw[h.get h1 h2,h.put (x:=⟨f,_,_⟩) h1 h2]
def dP.rX(h:dP lo hi A B M){f:Int}(h1:lo<=f)(h2:f<hi)(g:PF->PF):ku (A++M++B) f g=A++ku M f g++B:=by
 unfold ku;rw[h.get h1 h2];split
 ·rw[h.put (x:={g _ with id:=f}) h1 h2]
 rfl
def dP.len(h:dP lo hi A B M){f:Int}(h1:lo<=f)(h2:f<hi):gH (A++M++B) f=gH M f:=by
 unfold gH;rw[h.get h1 h2]
def dP.Lt{M':List PF}(h:dP lo hi A B M)(hm:∀x∈M',lo<=x.id/\x.id<hi):dP lo hi A B M':=⟨h.a,hm,h.b⟩
def dP.cUs(h:dP lo hi A B M){f:Int}(h1:lo<=f)(h2:f<hi)(b:Φ):dP lo hi A B (kP M f b):=h.Lt λx hx=>by
 rcases BF hx with rfl|hx
 ·exact⟨h1,h2⟩
 exact h.m x hx
def dP.awh(h:dP lo hi A B M){f:Int}(h1:lo<=f)(h2:f<hi)(g:PF->PF):dP lo hi A B (ku M f g):=h.Lt λx hx=>by
 rcases Gs hx with hx|⟨y,_,_,rfl⟩
 ·exact h.m x hx
 exact⟨h1,h2⟩
def dP.cUw(h:dP lo hi A B M)(f:Int):dP lo hi A B (jN PF.id M f):=h.Lt λx hx=>h.m x (Gr hx)
end
section
variable {lo hi:Int} {A B:List PF} {d:DS}
def Vn(f:Int):may (dz A B d) f=may d f:=rfl
def J1(h:dP lo hi A B d.R){f:Int}(h1:lo<=f)(h2:f<hi):(dz A B d).find f=d.find f:=by
 unfold DS.find;rw[Vn,show (dz A B d).R=A++d.R++B from rfl,h.is h1 h2]
def F_(h:dP lo hi A B d.R){f:Int}(h1:lo<=f)(h2:f<hi)(b:Φ):(dz A B d).append f b=(dz A B (d.append f b).1,(d.append f b).2)/\dP lo hi A B (d.append f b).1.R:=by
 unfold DS.append;rw[Vn];split
 ·exact⟨rfl,h⟩
 rw[show (dz A B d).R=A++d.R++B from rfl,h.app h1 h2];exact⟨rfl,h.cUs h1 h2 b⟩
def J3(h:dP lo hi A B d.R){f:Int}(h1:lo<=f)(h2:f<hi):(dz A B d).sync f=(dz A B (d.sync f).1,(d.sync f).2)/\dP lo hi A B (d.sync f).1.R:=by
 unfold DS.sync;rw[J1 h h1 h2];split
 ·exact⟨rfl,h⟩
 rw[show (dz A B d).cK.off=d.cK.off from rfl];split
 ·exact⟨rfl,h⟩
 rw[show (dz A B d).R=A++d.R++B from rfl,h.rX h1 h2];exact⟨rfl,h.awh h1 h2 _⟩
def Ga(h:dP lo hi A B d.R){f:Int}(h1:lo<=f)(h2:f<hi)(n:Int):(dz A B d).cut f n=(dz A B (d.cut f n).1,(d.cut f n).2)/\dP lo hi A B (d.cut f n).1.R:=by
 unfold DS.cut;rw[J1 h h1 h2,show (dz A B d).R=A++d.R++B from rfl,h.len h1 h2];split
 ·exact⟨rfl,h⟩
 split
 ·exact⟨rfl,h⟩
 rw[show (dz A B d).cK.off=d.cK.off from rfl];split
 ·exact⟨rfl,h⟩
 rw[h.rX h1 h2];exact⟨rfl,h.awh h1 h2 _⟩
def J2(h:dP lo hi A B d.R){f:Int}(h1:lo<=f)(h2:f<hi):(dz A B d).remove f=(dz A B (d.remove f).1,(d.remove f).2)/\dP lo hi A B (d.remove f).1.R:=by
 unfold DS.remove;rw[J1 h h1 h2];split
 ·exact⟨rfl,h⟩
 rw[show (dz A B d).cK.off=d.cK.off from rfl];split
 ·exact⟨rfl,h⟩
 rw[show (dz A B d).R=A++d.R++B from rfl,h.del h1 h2];exact⟨rfl,h.cUw f⟩
structure nN(lo hi:Int)(g:da):Prop where
 b0:lo<=g.base
 b1:g.base+4096<=hi
 bI:∀s∈g.bI,g.base<=s.file/\s.file<g.base+4096
 dE:∀x,g.dE=some x->g.base<=x.file/\x.file<g.base+4096
def WZ{g:da}(h:nN lo hi g){off:Bool}{p:Φ}{x:il}(hx:eW g off p= .ok x):g.base<=x.file/\x.file<g.base+4096:=by
 have hf:∀f,g.base<=f->mO g f p= .ok x->g.base<=x.file/\x.file<g.base+4096:=λf hb hf=>by
  unfold mO at hf;split at hf
  ·cases hf
  cases hf;exact⟨hb,by dsimp only;omega⟩
 unfold eW at hx;split at hx
 ·cases hx
 split at hx
 ·cases hx
 split at hx
 ·cases hx
 split at hx
 ·exact hf _ (yyf _) hx
 rename_i s hs;have hs:=h.bI s (xx3 hs);split at hx
 ·cases hx;exact hs
 exact hf _ (by omega) hx
def We{g:da}(hg:nN lo hi g)(h:dP lo hi A B d.R):dy g (dz A B d)=(((dy g d).1.1,dz A B (dy g d).1.2),(dy g d).2)/\dP lo hi A B (dy g d).1.2.R/\nN lo hi (dy g d).1.1:=by
 unfold dy;cases ht:g.dE with
 | none=>exact⟨rfl,h,hg⟩
 | some x=>
  have hx:=hg.dE x ht;have h1:=hg.b0;have h2:=hg.b1;simp only;split
  ·obtain⟨e,hw⟩:=J2 h (f:=x.file) (by omega) (by omega);rw[e];refine⟨rfl,hw,hg.b0,hg.b1,hg.bI,λy hy=>?_⟩;simp only at hy;split at hy
   ·cases hy
   cases hy;exact hx
  obtain⟨e,hw⟩:=Ga h (f:=x.file) (by omega) (by omega) x.oJ;rw[e];refine⟨rfl,hw,hg.b0,hg.b1,hg.bI,λy hy=>?_⟩;simp only at hy;split at hy
  ·cases hy
  cases hy;exact hx
def cEk{L:List dt}{x:il}{p:Φ}{P:Int->Prop}(hL:∀s∈L,P s.file)(hx:P x.file):∀s∈jQ L x p,P s.file:=by
 unfold jQ;have h1:∀s∈(if x.fresh=true then L++[⟨x.file,cO L+1,0,[]⟩] else L),P s.file:=by
  split
  ·intro s hs;rcases zz6.1 hs with hs|hs
   ·exact hL s hs
   rw[zz8.1 hs];exact hx
  exact hL
 intro s hs;simp only at hs;rcases zz6.1 hs with hs|hs
 ·exact h1 s (List.dropLast_subset _ hs)
 obtain⟨y,hy,rfl⟩:=zzx.1 hs;exact h1 y (xx3 (by simpa using hy))
def HO{g:da}(hg:nN lo hi g)(h:dP lo hi A B d.R)(p:Φ):fy g (dz A B d) p=(((fy g d p).1.1,dz A B (fy g d p).1.2),(fy g d p).2)/\dP lo hi A B (fy g d p).1.2.R/\nN lo hi (fy g d p).1.1:=by
 unfold fy;rw[show (dz A B d).off=d.off from rfl];cases hp:eW g d.off p with
 | error e=>exact⟨rfl,h,hg⟩
 | ok x=>
  have hx:=WZ hg hp;have h1:=hg.b0;have h2:=hg.b1;obtain⟨em,hm,p8⟩:=We hg h;simp only;rw[em];simp only;split
  ·exact⟨rfl,hm,p8⟩
  obtain⟨ea,ha⟩:=F_ hm (f:=x.file) (by omega) (by omega) x.b;rw[ea];simp only;split
  ·exact⟨rfl,ha,p8⟩
  obtain⟨es,hs⟩:=J3 ha (f:=x.file) (by omega) (by omega);rw[es];simp only;split
  ·exact⟨rfl,hs,p8⟩
  refine⟨rfl,hs,p8.b0,p8.b1,?_,p8.dE⟩;have uI:(dy g d).1.1.base=g.base:=(tV g d).2.1;show ∀s∈jQ (dy g d).1.1.bI x p,(dy g d).1.1.base<=s.file/\s.file<(dy g d).1.1.base+4096;exact cEk (P:=λf=>(dy g d).1.1.base<=f/\f<(dy g d).1.1.base+4096) p8.bI (by rw[uI];exact hx)
def aip(n:Int):∀(L:List dt) (d:DS),(∀s∈L,lo<=s.file/\s.file<hi)->dP lo hi A B d.R->iH L (dz A B d) n=(((iH L d n).1.1,dz A B (iH L d n).1.2),(iH L d n).2)/\dP lo hi A B (iH L d n).1.2.R
 | [],d,_,h=>⟨rfl,h⟩
 | [s],d,_,h=>⟨rfl,h⟩
 | s::t::r,d,hL,h=>by
  unfold iH;obtain⟨e,hw⟩:=J2 h (hL s (.head _)).1 (hL s (.head _)).2;split
  ·rw[e];simp only;split
   ·exact⟨rfl,hw⟩
   exact aip n (t::r) _ (λs hs=>hL s (.tail _ hs)) hw
  exact⟨rfl,h⟩
def aim{g:da}(hg:nN lo hi g)(h:dP lo hi A B d.R)(n:Int):iG g (dz A B d) n=(((iG g d n).1.1,dz A B (iG g d n).1.2),(iG g d n).2)/\dP lo hi A B (iG g d n).1.2.R/\nN lo hi (iG g d n).1.1:=by
 unfold iG;rw[show (dz A B d).off=d.off from rfl];split
 ·exact⟨rfl,h,hg⟩
 have h1:=hg.b0;have h2:=hg.b1;obtain⟨e,hw⟩:=aip n g.bI d (λs hs=>by have:=hg.bI s hs;omega) h;rw[e];exact⟨rfl,hw,hg.b0,hg.b1,λs hs=>hg.bI s ((Lh n g.bI d).1 s hs),hg.dE⟩
def cxx{M:List PF}{base:Int}(h:dP base (base+4096) A B M):fS base (A++M++B)=fS base M:=by
 have eA:(A.map PF.id).filter (λf=>decide (base<=f/\f<base+4096))=[]:=vvp.2 λf hf=>by
  obtain⟨x,hx,rfl⟩:=zzx.1 hf;have:=h.a x hx;simp;omega
 have eB:(B.map PF.id).filter (λf=>decide (base<=f/\f<base+4096))=[]:=vvp.2 λf hf=>by
  obtain⟨x,hx,rfl⟩:=zzx.1 hf;have:=h.b x hx;simp;omega
 unfold fS;rw[zzt,zzt,yyx,yyx,eA,eB,zzq,zz2]
def cAj{M:List PF}{L:List dt}{f:Int}{last:Bool}(h:dP lo hi A B M)(h1:lo<=f)(h2:f<hi):jl L (A++M++B) f last=jl L M f last:=by
 unfold jl;rw[h.get h1 h2]
def VY{M:List PF}(h:dP lo hi A B M):∀(ids:Ω) (prev:Option Int) (L:List dt) (wh:Bool),(∀f∈ids,lo<=f/\f<hi)->lU (A++M++B) ids prev L wh=lU M ids prev L wh
 | [],_,_,_,_=>rfl
 | f::r,prev,L,wh,hi=>by
  unfold lU;rw[cAj h (hi f (.head _)).1 (hi f (.head _)).2];simp only;rw[VY h r _ _ _ λf hf=>hi f (.tail _ hf)]
def Vh{M:List PF}{base f:Int}(h:f∈fS base M):base<=f/\f<base+4096:=by
 unfold fS at h;exact zzp (yy0.1 h).2
def aWr{L:List dt}{base:Int}{ids:Ω}{wh:Bool}(h:dP base (base+4096) A B d.R)(hi:∀f∈ids,base<=f/\f<base+4096):jC L (dz A B d) ids wh=(dz A B (jC L d ids wh).1,(jC L d ids wh).2)/\dP base (base+4096) A B (jC L d ids wh).1.R:=by
 unfold jC;cases hl:ids.getLast? with
 | none=>exact⟨rfl,h⟩
 | some f=>
  obtain⟨h1,h2⟩:=hi f (xx3 hl);simp only;split
  ·exact J2 h h1 h2
  rw[show (dz A B d).R=A++d.R++B from rfl,h.len h1 h2];split
  ·exact Ga h h1 h2 _
  exact⟨rfl,h⟩
def BI{base size:Int}(h:dP base (base+4096) A B d.R):ff (dz A B d) base size=(dz A B (ff d base size).1,(ff d base size).2)/\dP base (base+4096) A B (ff d base size).1.R:=by
 unfold ff;split
 ·exact⟨rfl,h⟩
 rw[show (dz A B d).off=d.off from rfl,show (dz A B d).R=A++d.R++B from rfl,cxx h,VY h _ _ _ _ λf hf=>Vh hf];split
 ·exact⟨rfl,h⟩
 split
 ·exact⟨rfl,h⟩
 rename_i L wh _;obtain⟨e,hw⟩:=aWr (L:=L) (wh:=wh) h λf hf=>Vh hf;rw[e];simp only;split
 ·exact⟨rfl,hw⟩
 exact⟨rfl,hw⟩
end
def Sw(A M B:List PF)(keep:Ω):e_ (A++M++B) keep=e_ A keep++e_ M (keep.drop A.length)++e_ B (keep.drop (A.length+M.length)):=by
 have hm:∀(L:List PF) (k:Nat),(L.mapIdx λi=>jh keep (i+k))=e_ L (keep.drop k):=λL k=>by
  unfold e_;congr 1
  funext i x
  unfold jh j6;rw[www,uu2 k i]
 conv=>lhs;unfold e_
 rw[uu4,uu4,zza,hm M A.length,hm B (A.length+M.length)];rfl
def Sy(R:List PF)(keep:Ω):(e_ R keep).map PF.id=R.map PF.id:=by
 unfold e_;refine xxy (by simp) λi h1 h2=>?_;rw[xx7,vv7,xx7];rfl
def DR{R:List PF}{keep:Ω}{y:PF}(h:y∈e_ R keep):∃x∈R,x.id=y.id:=by
 have h1:y.id∈(e_ R keep).map PF.id:=vv8 h;rw[Sy]at h1
 obtain⟨x,hx,e⟩:=zzx.1 h1;exact⟨x,hx,e⟩
def dP.eO{lo hi:Int}{A B M:List PF}(h:dP lo hi A B M)(keep k2 k3:Ω):dP lo hi (e_ A keep) (e_ B k3) (e_ M k2):=
 ⟨λx hx=>by obtain⟨y,hy,e⟩:=DR hx;rw[<- e];exact h.a y hy,λx hx=>by obtain⟨y,hy,e⟩:=DR hx;rw[<- e];exact h.m y hy,λx hx=>by obtain⟨y,hy,e⟩:=DR hx;rw[<- e];exact h.b y hy⟩
def fO(n:Nat)(l:List cM):iM:=(List.range n).map λt:Nat=>xm (t:Int) l
def rn(n:Nat)(l:List cM):(fO n l).length=n:=by unfold fO;simp
def aid{n:Nat}(l:List cM)(t:Nat)(h:t<n):gv (fO n l) t=xm (t:Int) l:=by
 rw[ow _ t (by rw[rn];exact h)];unfold fO;simp
def cJf{ts:iM}{c:d_}(h:iq ts.length c=true)(t:Nat)(ht:t<ts.length):gv (kz ts c) t=vu t (gv ts t) c:=by
 have hc:0<=c.table/\c.table<(ts.length:Int):=zzp h;rw[ow _ t (by rw[wP];exact ht)];unfold kz vu;rw[xxr];by_cases e:c.table=t
 ·rw[zzd (by omega),zzd e,e];rfl
 rw[zzb (by omega),zzb e,ow ts t ht]
def aib:∀{l:List d_} {ts:iM},(∀c∈l,iq ts.length c=true)->∀t:Nat,t<ts.length->gv (gd ts l) t=l.foldl (vu t) (gv ts t)
 | [],ts,_,t,_=>rfl
 | c::l,ts,h,t,ht=>by
  show gv (gd (kz ts c) l) t=_;rw[aib (λx hx=>by rw[wP];exact h x (.tail _ hx)) t (by rw[wP];exact ht),cJf (h c (.head _)) t ht];rfl
def cJk{a b:iM}(hl:a.length=b.length)(h:∀t:Nat,t<a.length->gv a t=gv b t):a=b:=
 xxy hl λt h1 h2=>by have:=h t h1;rw[ow a t h1,ow b t h2]at this;exact this
def G3{n:Nat}{l:List cM}{t:cM}(h:∀c∈t.changes,iq n c=true):gd (fO n l) t.changes=fO n (l++[t]):=by
 have hl:=rn n l;have h':∀c∈t.changes,iq (fO n l).length c=true:=λc hc=>by rw[hl];exact h c hc
 refine cJk (by rw[um,rn,rn]) λi hi=>?_;rw[um,hl]at hi
 rw[aib h' i (by rw[hl];exact hi),aid l i hi,aid _ i hi];unfold xm;simp
def Ld(n:Nat):fO n []=List.replicate n []:=by
 unfold fO xm;refine xxy (by simp) λi h1 h2=>by simp
structure s9(n:Nat)(all:List cM):Prop where
 may:∀t∈all,eG t=true
 aw:∀i (h:i<all.length),all[i].aw=(i:Int)+1
 ch:∀t∈all,∀c∈t.changes,iq n c=true
def Se{t:cM}(h:eG t=true):kQ (gz t)= .ok t:=Sf h
def Xg{n:Nat}{all:List cM}(h:s9 n all)(m:Nat):∀(k j:Nat),j+k=all.length->oT n m ((all.drop j).map gz) ((j:Int)+1) (fO n (all.take (max j m)))=some (fO n (all.take (max all.length m)))
 | 0,j,hj=>by
  rw[yy7 (by omega),show j=all.length by omega];rfl
 | k+1,j,hj=>by
  have hl:j<all.length:=by omega
  have ih:=Xg h m k (j+1) (by omega);have hm:=h.may _ (zzh hl);have mq:=h.ch _ (zzh hl);rw[yyq hl,zzr,oT,Se hm];simp only;rw[zzd ⟨h.aw j hl,λc hc=>(zzp (mq c hc)).2⟩];have e:(if (m:Int)<(j:Int)+1 then gd (fO n (all.take (max j m))) all[j].changes else fO n (all.take (max j m)))=fO n (all.take (max (j+1) m)):=by
   split
   ·rw[show max j m=j by omega,show max (j+1) m=j+1 by omega,G3 mq,zze hl]
   rw[show max j m=m by omega,show max (j+1) m=m by omega]
  rw[e,show (j:Int)+1+1=((j+1:Nat):Int)+1 by omega];exact ih
def aie{n:Nat}:∀(k:Nat) (l:List cM),l.length=k->(∀t∈l,eG t=true)->(∀t∈l,∀c∈t.changes,iq n c=true)->(∀C∈fO n l,nS C)
 | 0,l,hl,_,_=>by
  rw[zzl hl,Ld];intro C hC;rw[vvm hC];exact Xm
 | k+1,l,hl,h1,h2=>by
  have dO:l≠[]:=λe=>by rw[e]at hl;cases hl
  obtain⟨l',t,rfl⟩:∃l' t,l=l'++[t]:=⟨l.dropLast,l.getLast dO,(List.dropLast_concat_getLast dO).symm⟩;have mq:=h2 t (by simp);rw[zza,yyc]at hl
  rw[<- G3 mq];exact HP (k:=8) (aie k l' (by omega) (λx hx=>h1 x (by simp[hx])) λx hx=>h2 x (by simp[hx])) (λc hc=>(my (h1 t (by simp))).2.2.2.2.2.1 c hc) λc hc=>by rw[rn];exact mq c hc
def Le{n:Nat}{l:List cM}(h1:∀t∈l,eG t=true)(h2:∀t∈l,∀c∈t.changes,iq n c=true):∀C∈fO n l,nS C:=aie l.length l rfl h1 h2
def aiq(k:Int):∀(L:List dt) (f n:Int) (d:DS),gP f n L->d.R=L.map eI->d.off=false->0<=d.arm->0<=f->f+L.length<=16384 ->
  ∃d' i e,iH L d k=((L.drop i,d'),e)/\(i<L.length\/i=0)/\d'.R=(L.drop i).map eI/\(i=0\/n+(cX (L.take i)).length<=k+1)/\d'.ops<=d.ops+L.length/\0<=d'.arm/\d'.arm<=d.arm /\
   ((e=0/\d'.off=false/\(d.arm=0->d'.arm=0))\/(e=8/\d'.off=true/\d.arm≠0))
 | [],f,n,d,_,hR,ho,ha,_,_=>⟨d,0,0,rfl,.inr rfl,hR,.inl rfl,by simp,ha,yyf _,.inl ⟨rfl,ho,λh=>h⟩⟩
 | [s],f,n,d,_,hR,ho,ha,_,_=>⟨d,0,0,rfl,.inr rfl,hR,.inl rfl,by simp,ha,yyf _,.inl ⟨rfl,ho,λh=>h⟩⟩
 | s::t::L,f,n,d,hc,hR,ho,ha,h0,h1=>by
  have sN:=hc.te.sorted;obtain⟨c1,c2,c3,c4,c5,c6⟩:=hc;rw[iH];by_cases hk:s.next-1<=k
  ·rw[zzd hk];have nz:d.find s.file=0:=by
    unfold DS.find;have hm:may d s.file=0:=by
     unfold may;rw[zzb (by simp[ho]),zzb (by simp at h1;omega)]
    rw[zzb (by simp[hm]),hR,zzd];exact (x' sN).2 ⟨eI s,by simp,rfl⟩
   by_cases A3:d.arm=1
   ·have xV:d.remove s.file=(d.cK,8):=by
     unfold DS.remove;rw[zzb (by simp[nz]),zzd (by simp[DS.cK,A3])]
    rw[xV];exact⟨d.cK,0,8,by rw[zzd (by simp)];rfl,.inr rfl,hR,.inl rfl,by simp only[DS.cK,zzj];omega,by simp[DS.cK,A3],by simp[DS.cK,A3],.inr ⟨rfl,by simp[DS.cK,A3],by omega⟩⟩
   have xV:d.remove s.file=({d.cK with R:=(t::L).map eI},0):=by
    unfold DS.remove;rw[zzb (by simp[nz]),zzb (by simp[DS.cK,A3])];have:jN PF.id d.R s.file=(t::L).map eI:=by rw[hR];exact bFv (x:=eI s) sN
    rw[this]
   rw[xV];have T2:0<=d.cK.arm/\d.cK.arm<=d.arm:=by
    simp only[DS.cK];split<;>omega
   obtain⟨d',i,e,r1,r2,r3,r6,r7,r8,KP,r9⟩:=aiq k (t::L) (f+1) (n+s.l.length) {d.cK with R:=(t::L).map eI} c6 rfl (by simp[DS.cK,A3]) T2.1 (by omega) (by simp at h1 ⊢;omega);refine⟨d',i+1,e,by rw[zzb (by simp)];exact r1,?_,r3,.inr ?_,?_,r8,ttk KP T2.2,?_⟩
   ·rcases r2 with r2|r2
    ·exact .inl (by simp at r2 ⊢;omega)
    exact .inl (by simp;omega)
   ·rw[xxz,pR,zza];rcases r6 with r6|r6
    ·subst r6;simp only[dt.next,c2]at hk;simp[cX];omega
    omega
   ·simp only[DS.cK,zzj]at r7 ⊢;omega
   have hz:({d.cK with R:=(t::L).map eI}:DS).arm=d.cK.arm:=rfl;rcases r9 with ⟨e1,e2,e3⟩|⟨e1,e2,e3⟩
   ·exact .inl ⟨e1,e2,λh=>e3 (by rw[hz];simp[DS.cK,h])⟩
   exact .inr ⟨e1,e2,λh=>e3 (by rw[hz];simp[DS.cK,h])⟩
  rw[zzb hk];exact⟨d,0,0,rfl,.inr rfl,hR,.inl rfl,by omega,ha,yyf _,.inl ⟨rfl,ho,λh=>h⟩⟩
structure Laid(g:da)(d:DS)(f n:Int)(es:List Φ):Prop where
 chain:gP f n g.bI
 gG:cX g.bI=es
 files:d.R=g.bI.map eI
 nil:g.bI=[]->f=g.base/\n=1
 base:g.base<=f
 b0:0<=g.base
 b1:g.base<=12288
 s0:64<=g.size
 s1:g.size<=65536
 n1:1<=n
 fi:f+es.length+2<=g.base+4096
 dE:g.dE=none
def gI.laid{g:da}{d:DS}{f n:Int}{es:List Φ}(h:gI g d f n es):Laid g d f n es:=⟨h.chain,h.gG,h.files,h.nil,h.base,h.b0,h.b1,h.s0,h.s1,h.n1,h.fi,h.dE⟩
def Laid.inv{g:da}{d:DS}{f n:Int}{es:List Φ}(h:Laid g d f n es)(ho:d.off=false):gI g d f n es:=⟨h.chain,h.gG,h.files,h.nil,h.base,h.b0,h.b1,h.s0,h.s1,h.n1,h.fi,ho,h.dE⟩
def Laid.s4{g:da}{d d':DS}{f n:Int}{es:List Φ}(h:Laid g d f n es)(hR:d'.R=d.R):Laid g d' f n es:=⟨h.chain,h.gG,hR.trans h.files,h.nil,h.base,h.b0,h.b1,h.s0,h.s1,h.n1,h.fi,h.dE⟩
def cKm{g:da}{d:DS}{f n:Int}{es:List Φ}(h:gI g d f n es)(ha:0<=d.arm)(k:Int)(xE:f+es.length+1<=16384):
  ∃(g':da) (d':DS) (f':Int) (i:Nat) (e:Int),iG g d k=((g',d'),e)/\Laid g' d' f' (n+i) (es.drop i)/\i<=es.length/\(g.bI≠[]->g'.bI≠[])/\(∀s∈g'.bI,s∈g.bI)/\(i=0\/n+i<=k+1)/\d'.ops<=d.ops+g.bI.length/\g'.base=g.base/\g'.size=g.size/\f<=f'/\f'<=f+i/\0<=d'.arm/\d'.arm<=d.arm /\
   ((e=0/\d'.off=false/\(d.arm=0->d'.arm=0))\/(e=8/\d'.off=true/\d.arm≠0)):=by
 have hle:=h.chain.sQ;rw[h.gG]at hle
 have hb:=h.base;have tG:=h.b0;obtain⟨d',i,e,r1,r2,r3,r6,r7,r8,KP,r9⟩:=aiq k g.bI f n d h.chain h.files h.off ha (by omega) (by omega);have FB:=h.chain;rw[<- yyk i g.bI]at FB
 obtain⟨k1,k2,k3⟩:=gP.app.1 FB;have Ue:cX (g.bI.take i)++cX (g.bI.drop i)=es:=by rw[<- xf,yyk,h.gG]
 have vN:(cX (g.bI.take i)).length+(cX (g.bI.drop i)).length=es.length:=by rw[<- Ue,zza]
 have cG:(g.bI.take i).length=i:=by
  rw[zzg];rcases r2 with r2|r2<;>omega
 have dO:g.bI≠[]->g.bI.drop i≠[]:=λhn e=>by
  have:=yy1 List.length e;rw[zzs]at this
  simp at this;rcases r2 with r2|r2
  ·omega
  subst r2;exact hn (zzl (by omega))
 have hi:i<=(cX (g.bI.take i)).length:=by
  by_cases hd:g.bI.drop i=[]
  ·rcases r2 with r2|r2
   ·have:=yy1 List.length hd;rw[zzs]at this;simp at this;omega
   omega
  have hA:=k2 hd;have gen:∀A:List dt,(∀s∈A,s.l≠[])->A.length<=(cX A).length:=by
   intro A;induction A with
   | nil=>intro _;simp
   | cons a A ih=>
    intro hA;have h0:a.l.length≠0:=λe=>hA a (.head _) (zzl e);have:=ih λs hs=>hA s (.tail _ hs);rw[pR,zza,zzj];omega
  have:=gen _ hA;rw[cG]at this;exact this
 have cnb:es.drop (cX (g.bI.take i)).length=cX (g.bI.drop i):=by rw[<- Ue,ww2]
 refine⟨{g with bI:=g.bI.drop i},d',f+(g.bI.take i).length,(cX (g.bI.take i)).length,e,?_,⟨k3,cnb.symm,r3,λe=>?_,by show g.base<=_;omega,h.b0,h.b1,h.s0,h.s1,by have:=h.n1;omega,?_,h.dE⟩,by omega,dO,λs hs=>vvz hs,?_,r7,rfl,rfl,by omega,by rw[cG];omega,r8,KP,r9⟩
 ·unfold iG;rw[zzb (by simp[h.off]),r1]
 ·have:g.bI=[]:=Classical.byContradiction λhn=>dO hn e;have h2:=h.nil this;rw[this];simp[cX,h2]
 ·have:=h.fi;have e:(es.drop (cX (g.bI.take i)).length).length=es.length-(cX (g.bI.take i)).length:=zzs;show f+((g.bI.take i).length:Int)+((es.drop (cX (g.bI.take i)).length).length:Int)+2<=g.base+4096;rw[e];omega
 rcases r6 with r6|r6
 ·subst r6;left;simp[cX]
 exact .inr r6
def Laid.open{g:da}{d:DS}{f n:Int}{es:List Φ}(h:Laid g d f n es)(keep:Ω)(n2:n+es.length<=1099511627776){size:Int}(s0:64<=size)(s1:size<=65536):
  ff (d.eO keep) g.base size=(d.eO keep,.ok ⟨g.bI,g.base,size,none⟩)/\gI ⟨g.bI,g.base,size,none⟩ (d.eO keep) f n es:=by
 have hR:(d.eO keep).R=g.bI.map eI:=by
  show e_ d.R keep=_;rw[h.files,Sx]
 have hle:=h.chain.sQ;rw[h.gG]at hle
 have tH:=h.fi;exact⟨Kw h.chain hR rfl h.b0 h.b1 s0 s1 h.base (by omega) h.n1 (by rw[h.gG];exact n2),h.chain,h.gG,hR,h.nil,h.base,h.b0,h.b1,s0,s1,h.n1,h.fi,rfl,rfl⟩
structure mc(R R':List PF)(x:PF):Prop where
 sorted:fN PF.id R'
 x_:x∈R'
 other:∀y,y.id≠x.id->(y∈R'↔y∈R)
def cBk(R:List PF)(x:PF):x∈gb PF.id R x:=by unfold gb;simp
def X5{R:List PF}(hs:fN PF.id R){x y:PF}(hx:x∈R)(hy:y∈R)(e:x.id=y.id):x=y:=by
 have h1:=tw hs hx;have h2:=tw hs hy;rw[e,h2]at h1
 exact (wwe h1).symm
def mc.put{R:List PF}(hs:fN PF.id R)(x:PF):mc R (gb PF.id R x) x:=by
 refine⟨GB hs x,cBk R x,λy hy=>⟨λh=>?_,λh=>?_⟩⟩
 ·rcases BF h with rfl|h
  ·exact absurd rfl hy
  exact h
 cases hi:iE PF.id R x.id with
 | false=>exact (KL hs hi).mem_iff.2 (.tail _ h)
 | true=>
  obtain⟨hl,hk⟩:=tT hi;rw[GA hi];obtain⟨j,hj,rfl⟩:=yyl h;have dO:fz PF.id R x.id≠j:=λe=>by subst e;exact hy hk
  have:(R.set (fz PF.id R x.id) x)[j]'(by simpa using hj)=R[j]:=List.getElem_set_ne dO _;rw[<- this];exact zzh _
def mc.trans{R R1 R2:List PF}{x y:PF}(h1:mc R R1 x)(h2:mc R1 R2 y)(e:x.id=y.id):mc R R2 y:=
 ⟨h2.sorted,h2.x_,λz hz=>(h2.other z hz).trans (h1.other z (by rw[e];exact hz))⟩
def mc.mem{R R':List PF}{x y:PF}(h:mc R R' x)(hy:y∈R'):y=x\/(y∈R/\y.id≠x.id):=by
 by_cases e:y.id=x.id
 ·exact .inl (X5 h.sorted hy h.x_ e)
 exact .inr ⟨(h.other y e).1 hy,e⟩
def aiv{R:List PF}{f:Int}{x:PF}(h:dS PF.id R f=some x)(g:PF->PF):ku R f g=gb PF.id R {g x with id:=f}:=by
 unfold ku;rw[h]
def V8{d:DS}{f:Int}(f0:0<=f)(f1:f<16384)(h:d.off=false):may d f=0:=by
 unfold may;rw[zzb (by simp[h]),zzb (by omega)]
def bwg(d:DS)(h:0<=d.arm):0<=d.cK.arm/\d.cK.arm<=d.arm/\d.cK.ops=d.ops+1:=by
 refine⟨?_,?_,rfl⟩
 ·simp only[DS.cK];split<;>omega
 simp only[DS.cK];split<;>omega
def To{d:DS}{f:Int}(hs:fN PF.id d.R)(f0:0<=f)(f1:f<16384)(h:d.off=false){x:PF}(hx:x∈d.R)(e:x.id=f):d.find f=0:=by
 unfold DS.find;rw[V8 f0 f1 h,zzb (by decide),zzd ((x' hs).2 ⟨x,hx,e⟩)]
def bF3{d:DS}{f:Int}{b:Φ}(h:gH d.R f<0):kR d f b=if (d.append f b).2≠0 then d.append f b else (d.append f b).1.sync f:=by
 unfold kR;rw[zzb (show ¬0<=gH d.R f by omega)];simp only;rw[zzb (show ¬((0:Int)≠0) by decide)]
def bF2{d:DS}{f:Int}{b:Φ}(h:0<=gH d.R f):kR d f b=if (d.cut f 0).2≠0 then d.cut f 0 else if ((d.cut f 0).1.append f b).2≠0 then (d.cut f 0).1.append f b else ((d.cut f 0).1.append f b).1.sync f:=by
 unfold kR;rw[zzd h]
def bF1{d:DS}(hs:fN PF.id d.R){f:Int}(f0:0<=f)(f1:f<16384)(ho:d.off=false)(ha:0<=d.arm)(b:Φ):
  (∃d',kR d f b=(d',0)/\mc d.R d'.R ⟨f,b.length,b⟩/\d'.off=false/\0<=d'.arm/\d'.arm<=d.arm/\d'.ops<=d.ops+3) \/
  (∃d',kR d f b=(d',8)/\d'.off=true/\d.arm≠0/\0<=d'.arm/\d'.arm<=d.arm/\d'.ops<=d.ops+3/\(d'.R=d.R\/∃pre,(pre=[]\/pre=b)/\mc d.R d'.R ⟨f,0,pre⟩)):=by
 have ki:∀{d:DS},d.off=false->may d f=0:=λ{d} h=>V8 f0 f1 h;have sF:∀d:DS,0<=d.arm->0<=d.cK.arm/\d.cK.arm<=d.arm/\d.cK.ops=d.ops+1:=bwg;have jc:∀d:DS,d.cK.off=true->d.arm=1:=λd h=>by simpa [DS.cK] using h
 have jD:∀(d1:DS),fN PF.id d1.R->d1.off=false->0<=d1.arm->(dS PF.id d1.R f=none\/dS PF.id d1.R f=some ⟨f,0,[]⟩) ->
   (∃d',(if (d1.append f b).2≠0 then d1.append f b else (d1.append f b).1.sync f)=(d',0)/\mc d1.R d'.R ⟨f,b.length,b⟩/\d'.off=false/\0<=d'.arm/\d'.arm<=d1.arm/\d'.ops<=d1.ops+2) \/
   (∃d',(if (d1.append f b).2≠0 then d1.append f b else (d1.append f b).1.sync f)=(d',8)/\d'.off=true/\d1.arm≠0/\0<=d'.arm/\d'.arm<=d1.arm/\d'.ops<=d1.ops+2/\mc d1.R d'.R ⟨f,0,b⟩):=by
  intro d1 vZ vV mo hg;obtain⟨c1,c2,c3⟩:=sF d1 mo;have tD:kP d1.R f b=gb PF.id d1.R ⟨f,0,b⟩:=by
   unfold kP;rcases hg with hg|hg<;>rw[hg]<;>rfl
  have e1:d1.append f b=({d1.cK with R:=gb PF.id d1.R ⟨f,0,b⟩},d1.cK.err):=by
   unfold DS.append;rw[zzb (by simp[ki vV]),tD]
  have hS:=mc.put vZ ⟨f,0,b⟩;rw[e1];cases hc:d1.cK.off with
  | true=>
   right;have:=jc d1 hc;exact⟨{d1.cK with R:=gb PF.id d1.R ⟨f,0,b⟩},by simp[DS.err,hc],hc,by omega,c1,c2,by show d1.cK.ops<=_;omega,hS⟩
  | false=>
   have he:d1.cK.err=0:=by simp[DS.err,hc]
   rw[he,zzb (by simp)];obtain⟨k1,k2,k3⟩:=sF d1.cK c1;have sI:dS PF.id (gb PF.id d1.R ⟨f,0,b⟩) f=some ⟨f,0,b⟩:=tw hS.sorted hS.x_;have nz:({d1.cK with R:=gb PF.id d1.R ⟨f,0,b⟩}:DS).find f=0:=To (d:={d1.cK with R:=gb PF.id d1.R ⟨f,0,b⟩}) hS.sorted f0 f1 hc hS.x_ rfl;have I7:({d1.cK with R:=gb PF.id d1.R ⟨f,0,b⟩}:DS).cK={d1.cK.cK with R:=gb PF.id d1.R ⟨f,0,b⟩}:=rfl;unfold DS.sync;rw[zzb (by rw[nz];simp),I7];cases ju:d1.cK.cK.off with
   | true=>
    right;have h1:=jc d1.cK ju;have h2:d1.arm≠0:=λe=>by rw[show d1.cK.arm=0 by simp[DS.cK,e]]at h1;cases h1
    exact⟨{d1.cK.cK with R:=gb PF.id d1.R ⟨f,0,b⟩},by simp[ju],ju,h2,k1,ttk k2 c2,by show d1.cK.cK.ops<=_;omega,hS⟩
   | false=>
    left;refine⟨{d1.cK.cK with R:=gb PF.id (gb PF.id d1.R ⟨f,0,b⟩) ⟨f,b.length,b⟩},by simp[ju,aiv sI],?_,ju,k1,ttk k2 c2,by show d1.cK.cK.ops<=_;omega⟩;exact hS.trans (mc.put hS.sorted ⟨f,b.length,b⟩) rfl
 cases hg:dS PF.id d.R f with
 | none=>
  have hl:gH d.R f = -1:=by unfold gH;rw[hg]
  rw[bF3 (by omega)];rcases jD d hs ho ha (.inl hg) with ⟨d',e,h1,h2,h3,h4,h5⟩|⟨d',e,h1,h2,h3,h4,h5,h6⟩
  ·exact .inl ⟨d',e,h1,h2,h3,h4,by omega⟩
  exact .inr ⟨d',e,h1,h2,h3,h4,by omega,.inr ⟨b,.inr rfl,h6⟩⟩
 | some x=>
  have hx:=uA hg;have hl:gH d.R f=(x.b.length:Int):=by unfold gH;rw[hg]
  obtain⟨c1,c2,c3⟩:=sF d ha;have nz:d.find f=0:=To hs f0 f1 ho hx.1 hx.2;rw[bF2 (by omega)];have C8:d.cut f 0=if d.cK.off=true then (d.cK,8) else ({d.cK with R:=ku d.R f (jr (0:Int).toNat)},0):=by
   unfold DS.cut;rw[zzb (show ¬d.find f≠0 by rw[nz];decide),zzb (show ¬((0:Int)<0\/gH d.R f<0) by omega)]
  rw[C8];cases hc:d.cK.off with
  | true=>
   right;have:=jc d hc;exact⟨d.cK,by simp,hc,by omega,c1,c2,by omega,.inl rfl⟩
  | false=>
   have hu:ku d.R f (jr (0:Int).toNat)=gb PF.id d.R ⟨f,0,[]⟩:=by
    rw[aiv hg];simp[jr]
   have hS:=mc.put hs ⟨f,0,[]⟩;have sI:dS PF.id (gb PF.id d.R ⟨f,0,[]⟩) f=some ⟨f,0,[]⟩:=tw hS.sorted hS.x_;rw[hu,zzb (show ¬(false=true) by decide)];generalize pj:({d.cK with R:=gb PF.id d.R ⟨f,0,[]⟩}:DS)=d1;rw[zzb (show ¬((0:Int)≠0) by decide)];have jP:d1.R=gb PF.id d.R ⟨f,0,[]⟩:=by rw[<- pj]
   have vV:d1.off=false:=by rw[<- pj];exact hc
   have mo:d1.arm=d.cK.arm:=by rw[<- pj]
   have nZ:d1.ops=d.cK.ops:=by rw[<- pj]
   rcases jD d1 (by rw[jP];exact hS.sorted) vV (by omega) (.inr (by rw[jP];exact sI)) with ⟨d',e,h1,h2,h3,h4,h5⟩|⟨d',e,h1,h2,h3,h4,h5,h6⟩
   ·rw[jP]at h1
    exact .inl ⟨d',e,hS.trans h1 rfl,h2,h3,by omega,by omega⟩
   rw[jP]at h6
   refine .inr ⟨d',e,h1,λea=>h2 ?_,h3,by omega,by omega,.inr ⟨b,.inr rfl,hS.trans h6 rfl⟩⟩;rw[mo];simp[DS.cK,ea]
def aWq(n:Nat)(x:PF):Prop:=∀y,kC x.b=some y->y.2.length≠n
structure mG(n:Nat)(all:List cM)(I:List PF)(eh:Int)(m:Nat):Prop where
 sorted:fN PF.id I
 ids:∀x∈I,x.id=0\/x.id=1
 safe:∀x∈I,x.safe=x.b.length
 none_:eh = -1->m=0
 new:eh = -1\/eh=0\/eh=1
 le:m<=all.length
 some_:eh≠-1->∃x∈I,x.id=eh/\x.b=dm (jw m (fO n (all.take m)))
 other:∀x∈I,x.id≠eh->aWq n x\/∃y,kC x.b=some y/\y.1<m/\eh≠-1
def cx3{R:List PF}(hs:fN PF.id R){n:Nat}{f:Int}:iQ R n f=none\/∃x∈R,x.id=f/\∃y,kC x.b=some y/\y.2.length=n/\iQ R n f=some y:=by
 unfold iQ;cases hg:dS PF.id R f with
 | none=>exact .inl rfl
 | some x=>
  have hx:=uA hg;simp only;cases hd:kC x.b with
  | none=>exact .inl rfl
  | some y=>
   simp only;by_cases hl:y.2.length=n
   ·exact .inr ⟨x,hx.1,hx.2,y,hd,hl,by rw[zzd hl]⟩
   exact .inl (zzb hl)
def cx4{R:List PF}(hs:fN PF.id R){n:Nat}{x:PF}(hx:x∈R){y:Int × iM}(hd:kC x.b=some y)(hl:y.2.length=n):iQ R n x.id=some y:=by
 unfold iQ;rw[tw hs hx];simp only[hd];rw[zzd hl]
def mG.load{n:Nat}{all:List cM}{I:List PF}{eh:Int}{m:Nat}(h:mG n all I eh m)(hm:∀j,j<=all.length->jo j (fO n (all.take j))=true):lB I n=(eh,(m:Int),fO n (all.take m)):=by
 have hn:eh≠-1->iQ I n eh=some ((m:Int),fO n (all.take m)):=λdO=>by
  obtain⟨x,hx,hf,hb⟩:=h.some_ dO;rw[<- hf];exact cx4 h.sorted hx (by rw[hb];exact SI (hm m h.le)) (rn _ _)
 have ho:∀f,f≠eh->iQ I n f=none\/∃y,iQ I n f=some y/\y.1<m/\eh≠-1:=λf hf=>by
  rcases cx3 h.sorted (n:=n) (f:=f) with e|⟨x,hx,Bu,y,h1,h2,h3⟩
  ·exact .inl e
  rcases h.other x hx (by rw[Bu];exact hf) with hb|⟨z,hz,h4,h5⟩
  ·exact absurd h2 (hb y h1)
  rw[h1]at hz;cases hz
  exact .inr ⟨y,h3,h4,h5⟩
 unfold lB;rcases h.new with e|e|e
 ·have Uy:=h.none_ e;have o0:iQ I n 0=none:=by
   rcases ho 0 (by rw[e];decide) with h1|⟨_,_,_,h1⟩
   ·exact h1
   exact absurd e h1
  have o1:iQ I n 1=none:=by
   rcases ho 1 (by rw[e];decide) with h1|⟨_,_,_,h1⟩
   ·exact h1
   exact absurd e h1
  unfold gA;rw[o0,o1,e,Uy];simp only[uu3,Ld];rfl
 ·have hn:=hn (by rw[e];decide);rw[e]at hn
  have h0:gA I n 0 (-1,0,List.replicate n [])=(0,(m:Int),fO n (all.take m)):=by
   unfold gA;rw[hn];simp
  rw[h0,e];unfold gA;rcases ho 1 (by rw[e];decide) with h1|⟨y,h1,h2,_⟩
  ·rw[h1]
  rw[h1];simp only;rw[zzd ⟨by decide,by omega⟩]
 have hn:=hn (by rw[e];decide);rw[e]at hn
 rcases ho 0 (by rw[e];decide) with h1|⟨y,h1,h2,_⟩
 ·have h0:gA I n 0 (-1,0,List.replicate n [])=(-1,0,List.replicate n []):=by unfold gA;rw[h1]
  rw[h0,e];unfold gA;rw[hn];simp
 have h0:gA I n 0 (-1,0,List.replicate n [])=(0,y.1,y.2):=by unfold gA;rw[h1];simp
 rw[h0,e];unfold gA;rw[hn];simp only;rw[zzb (by omega)]
def mG.drawn{n:Nat}{all:List cM}{I I':List PF}{eh:Int}{m:Nat}(h:mG n all I eh m)(hm:∀j,j<=all.length->jo j (fO n (all.take j))=true)(dj:m<all.length){f:Int}(hf:f=if eh=0 then 1 else 0){x:PF}(hx:x.id=f)(hs:x.safe=x.b.length)
  (hb:x.b=dm (jw all.length (fO n all))) (hI:mc I I' x):mG n all I' f all.length:=by
 have FG:f=0\/f=1:=by rw[hf];split<;>simp
 have FI:f≠eh:=by
  rw[hf];rcases h.new with e|e|e<;>rw[e]<;>decide
 have dO:f≠-1:=by omega
 refine⟨hI.sorted,λy hy=>?_,λy hy=>?_,λe=>absurd e dO,.inr FG,zzi _,λ_=>⟨x,hI.x_,hx,by rw[zz0];exact hb⟩,λy hy hyf=>?_⟩
 ·rcases hI.mem hy with rfl|⟨hy,_⟩
  ·omega
  exact h.ids y hy
 ·rcases hI.mem hy with rfl|⟨hy,_⟩
  ·exact hs
  exact h.safe y hy
 rcases hI.mem hy with rfl|⟨hy,_⟩
 ·exact absurd hx hyf
 by_cases e:y.id=eh
 ·have rI:eh≠-1:=λe1=>by rcases h.ids y hy with h2|h2<;>omega
  obtain⟨z,hz,DF,JV⟩:=h.some_ rI;have:y=z:=X5 h.sorted hy hz (by rw[e,DF]);subst this;exact .inr ⟨_,by rw[JV];exact SI (hm m h.le),by show (m:Int)<_;omega,dO⟩
 rcases h.other y hy e with rF|⟨z,h1,h2,h3⟩
 ·exact .inl rF
 exact .inr ⟨z,h1,by omega,dO⟩
def bFj{p:Φ}(hp:p.length<=1048576){k:Nat}(hk:k<(dm p).length):kC ((dm p).take k)=none:=by
 rw[kJ]at hk
 obtain⟨e,h,_⟩:=aif hp (k:=k) (by omega);unfold kC;rw[h]
def SA{I:List PF}(h:∀x∈I,x.safe=x.b.length)(keep:Ω):e_ I keep=I:=by
 have:=Ic I [] keep h;simpa using this
def cBi{R:List PF}{keep:Ω}{y:PF}(h:y∈e_ R keep):∃i,∃x∈R,y=jh keep i x:=by
 unfold e_ at h;obtain⟨i,hi,rfl⟩:=yyl h;rw[vv7];exact⟨i,_,zzh _,rfl⟩
def Sz{R:List PF}{keep:Ω}{x:PF}(h:x∈R):∃i,jh keep i x∈e_ R keep:=by
 obtain⟨i,hi,rfl⟩:=yyl h;refine⟨i,?_⟩;have:(e_ R keep)[i]'(by unfold e_;simpa using hi)=jh keep i R[i]:=by unfold e_;rw[vv7]
 rw[<- this];exact zzh _
def Su{keep:Ω}{i:Nat}{x:PF}(h:x.safe=x.b.length):jh keep i x=x:=by
 have h1:=CG (keep:=keep) (i:=i) (x:=x) (by omega);have h2:=EZ (keep:=keep) (i:=i) (x:=x) (by omega);have h3:=Ad (keep:=keep) (i:=i) (x:=x) (by omega);have h4:j6 keep i x=0:=by omega
 unfold jh;rw[h4,xxp,h,zz0,Nat.min_self,<- h]
def cIf{R:List PF}(h:fN PF.id R)(keep:Ω):fN PF.id (e_ R keep):=by
 have h1:(R.map PF.id).Pairwise (· < ·):=ww4.2 h;rw[<- Sy R keep]at h1
 exact ww4.1 h1
def mG.eO{n:Nat}{all:List cM}{I I':List PF}{eh:Int}{m:Nat}(h:mG n all I eh m)(hm:∀j,j<=all.length->jo j (fO n (all.take j))=true)(dj:m<all.length)(keep:Ω)
  (hI:I'=I\/∃pre,(pre=[]\/pre=dm (jw all.length (fO n all)))/\mc I I' ⟨if eh=0 then 1 else 0,0,pre⟩):∃cB5 m',mG n all (e_ I' keep) cB5 m'/\m<=m':=by
 rcases hI with rfl|⟨pre,p_,hI⟩
 ·exact⟨eh,m,by rw[SA h.safe];exact h,zzi _⟩
 obtain⟨i,hi⟩:=Sz (keep:=keep) hI.x_;generalize hx:jh keep i ⟨if eh=0 then 1 else 0,0,pre⟩=x at hi;have DD:x.id=if eh=0 then 1 else 0:=by rw[<- hx];rfl
 have mU:x.b.length=0+j6 keep i ⟨if eh=0 then 1 else 0,0,pre⟩:=by rw[<- hx];exact CG (x:=⟨_,0,pre⟩) (zz4 _)
 have oO:x.safe=0+j6 keep i ⟨if eh=0 then 1 else 0,0,pre⟩:=by rw[<- hx];exact EZ (x:=⟨_,0,pre⟩) (zz4 _)
 have DE:x.safe=x.b.length:=by omega
 have JS:x.b=pre.take (0+j6 keep i ⟨if eh=0 then 1 else 0,0,pre⟩):=by rw[<- hx];rfl
 have Bn:mc I (e_ I' keep) x:=by
  refine⟨cIf hI.sorted keep,hi,λy hy=>⟨λhc=>?_,λhc=>?_⟩⟩
  ·obtain⟨j,z,hz,e⟩:=cBi hc;have cxr:z.id=y.id:=by rw[e];rfl
   have Ve:=(hI.other z (by rw[cxr,<- DD];exact hy)).1 hz;rw[Su (h.safe z Ve)]at e
   rw[e];exact Ve
  have hyI:=(hI.other y (by rw[<- DD];exact hy)).2 hc;obtain⟨j,hj⟩:=Sz (keep:=keep) hyI;rw[Su (h.safe y hc)]at hj
  exact hj
 by_cases hw:x.b=dm (jw all.length (fO n all))
 ·exact⟨_,_,h.drawn hm dj rfl DD DE hw Bn,by omega⟩
 have b_8:kC x.b=none:=by
  have Uz:=hm all.length (zzi _);rw[zz0]at Uz
  have hlen:=By Uz;rcases p_ with e|e
  ·rw[JS,e,List.take_nil];rfl
  rw[JS,e];refine bFj (by omega) (Nat.lt_of_not_le λxG=>hw ?_);rw[JS,e,zz7 xG]
 refine⟨eh,m,⟨Bn.sorted,λy hy=>?_,λy hy=>?_,h.none_,h.new,h.le,λdO=>?_,λy hy Bw=>?_⟩,zzi _⟩
 ·rcases Bn.mem hy with rfl|⟨hy,_⟩
  ·rw[DD];split<;>simp
  exact h.ids y hy
 ·rcases Bn.mem hy with rfl|⟨hy,_⟩
  ·exact DE
  exact h.safe y hy
 ·obtain⟨z,hz,DF,JV⟩:=h.some_ dO;refine⟨z,(Bn.other z ?_).2 hz,DF,JV⟩;rw[DF,DD];rcases h.new with e|e|e<;>rw[e]<;>decide
 rcases Bn.mem hy with rfl|⟨hy,_⟩
 ·exact .inl λy h1=>by rw[b_8]at h1;cases h1
 exact h.other y hy Bw
def As(n:Nat)(all:List cM):Prop:=∀j,j<=all.length->jo j (fO n (all.take j))=true
structure jg(n:Nat)(k:cW)(all:List cM)(tr:Nat)(I:List PF)(d0:DS)(f:Int)(lo m:Nat):Prop where
 rC:k.d=dz I [] d0
 cI:dP 16 4112 I [] d0.R
 log:Laid k.g d0 f ((lo:Int)+1) ((all.drop lo).map gz)
 base:k.g.base=16
 kV:mG n all I k.eh m
 image:k.image=m
 u_:lo<=m
 sR:lo<=tr
 ts:k.ts=fO n all
 file:f<=16+lo
def mG.mono{n:Nat}{all:List cM}{I:List PF}{eh:Int}{m:Nat}(h:mG n all I eh m)(l:List cM):mG n (all++l) I eh m:=
 ⟨h.sorted,h.ids,h.safe,h.none_,h.new,by have:=h.le;rw[zza];omega,λhn=>by rw[xxg h.le];exact h.some_ hn,h.other⟩
def cAl{I M:List PF}(hI:∀x∈I,x.id=0\/x.id=1)(hM:∀x∈M,16<=x.id)(n:Nat):lB (I++M++[]) n=lB I n:=by
 have hw:dP 0 16 [] M I:=⟨by simp,λx hx=>by rcases hI x hx with h|h<;>omega,hM⟩;have hg:∀f:Int,0<=f->f<16->iQ (I++M++[]) n f=iQ I n f:=λf h0 h1=>by
  unfold iQ;have:=hw.get h0 h1;rw[zzq]at this
  rw[zz2,this]
 unfold lB gA;rw[hg 0 (by decide) (by decide),hg 1 (by decide) (by decide)]
def cFw{n:Nat}{all:List cM}(h:s9 n all){lo m:Nat}(h1:lo<=m)(h2:m<=all.length):oT n m ((all.drop lo).map gz) ((lo:Int)+1) (fO n (all.take m))=some (fO n all):=by
 have:=Xg h m (all.length-lo) lo (by omega);rw[show max lo m=m by omega,show max all.length m=all.length by omega,zz0]at this
 exact this
def WN{n:Nat}(n1:1<=n)(n8:n<=8){all:List cM}(ht:s9 n all)(hi:As n all){I:List PF}{d1 d2:DS}{g:da}{size:Int}(ho:ff d1 16 size=(d2,.ok g))(hw:dP 16 4112 I [] d1.R){f eh:Int}{lo m tr:Nat}
  (hl:gI g d2 f ((lo:Int)+1) ((all.drop lo).map gz)) (hb:g.base=16) (lO:mG n all I eh m) (xL:lo<=m) (dj:lo<=tr) (hf:f<=16+lo) :
  lD (dz I [] d1) n size=(dz I [] d2,.ok ⟨g,dz I [] d2,fO n all,eh,m⟩)/\jg n ⟨g,dz I [] d2,fO n all,eh,m⟩ all tr I d2 f lo m:=by
 obtain⟨e,DC⟩:=BI (base:=16) (size:=size) (A:=I) (B:=[]) (d:=d1) hw;rw[ho]at e DC
 have vT:lB (dz I [] d2).R n=(eh,(m:Int),fO n (all.take m)):=by
  show lB (I++d2.R++[]) n=_;rw[cAl lO.ids λx hx=>(DC.m x hx).1];exact lO.load hi
 have mR:=lO.le;have mQ:=hl.head;rw[zzn,zzs]at mQ
 have rH:fk g.bI=(lo:Int)+1:=by
  by_cases hs:g.bI=[]
  ·rw[hs];have:=(hl.nil hs).2;show (1:Int)=_;omega
  exact hl.chain.low hs
 refine⟨?_,⟨rfl,DC,hl.laid,hb,lO,rfl,xL,dj,rfl,hf⟩⟩;unfold lD;rw[zzb (by omega),e];simp only[zzz];rw[vT,hl.gG,rH];simp only;rw[cFw ht xL mR];simp only;rw[zzd ⟨by omega,by omega⟩]
def Vm(I:List PF)(d0:DS)(keep:Ω):(dz I [] d0).eO keep=dz (e_ I keep) [] (d0.eO (keep.drop I.length)):=by
 unfold DS.eO dz;simp only;rw[Sw];rfl
structure s8(n:Nat)(d:DS)(all:List cM)(t:Option cM)(tr:Nat)(I I':List PF)(d0:DS)(g:da)(f:Int)(lo m:Nat)(eh:Int):Prop where
 rC:d=dz I' [] d0
 cI:dP 16 4112 I' [] d0.R
 log:(Laid g d0 f ((lo:Int)+1) ((all.drop lo).map gz))\/∃q w,oX d0 f ((lo:Int)+1) ((all.drop lo).map gz) q w/\(w=true->∃x,t=some x/\q=gz x)
 base:g.base=16
 f16:16<=f
 file:f<=16+lo
 empty:(all.drop lo).map gz=[]->(f=16/\lo=0)\/∀y∈d0.R,(eC [dZ ((lo:Int)+1).toNat]).length<=y.safe
 kV:mG n all I eh m
 x9:I'=I\/(m<all.length/\∃pre,(pre=[]\/pre=dm (jw all.length (fO n all)))/\mc I I' ⟨if eh=0 then 1 else 0,0,pre⟩)
 u_:lo<=m
 sR:lo<=tr
def s8.open{n:Nat}(n1:1<=n)(n8:n<=8){d:DS}{all:List cM}{t:Option cM}{tr:Nat}{I I':List PF}{d0:DS}{g:da}{f:Int}{lo m:Nat}{eh:Int}(h:s8 n d all t tr I I' d0 g f lo m eh)(keep:Ω)
  (ht:∀l,l=[]\/(∃x,t=some x/\l=[x])->s9 n (all++l)/\As n (all++l)) (hlen:all.length<=1000) {size:Int} (s0:64<=size) (s1:size<=65536) :
  ∃k' oB I2 d2 f2 m2,lD (d.eO keep) n size=(k'.d,.ok k')/\jg n k' oB tr I2 d2 f2 lo m2/\k'.d.off=false/\k'.d.arm=0/\k'.d.ops<=d.ops+1/\(oB=all\/∃x,t=some x/\oB=all++[x]):=by
 obtain⟨t0,i0⟩:=ht [] (.inl rfl);rw[zz2]at t0 i0
 have lO:∃Kj m2,mG n all (e_ I' keep) Kj m2/\m<=m2:=by
  rcases h.x9 with e|⟨dj,e⟩
  ·rw[e,SA h.kV.safe];exact⟨eh,m,h.kV,zzi _⟩
  exact h.kV.eO i0 dj keep (.inr e)
 obtain⟨Kj,m2,lO,uQ⟩:=lO;have cW0:=h.u_;have cW7:=lO.le;have uI:=h.base;have cnh:=h.f16;have C_:=h.file;have Uw:=h.sR;have cwa:∃g2 d2 oB,ff (d0.eO (keep.drop I'.length)) 16 size=(d2,.ok g2)/\gI g2 d2 f ((lo:Int)+1) ((oB.drop lo).map gz)/\g2.base=16/\d2.arm=0/\d2.ops<=d0.ops+1/\(oB=all\/∃x,t=some x/\oB=all++[x]):=by
  rcases h.log with hl|⟨q,w,hT,hw⟩
  ·obtain⟨e,hv⟩:=hl.open (keep.drop I'.length) (by rw[zzn,zzs];omega) s0 s1;rw[uI]at e hv
   exact⟨_,_,all,e,hv,rfl,rfl,by show d0.ops<=_;omega,.inl rfl⟩
  obtain⟨g2,d2,iV,h1,h2,h3,h4,h5,h6,h7⟩:=ail hT (keep.drop I'.length) (base:=16) (size:=size) (by decide) (by decide) s0 s1 cnh (by rw[zzn,zzs];omega) (by omega) (by rw[zzn,zzs];omega) (λe=>(h.empty e).imp (λe=>by omega) λe=>e);rcases h7 with e|⟨ew,e⟩
  ·exact⟨g2,d2,all,h1,by rw[<- e];exact h2,h5,h3,h4,.inl rfl⟩
  obtain⟨x,hx,rfl⟩:=hw ew;refine⟨g2,d2,all++[x],h1,?_,h5,h3,h4,.inr ⟨x,hx,rfl⟩⟩;rw[xxh (by omega),zzt,wwf,<- e];exact h2
 obtain⟨g2,d2,oB,e1,e2,e3,e4,e5,e6⟩:=cwa;have JK:s9 n oB/\As n oB/\mG n oB (e_ I' keep) Kj m2:=by
  rcases e6 with rfl|⟨x,hx,rfl⟩
  ·exact⟨t0,i0,lO⟩
  obtain⟨a,b⟩:=ht [x] (.inr ⟨x,hx,rfl⟩);exact⟨a,b,lO.mono [x]⟩
 have rM:dP 16 4112 (e_ I' keep) [] (d0.eO (keep.drop I'.length)).R:=h.cI.eO keep _ [];obtain⟨o1,o2⟩:=WN n1 n8 JK.1 JK.2.1 e1 rM e2 e3 JK.2.2 (by omega) Uw C_;rw[<- Vm]at o1
 rw[h.rC];exact⟨_,oB,_,_,_,_,o1,o2,e2.off,e4,e5,e6⟩
def Laid.IJ{g:da}{d:DS}{f n:Int}{es:List Φ}(h:Laid g d f n es)(hb:g.base=16):nN 16 4112 g:=by
 have hle:=h.chain.sQ;rw[h.gG]at hle
 have tH:=h.fi;have hba:=h.base;refine⟨by omega,by omega,λs hs=>?_,λx hx=>by rw[h.dE]at hx;cases hx⟩;have:=h.chain.te.mem (x:=eI s) (vv8 hs);rw[zzn]at this
 have h1:(eI s).id=s.file:=rfl;omega
def bIx{t:cM}(h:eG t=true):(gz t).length<=2000:=yyw (HX h) (by decide)
def jg.head{n:Nat}{k:cW}{all:List cM}{tr:Nat}{I:List PF}{d0:DS}{f:Int}{lo m:Nat}(h:jg n k all tr I d0 f lo m)(ho:k.d.off=false):cO k.g.bI=all.length:=by
 have hl:=h.log.inv (by have:=h.rC;rw[this]at ho;exact ho);have hm:=h.kV.le;have:=h.u_;rw[hl.head,zzn,zzs];omega
def gI.AU{g:da}{d:DS}{f n:Int}{es:List Φ}(h:Laid g d f n es)(e:es=[]):(f=g.base/\n=1)\/(g.bI≠[]/\∀y∈d.R,(eC [dZ n.toNat]).length<=y.safe):=by
 cases hg:g.bI with
 | nil=>exact .inl (h.nil hg)
 | cons s L=>
  refine .inr ⟨by simp,λy hy=>?_⟩;have hc:=h.chain;have h1:=h.gG;rw[e,hg,pR]at h1
  obtain⟨h2,h3⟩:=vvt.1 h1;rw[hg]at hc
  obtain⟨_,c2,c3,_,c5,_⟩:=hc;have hL:L=[]:=by
   cases L with
   | nil=>rfl
   | cons t r=>exact absurd h2 (c5 (by simp))
  rw[h.files,hg,hL]at hy
  have hy:y=eI s:=by simpa using hy
  rw[hy];show _<=(eC (dZ s.first.toNat::s.l)).length;rw[c2,h2];exact zzi _
def jg.AU{n:Nat}{k:cW}{all:List cM}{tr:Nat}{I:List PF}{d0:DS}{f:Int}{lo m:Nat}(h:jg n k all tr I d0 f lo m):(all.drop lo).map gz=[]->(f=16/\lo=0)\/∀y∈d0.R,(eC [dZ ((lo:Int)+1).toNat]).length<=y.safe:=λe=>by
 have hb:=h.base;rcases gI.AU h.log e with h1|⟨_,h1⟩
 ·exact .inl (by omega)
 exact .inr h1
def jg.dead{n:Nat}{k:cW}{all:List cM}{tr:Nat}{I:List PF}{d0:DS}{f:Int}{lo m:Nat}(h:jg n k all tr I d0 f lo m)(he:(all.drop lo).map gz=[]->(f=16/\lo=0)\/∀y∈d0.R,(eC [dZ ((lo:Int)+1).toNat]).length<=y.safe)(t:Option cM):s8 n k.d all t tr I I d0 k.g f lo m k.eh:=
 ⟨h.rC,h.cI,.inl h.log,h.base,by have:=h.log.base;have:=h.base;omega,h.file,he,h.kV,.inl rfl,h.u_,h.sR⟩
def cx9(I:List PF)(d0:DS):dz I [] d0=dz [] d0.R {d0 with R:=I}:=by
 unfold dz;simp
def S5{lo hi:Int}{A B:List PF}{d:DS}(h:dP lo hi A B d.R){f:Int}(h1:lo<=f)(h2:f<hi)(b:Φ):kR (dz A B d) f b=(dz A B (kR d f b).1,(kR d f b).2):=by
 unfold kR;rw[show gH (dz A B d).R f=gH d.R f from h.len h1 h2];have hc:(if 0<=gH d.R f then (dz A B d).cut f 0 else (dz A B d,0))=(dz A B (if 0<=gH d.R f then d.cut f 0 else (d,0)).1,(if 0<=gH d.R f then d.cut f 0 else (d,0)).2)/\dP lo hi A B (if 0<=gH d.R f then d.cut f 0 else (d,0)).1.R:=by
  split
  ·exact Ga h h1 h2 0
  exact⟨rfl,h⟩
 generalize (if 0<=gH d.R f then d.cut f 0 else (d,0))=c at *
 rw[hc.1];simp only;split
 ·rfl
 obtain⟨ea,ha⟩:=F_ hc.2 h1 h2 b;rw[ea];simp only;split
 ·rfl
 exact (J3 ha h1 h2).1
def jg.trim{n:Nat}{k:cW}{all:List cM}{tr:Nat}{I:List PF}{d0:DS}{f:Int}{lo m:Nat}(h:jg n k all tr I d0 f lo m)(ho:k.d.off=false)(ha:0<=k.d.arm)(hlen:all.length<=1000)(hi:As n all){aw:Nat}(kh:aw<=all.length):
  (∃k' I' d1 f' kW m',k.iR aw=(k',0)/\aw<=m'/\jg n k' all (max tr aw) I' d1 f' kW m'/\k'.d.off=false/\0<=k'.d.arm/\k'.d.arm<=k.d.arm/\k'.d.ops<=k.d.ops+(all.length+5)/\k'.g.size=k.g.size) \/
  (∃k' e I1 I' d1 g1 f' kW m' nw,k.iR aw=(k',e)/\e≠0/\k'.d.off=true/\k.d.arm≠0/\k'.d.ops<=k.d.ops+(all.length+5)/\s8 n k'.d all none (max tr aw) I1 I' d1 g1 f' kW m' nw):=by
 have mQ:=h.head ho;have xL:=h.u_;have mR:=h.kV.le;have hle:=h.log.chain.sQ;rw[h.log.gG,zzn,zzs]at hle
 have nB:∀{k:cW} {I:List PF} {d0:DS} {m:Nat},jg n k all tr I d0 f lo m->k.d.off=false->0<=k.d.arm->k.g.bI.length<=(all.length+1)->aw<=m ->
   (∃k' d1 f' kW,(({k with g:=(iG k.g k.d aw).1.1,d:=(iG k.g k.d aw).1.2}:cW),(iG k.g k.d aw).2)=(k',0)/\jg n k' all (max tr aw) I d1 f' kW m/\k'.d.off=false/\0<=k'.d.arm/\k'.d.arm<=k.d.arm/\k'.d.ops<=k.d.ops+(all.length+1)/\k'.g.size=k.g.size) \/
   (∃k' e d1 g1 f' kW,(({k with g:=(iG k.g k.d aw).1.1,d:=(iG k.g k.d aw).1.2}:cW),(iG k.g k.d aw).2)=(k',e)/\e≠0/\k'.d.off=true/\k.d.arm≠0/\k'.d.ops<=k.d.ops+(all.length+1)/\s8 n k'.d all none (max tr aw) I I d1 g1 f' kW m k.eh):=by
  intro k I d0 m h ho ha Dy hm;have hd:=h.rC;have jc:d0.off=false:=by rw[hd]at ho;exact ho
  have sE:0<=d0.arm:=by rw[hd]at ha;exact ha
  have hl:=h.log.inv jc;have hb:=h.base;have tH:=h.log.fi;have Uw:=h.sR;have C_:=h.file;have cW6:=h.kV.le;obtain⟨ew,hw,vO⟩:=aim (A:=I) (B:=[]) (d:=d0) (h.log.IJ hb) h.cI (aw:Int);obtain⟨g',d',f',i,e,et,Us,cG,dO,rK,Be,ed,uI,UZ,Bb,xE,mo,xy,Dv⟩:=cKm hl sE (aw:Int) (by omega);rw[et]at ew hw vO
  rw[hd,ew];simp only at hw ⊢;have Je:((all.drop lo).map gz).drop i=(all.drop (lo+i)).map gz:=by rw[ttg,ttg,vve,<- ttg]
  rw[Je,show (lo:Int)+1+(i:Int)=((lo+i:Nat):Int)+1 by omega]at Us
  rw[zzn,zzs]at cG
  have hL:jg n {k with g:=g',d:=dz I [] d'} all (max tr aw) I d' f' (lo+i) m:=⟨rfl,hw,Us,uI.trans hb,h.kV,h.image,by have:=h.u_;omega,by omega,h.ts,by omega⟩;rcases Dv with ⟨rfl,Jx,_⟩|⟨rfl,Jx,tC⟩
  ·left;exact⟨_,d',f',lo+i,rfl,hL,Jx,mo,xy,by show d'.ops<=d0.ops+(all.length+1);omega,UZ⟩
  right;exact⟨_,8,d',g',f',lo+i,rfl,by decide,Jx,tC,by show d'.ops<=d0.ops+(all.length+1);omega,hL.dead hL.AU none⟩
 have ht:k.iR aw=(let r:=if k.image<aw then k.jb else (k,0);if r.2≠0 then r else let t:=iG r.1.g r.1.d aw;({r.1 with g:=t.1.1,d:=t.1.2},t.2)):=by
  unfold cW.iR;rw[zzb (by rw[mQ];omega),zzb (by simp[ho])]
 rw[ht];by_cases lO:k.image<aw
 ·rw[zzd lO];have UB:m<all.length:=by have:=h.image;omega
  have hd:=h.rC;have jc:d0.off=false:=by rw[hd]at ho;exact ho
  have sE:0<=d0.arm:=by rw[hd]at ha;exact ha
  have FG:jF k=0\/jF k=1:=by unfold jF;split<;>simp
  have hwI:dP 0 16 [] d0.R I:=⟨by simp,λx hx=>by rcases h.kV.ids x hx with e|e<;>omega,λx hx=>(h.cI.m x hx).1⟩;have hdw:kR k.d (jF k) (dm (jw (cO k.g.bI) k.ts))=(dz [] d0.R (kR {d0 with R:=I} (jF k) (dm (jw all.length (fO n all)))).1,(kR {d0 with R:=I} (jF k) (dm (jw all.length (fO n all)))).2):=by
   rw[hd,cx9,mQ,h.ts];exact S5 (d:={d0 with R:=I}) hwI (by omega) (by omega) _
  have jY:∀d':DS,dz [] d0.R d'=dz d'.R [] {d' with R:=d0.R}:=λd'=>by unfold dz;simp
  unfold cW.jb;rw[hdw];rcases bF1 (d:={d0 with R:=I}) h.kV.sorted (f:=jF k) (by omega) (by omega) jc sE (dm (jw all.length (fO n all))) with ⟨d',e,hS,o1,a1,a2,p1⟩|⟨d',e,o1,a0,a1,a2,p1,hR⟩
  ·rw[e];simp only;rw[zzd trivial];simp only;rw[zzb (by simp)];have hid:∀x∈d'.R,x.id=0\/x.id=1:=λx hx=>by
    rcases hS.mem hx with rfl|⟨hx,_⟩
    ·exact FG
    exact h.kV.ids x hx
   have FD:mG n all d'.R (jF k) all.length:=h.kV.drawn hi UB (f:=jF k) rfl (x:=⟨jF k,_,_⟩) rfl rfl rfl hS;have hL:jg n {k with d:=dz [] d0.R d',eh:=jF k,image:=cO k.g.bI} all tr d'.R {d' with R:=d0.R} f lo all.length:=
    ⟨jY d',⟨λx hx=>by rcases hid x hx with e|e<;>omega,h.cI.m,by simp⟩,h.log.s4 rfl,h.base,FD,mQ,by omega,h.sR,h.ts,h.file⟩
   rcases nB hL o1 a1 (by show k.g.bI.length<=(all.length+1);omega) kh with ⟨k',d1,f',kW,r1,r2,r3,r4,ra,r5,r6⟩|⟨k',e',d1,g1,f',kW,r1,r2,r3,ra,r5,r6⟩
   ·left;have r5:k'.d.ops<=d'.ops+(all.length+1):=r5;have ra:k'.d.arm<=d'.arm:=ra;exact⟨k',_,d1,f',kW,_,r1,kh,r2,r3,r4,by rw[hd];exact ttk ra a2,by rw[hd];show k'.d.ops<=d0.ops+(all.length+5);have p1:d'.ops<=d0.ops+3:=p1;omega,r6⟩
   right;have r5:k'.d.ops<=d'.ops+(all.length+1):=r5;have ra:d'.arm≠0:=ra;have a2:d'.arm<=d0.arm:=a2;exact⟨k',e',_,_,d1,g1,f',kW,_,_,r1,r2,r3,by rw[hd];show d0.arm≠0;omega,by rw[hd];show k'.d.ops<=d0.ops+(all.length+5);have p1:d'.ops<=d0.ops+3:=p1;omega,r6⟩
  rw[e];simp only;rw[zzb (show ¬((8:Int)=0) by decide)];simp only;rw[zzd (show (8:Int)≠0 by decide)];right;have hid:∀x∈d'.R,x.id=0\/x.id=1:=λx hx=>by
   rcases hR with hR|⟨pre,_,hS⟩
   ·rw[hR]at hx;exact h.kV.ids x hx
   rcases hS.mem hx with rfl|⟨hx,_⟩
   ·exact FG
   exact h.kV.ids x hx
  refine⟨_,8,I,d'.R,{d' with R:=d0.R},k.g,f,lo,m,k.eh,rfl,by decide,o1,by rw[hd];exact a0,by rw[hd];show d'.ops<=d0.ops+(all.length+5);have p1:d'.ops<=d0.ops+3:=p1;omega,jY d',⟨λx hx=>by rcases hid x hx with e|e<;>omega,h.cI.m,by simp⟩,.inl (h.log.s4 rfl),h.base,by have:=h.log.base;have:=h.base;omega,h.file,h.AU,h.kV,?_,xL,by have:=h.sR;omega⟩;rcases hR with hR|⟨pre,hp,hS⟩
  ·exact .inl hR
  exact .inr ⟨UB,pre,hp,hS⟩
 rw[zzb lO];simp only;rw[zzb (by simp)];rcases nB h ho ha (by omega) (by have:=h.image;omega) with ⟨k',d1,f',kW,r1,r2,r3,r4,ra,r5,r6⟩|⟨k',e',d1,g1,f',kW,r1,r2,r3,ra,r5,r6⟩
 ·exact .inl ⟨k',_,d1,f',kW,_,r1,by have:=h.image;omega,r2,r3,r4,ra,by omega,r6⟩
 exact .inr ⟨k',e',_,_,d1,g1,f',kW,_,_,r1,r2,r3,ra,by omega,r6⟩
set_option maxRecDepth 100000
def Vq:∀(C:List Row) (c:Row) (i:Nat),i<=C.length->(∀j (h:j<C.length),j<i->C[j].key<c.key)->(∀h:i<C.length,c.key<=C[i].key) ->
  gX C c=C.take i++[c]++C.drop (if ∃h:i<C.length,C[i].key=c.key then i+1 else i)
 | [],c,i,hi,_,_=>by
  have:i=0:=by simpa using hi
  subst this;simp[gX]
 | x::C,c,0,_,_,h2=>by
  have hx:=h2 (by simp);simp only[vvq]at hx;have:¬x.key<c.key:=by omega
  by_cases he:x.key=c.key
  ·simp[gX,he]
  simp[gX,this,he]
 | x::C,c,i+1,hi,h1,h2=>by
  have hx:x.key<c.key:=h1 0 (by simp) (by omega);have ih:=Vq C c i (by simpa using hi) (λj h hj=>by have:=h1 (j+1) (by simpa using h) (by omega);simpa using this) (λh=>by have:=h2 (by simpa using h);simpa using this);simp only[gX,hx,wwm,ih,zzj,vvs,Nat.add_lt_add_iff_right];split<;>simp
def SO:∀(C:List Row) (k:Int) (i:Nat) (h:i<C.length),(∀j (h:j<C.length),j<i->C[j].key≠k)->C[i].key=k->ka C k=C.take i++C.drop (i+1)
 | x::C,k,0,_,_,h2=>by simp at h2;simp[ka,h2]
 | x::C,k,i+1,h,h1,h2=>by
  have hx:x.key≠k:=h1 0 (by simp) (by omega);have ih:=SO C k i (by simpa using h) (λj h hj=>by have:=h1 (j+1) (by simpa using h) (by omega);simpa using this) (by simpa using h2);simp[ka,hx,ih]
def SQ:∀(C:List Row) (k:Int),(∀j (h:j<C.length),C[j].key≠k)->ka C k=C
 | [],k,_=>rfl
 | x::C,k,h=>by
  have hx:x.key≠k:=h 0 (by simp);simp[ka,hx,SQ C k (λj hj=>by have:=h (j+1) (by simpa using hj);simpa using this)]
def nR(H:bw)(vs:Ξ)(ts:List (List Row)):Prop:=vs.length=ts.length/\∀(i:Nat) (v:Ε) (C:List Row),vs[i]?=some v->ts[i]?=some C->de H 2 v C.length (C.map eD).flatten
def nR.mono{H H':bw}{vs:Ξ}{ts:List (List Row)}(hh:H.le H')(h:nR H vs ts):nR H' vs ts:=⟨h.1,λi v C h1 h2=>(h.2 i v C h1 h2).mono hh⟩
structure AtR(C:List Row)(key:Int)(i:Nat):Prop where
 le:i<=C.length
 lo:∀j (h:j<C.length),j<i->C[j].key<key
 hi:∀h:i<C.length,key<=C[i].key
def lS(C:List Row)(key:Int)(i:Nat):Bool:=decide (∃h:i<C.length,C[i].key=key)
def AtR.gt{C:List Row}{key:Int}{i:Nat}(h:AtR C key i)(hs:gi C):∀j (hj:j<C.length),i<j->key<C[j].key:=λj hj sJ=>by
 have h1:=h.hi (by omega);have:=xxt.1 hs i j (by omega) hj sJ;omega
def AtR.up{C:List Row}{key:Int}{i:Nat}(h:AtR C key i)(hs:gi C)(hn:lS C key i=false):∀j (hj:j<C.length),i<=j->key<C[j].key:=λj hj sJ=>by
 rcases xx6 i j with h1|h1
 ·exact h.gt hs j hj h1
 obtain rfl:j=i:=by omega
 have h1:=h.hi hj;have h2:¬C[j].key=key:=λe=>yy2 hn ⟨hj,e⟩;omega
def AtR.ins{C:List Row}{key:Int}{i:Nat}(h:AtR C key i)(v:Η):gX C ⟨key,v⟩=if lS C key i=true then C.set i ⟨key,v⟩ else C.take i++[⟨key,v⟩]++C.drop i:=by
 rw[Vq C ⟨key,v⟩ i h.le h.lo h.hi];by_cases hk:∃h:i<C.length,C[i].key=key
 ·rw[zzd hk,zzd (show lS C key i=true from zzo hk)];rw[xxi,zzd hk.1];simp
 rw[zzb hk,zzb (by simpa [lS] using hk)]
def AtR.del{C:List Row}{key:Int}{i:Nat}(h:AtR C key i)(hs:gi C):ka C key=if lS C key i=true then C.take i++C.drop (i+1) else C:=by
 cases hk:lS C key i with
 | true=>
  obtain⟨hi,e⟩:=zzp hk;rw[zzd rfl];exact SO C key i hi (λj hj jk=>by have:=h.lo j hj jk;omega) e
 | false=>
  rw[zzb (by decide)];refine SQ C key λj hj=>?_;rcases xx6 j i with h1|h1
  ·have:=h.lo j hj h1;omega
  have:=h.up hs hk j hj h1;omega
def AtR.get{C:List Row}{key:Int}{i:Nat}(h:AtR C key i)(hs:gi C):(fe C key).isSome=lS C key i/\∀hi:i<C.length,C[i].key=key->fe C key=some C[i].val:=by
 have h2:∀hi:i<C.length,C[i].key=key->fe C key=some C[i].val:=λhi e=>by
  unfold fe;have:C.find? (λc=>decide (c.key=key))=some C[i]:=by
   rw[List.find?_eq_some_iff_getElem];refine⟨by simpa using e,i,hi,rfl,λj hj=>?_⟩;have:=h.lo j (by omega) hj;simp;omega
  rw[this];rfl
 refine⟨?_,h2⟩;cases hk:lS C key i with
 | true=>
  obtain⟨hi,e⟩:=zzp hk;rw[h2 hi e];rfl
 | false=>
  unfold fe;have:C.find? (λc=>decide (c.key=key))=none:=by
   rw[uu6];intro x hx;obtain⟨j,hj,rfl⟩:=yyl hx;rcases xx6 j i with h1|h1
   ·have:=h.lo j hj h1;simp;omega
   have:=h.up hs hk j hj h1;simp;omega
  rw[this];rfl
def Iz:∀(C:List Row) (key:Int) (k:Nat),(∀j (h:j<C.length),j<k->C[j].key<=key)->(∀j (h:j<C.length),k<=j->key<C[j].key)->C.filter (λr=>decide (key<r.key))=C.drop k
 | [],key,k,_,_=>by simp
 | x::C,key,0,_,h2=>by
  rw[List.drop_zero,yy4];intro y hy;obtain⟨j,hj,rfl⟩:=yyl hy;exact zzo (h2 j hj (zz4 _))
 | x::C,key,k+1,h1,h2=>by
  have hx:x.key<=key:=h1 0 (by simp) (by omega);rw[xx5,zzb (by simp;omega),uu0];exact Iz C key k (λj h hj=>by have:=h1 (j+1) (by simpa using h) (by omega);simpa using this) (λj h hj=>by have:=h2 (j+1) (by simpa using h) (by omega);simpa using this)
def AtR.after{C:List Row}{key:Int}{i:Nat}(h:AtR C key i)(hs:gi C)(n:Int):oA C key n=(C.drop (if lS C key i=true then i+1 else i)).take n.toNat:=by
 unfold oA;cases hk:lS C key i with
 | true=>
  obtain⟨hi,e⟩:=zzp hk;rw[zzd rfl,Iz C key (i+1) (λj hj jk=>?_) (λj hj jk=>h.gt hs j hj (by omega))];rcases xx6 j i with h1|h1
  ·have:=h.lo j hj h1;omega
  obtain rfl:j=i:=by omega
  omega
 | false=>
  rw[zzb (by decide),Iz C key i (λj hj jk=>by have:=h.lo j hj jk;omega) (λj hj jk=>h.up hs hk j hj jk)]
def oq(C:List Row)(l:List Row):List Row:=l.foldl gX C
def Vr:∀(C:List Row) (r:Row),(∀x∈C,x.key<r.key)->gX C r=C++[r]
 | [],r,_=>rfl
 | x::C,r,h=>by
  unfold gX;rw[zzd (h x (.head _)),Vr C r λy hy=>h y (.tail _ hy)];rfl
def W8:∀(l C:List Row),gi (C++l)->oq C l=C++l
 | [],C,_=>by simp[oq]
 | r::l,C,h=>by
  have h1:gX C r=C++[r]:=Vr C r λx hx=>(List.pairwise_append.1 h).2.2 x hx r (.head _);show oq (gX C r) l=_;rw[h1,W8 l (C++[r]) (by simpa using h)];simp
def cEn{l:List Row}(h:gi l):oq [] l=l:=W8 l [] h
def W7:∀(l:List Row) {C:List Row},gi C->gi (oq C l)
 | [],C,h=>h
 | r::l,C,h=>W7 l (C:=gX C r) (K2 h r)
def W6:∀(l:List Row) (C:List Row),(oq C l).length<=C.length+l.length
 | [],C=>by simp[oq]
 | r::l,C=>by
  have h1:=W6 l (gX C r);have h2:=J' C r;show (oq (gX C r) l).length<=_;rw[zzj];omega
def cEo{l:List Row}{i:Nat}(h:i<l.length)(C:List Row):oq C (l.take (i+1))=gX (oq C (l.take i)) l[i]:=by
 unfold oq;rw[zze h,ww6];rfl

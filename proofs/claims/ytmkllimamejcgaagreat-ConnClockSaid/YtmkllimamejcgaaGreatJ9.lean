/- Part of the proof. -/
import Derived.Test.YtmkllimamejcgaaGreatJ8
import Derived.Test.YtmkllimamejcgaaGreatQVcF
namespace Go.Proofs.YtmkllimamejcgaaGreat
set_option linter.all false
open Go.RowKit
def tth:=@Int.le_trans
def eg(t:cH):Bool:=decide (1<=t.aw/\t.aw<=1099511627776) &&
 (if t.kind=1 then decide (t.mark=0/\t.changes.length<=16/\t.signals.length<=2) && t.changes.all (λc=>mB c 8) && t.signals.all (λs=>decide (s.size<=40))
  else decide ((t.kind=2\/t.kind=3)/\1<=t.mark/\t.mark<=1099511627776/\t.changes=[]/\t.signals=[]))
def xM{c:eh}{k:Int}:mB c k=true↔0<=c.table/\c.table<k/\1<=c.key/\c.key<=1099511627776/\c.val.size<=32/\(c.gone=true->c.val=emp):=by unfold mB;rw[zzy]
def vI{t:cH}:eg t=true↔(1<=t.aw/\t.aw<=1099511627776) /\
  ((t.kind=1/\t.mark=0/\t.changes.length<=16/\t.signals.length<=2/\(∀c∈t.changes,mB c 8=true)/\∀s∈t.signals,s.size<=40) \/
   ((t.kind=2\/t.kind=3)/\1<=t.mark/\t.mark<=1099511627776/\t.changes=[]/\t.signals=[])):=by
 unfold eg;rw[zz9,zzy];refine and_congr_right λ_=>?_;split
 ·rename_i hk;rw[zz9,zz9,zzy,zz6,zz6];constructor
  ·rintro ⟨⟨⟨h1,h2,h3⟩,h4⟩,h5⟩;exact .inl ⟨hk,h1,h2,h3,h4,λs hs=>zzm (h5 s hs)⟩
  rintro (⟨_,h1,h2,h3,h4,h5⟩|⟨h,_⟩)
  ·exact⟨⟨⟨h1,h2,h3⟩,h4⟩,λs hs=>zzl (h5 s hs)⟩
  omega
 rename_i hk;rw[zzy];constructor
 ·exact λh=>.inr h
 rintro (⟨h,_⟩|h)
 ·exact absurd h hk
 exact h
def l_{t:cH}(h:eg t=true):(1<=t.aw/\t.aw<=1099511627776)/\(1<=t.kind/\t.kind<=3)/\(0<=t.mark/\t.mark<=1099511627776)/\t.changes.length<=16/\t.signals.length<=2/\(∀c∈t.changes,mB c 8=true)/\∀s∈t.signals,s.size<=40:=by
 obtain⟨h1,h2⟩:=vI.1 h;rcases h2 with ⟨k,m,a,b,c,d⟩|⟨k,m1,m2,a,b⟩
 ·exact⟨h1,by omega,by omega,a,b,c,d⟩
 rw[a,b];exact⟨h1,by omega,by omega,by simp,by simp,by simp,by simp⟩
def kW(t:cH):List dD:=[iF t.aw,iF t.kind,iF t.mark,iF t.changes.length]++(t.changes.map pE).flatten++([iF t.signals.length]++t.signals.map tF)
def vg(t:cH):Except Int (Φ):=if eg t=true then n_ (kW t) else .error 1
def bw2(t:cH):(kW t).length=5+t.changes.length*4+t.signals.length:=by
 unfold kW;simp only[zza,zzh,yyp,zzn];rw[Ax (f:=pE) (k:=4) (λ_=>rfl)];omega
def bw1{t:cH}(h:eg t=true):∀f∈kW t,vF f:=by
 obtain⟨h1,h2,h3,h4,h5,h6,h7⟩:=l_ h;intro f hf;unfold kW at hf;simp only[zz1,zz8,xx8,zzv,xxj,vvw]at hf;rcases hf with ((rfl|rfl|rfl|rfl)|⟨l,⟨c,hc,rfl⟩,hf⟩)|rfl|⟨s,hs,rfl⟩
 ·exact lF (by omega)
 ·exact lF (by omega)
 ·exact lF (by omega)
 ·exact lF (by omega)
 ·have h8:=xM.1 (h6 c hc);have hb:=Ei c.gone;unfold pE at hf;simp only[zz8,xxj,vvw]at hf;rcases hf with rfl|rfl|rfl|rfl
  ·exact lF (by omega)
  ·exact lF (by omega)
  ·exact lF (by omega)
  exact .inr ⟨rfl,rfl,by show c.val.size<=4096;omega⟩
 ·exact lF (by omega)
 have:=h7 s hs;exact .inr ⟨rfl,rfl,by show s.size<=4096;omega⟩
def Sg{t:cH}(h:eg t=true):vg t= .ok (eQ (kW t).length 2++((kW t).map fr).flatten)/\jz (eQ (kW t).length 2++((kW t).map fr).flatten)= .ok (kW t):=by
 have hl:=bw2 t;obtain⟨_,_,_,h4,h5,_,_⟩:=l_ h;obtain⟨e1,e2⟩:=Hy (l:=kW t) (by omega) (bw1 h);exact⟨by unfold vg;rw[zzc h,e1],e2⟩
def kN{α:Type}(one:cY->α × cY):Nat->cY->List α × cY
 | 0,r=>([],r)
 | i+1,r=>((one r).1::(kN one i (one r).2).1,(kN one i (one r).2).2)
def p7(r:cY):eh × cY:=
 let b:=dB 8 r;let c:=fu b.2;let d:=sV c.2;let e:=pd d.2
 (⟨b.1,c.1,d.1,e.1⟩,e.2)
def Vw(x:Int × Int × Int × (Int × List eh) × (Int × Ψ)):cH:=⟨x.1,x.2.1,x.2.2.2.1.2,x.2.2.2.2.2,x.2.2.1⟩
def wB{α:Type}(i:cY->Int × cY)(m:Nat->cY->List α × cY):cY->(Int × List α) × cY:=tM i λn=>m n.toNat
def lu:cY->cH × cY:=xK Vw (tM fu λ_=>tM (dB 3) λ_=>tM fu λ_=>tM (wB (dB 16) (kN p7)) λ_=>wB (dB 2) (kN pd))
def Al(l:List dD):Option cH:=
 let x:=lu ⟨l,false⟩
 if x.2.bad=false/\x.2.l=[]/\eg x.1=true then some x.1 else none
def lA(b:Φ):Except Int cH:=match jz b with
 | .error e=>.error e
 | .ok l=>match Al l with
  | some t=>.ok t
  | none=>.error 3
def FM{α:Type}{one:cY->α × cY}{f:α->List dD}:∀(xs:List α) (l:List dD),(∀x∈xs,∀l,one ⟨f x++l,false⟩=(x,⟨l,false⟩))->kN one xs.length ⟨(xs.map f).flatten++l,false⟩=(xs,⟨l,false⟩)
 | [],l,_=>rfl
 | x::xs,l,h=>by
  have ih:=FM xs l λy hy=>h y (.tail _ hy);have h1:=h x (.head _) ((xs.map f).flatten++l);rw[zzo,zz5,zzk,zzh,kN,h1,ih]
def aI6{c:eh}{l:List dD}(h:0<=c.table/\c.table<=8):p7 ⟨pE c++l,false⟩=(c,⟨l,false⟩):=by
 unfold p7 pE;have e2:dB 8 ⟨[iF c.table,iF c.key,iF (gS c.gone),tF c.val]++l,false⟩=(c.table,⟨[iF c.key,iF (gS c.gone),tF c.val]++l,false⟩):=pc h;have e3:fu ⟨[iF c.key,iF (gS c.gone),tF c.val]++l,false⟩=(c.key,⟨[iF (gS c.gone),tF c.val]++l,false⟩):=rfl;have e4:sV ⟨[iF (gS c.gone),tF c.val]++l,false⟩=(c.gone,⟨[tF c.val]++l,false⟩):=Hn;have e5:pd ⟨[tF c.val]++l,false⟩=(c.val,⟨l,false⟩):=rfl;simp only[e2,e3,e4,e5]
def cCn{t:cH}(h:eg t=true):lu ⟨kW t,false⟩=(t,⟨[],false⟩):=by
 obtain⟨h1,h2,h3,h4,h5,h6,h7⟩:=l_ h;have e0:kW t=iF t.aw::(iF t.kind::(iF t.mark::(iF t.changes.length::((t.changes.map pE).flatten++(iF t.signals.length::((t.signals.map λs=>[tF s]).flatten++[])))))):=by
  unfold kW;have:∀l:Ψ,l.map tF=(l.map λs=>[tF s]).flatten:=λl=>by induction l with
   | nil=>rfl
   | cons x l ih=>rw[zzo,zzo,zz5,ih];rfl
  rw[this];simp
 rw[e0];have e1:∀n l,fu ⟨iF n::l,false⟩=(n,⟨l,false⟩):=λn l=>rfl;have e2:∀l,dB 3 ⟨iF t.kind::l,false⟩=(t.kind,⟨l,false⟩):=λl=>pc (by omega);have e3:∀l,dB 16 ⟨iF t.changes.length::l,false⟩=((t.changes.length:Int),⟨l,false⟩):=λl=>pc (by omega);have e4:∀l,kN p7 t.changes.length ⟨(t.changes.map pE).flatten++l,false⟩=(t.changes,⟨l,false⟩):=λl=>FM t.changes l λc hc l=>aI6 (by have:=xM.1 (h6 c hc);omega);have e5:∀l,dB 2 ⟨iF t.signals.length::l,false⟩=((t.signals.length:Int),⟨l,false⟩):=λl=>pc (by omega);have e6:∀l,kN pd t.signals.length ⟨(t.signals.map λs=>[tF s]).flatten++l,false⟩=(t.signals,⟨l,false⟩):=λl=>FM t.signals l λs hs l=>rfl;unfold lu wB xK tM Vw;simp only[e1,e2,e3,e4,e5,e6,zzw]
def RO{t:cH}(h:eg t=true):∃b,vg t= .ok b/\lA b= .ok t:=by
 obtain⟨e1,e2⟩:=Sg h;refine⟨_,e1,?_⟩;unfold lA;rw[e2];have e3:Al (kW t)=some t:=by
  unfold Al;rw[cCn h];simp only;rw[zzc ⟨trivial,trivial,h⟩]
 simp only[e3]
def HB{b:Φ}{t:cH}(h:lA b= .ok t):eg t=true:=by
 unfold lA at h;split at h
 ·cases h
 split at h
 ·rename_i x hx;cases h;unfold Al at hx;simp only at hx;split at hx
  ·rename_i hc;cases hx;exact hc.2.2
  cases hx
 cases h
def nz(t:cH):Φ:=match vg t with
 | .ok b=>b
 | .error _=>[]
def Rg{t:cH}(h:eg t=true):lA (nz t)= .ok t:=by
 obtain⟨b,e1,e2⟩:=RO h;unfold nz;rw[e1];exact e2
def Rh{t:cH}(h:eg t=true):vg t= .ok (nz t):=by
 obtain⟨b,e1,_⟩:=RO h;unfold nz;rw[e1]
def Ho{t:cH}(h:eg t=true):(nz t).length<=1200:=by
 obtain⟨h1,h2,h3,h4,h5,h6,h7⟩:=l_ h;unfold nz;rw[(Sg h).1];simp only;rw[zza,lJ];unfold kW;simp only[zzs,zzo,yy4,yys,zz5,xxz,zza,zzx,u_];rw[Cb,xxs,xxs];have hT:∀s:Η,(fr (tF s)).length=3+s.size:=λs=>by
  show (gO 2::(eQ (s.size:Nat) 2++s.data.toList)).length=_;rw[zzh,zza,lJ];have:s.data.toList.length=s.size:=rfl;omega
 have k1:=uf (f:=(λx=>(x.map fr).flatten)∘pE) (k:=62) t.changes λc hc=>by
  have:=(xM.1 (h6 c hc)).2.2.2.2.1;show (((pE c).map fr).flatten).length<=62;unfold pE;simp only[zzo,yy4,zz5,xxz,zza,yyp,u_,hT];omega
 have k2:=uf (f:=fr∘tF) (k:=43) t.signals λs hs=>by
  have:=h7 s hs;show (fr (tF s)).length<=43;rw[hT];omega
 omega
def sH(r:Row):Prop:=1<=r.key/\r.key<=1099511627776/\r.val.size<=32
instance (r:Row):Decidable (sH r):=by unfold sH;infer_instance
structure BV(C:List Row):Prop where
 sorted:f_ C
 rows:∀r∈C,sH r
 len:C.length<=1000
def vP:Int->List Row->Bool
 | _,[]=>true
 | k,r::C=>decide (k<r.key/\r.key<=1099511627776/\r.val.size<=32) && vP r.key C
def Wq:∀{C:List Row} {k:Int},vP k C=true↔(∀r∈C,k<r.key)/\f_ C/\∀r∈C,r.key<=1099511627776/\r.val.size<=32
 | [],k=>by simp[vP,f_]
 | r::C,k=>by
  unfold vP;rw[zz9,zzy,Wq (C:=C) (k:=r.key)];unfold f_;rw[yyj];constructor
  ·rintro ⟨⟨h1,h2,h3⟩,h4,h5,h6⟩;refine⟨λx hx=>?_,⟨λx hx=>h4 x hx,h5⟩,λx hx=>?_⟩
   ·rcases zz8.1 hx with rfl|hx
    ·exact h1
    have:=h4 x hx;omega
   rcases zz8.1 hx with rfl|hx
   ·exact⟨h2,h3⟩
   exact h6 x hx
  rintro ⟨h1,⟨h2,h3⟩,h4⟩;exact⟨⟨h1 r (.head _),h4 r (.head _)⟩,λx hx=>h2 x hx,h3,λx hx=>h4 x (.tail _ hx)⟩
def rz(C:List Row):Bool:=vP 0 C && decide (C.length<=1000)
def Vi{C:List Row}:rz C=true↔BV C:=by
 unfold rz;rw[zz9,zzy,Wq];constructor
 ·rintro ⟨⟨h1,h2,h3⟩,h4⟩;exact⟨h2,λr hr=>⟨by have:=h1 r hr;omega,(h3 r hr).1,(h3 r hr).2⟩,h4⟩
 rintro ⟨h1,h2,h3⟩;exact⟨⟨λr hr=>by have:=(h2 r hr).1;omega,h1,λr hr=>⟨(h2 r hr).2.1,(h2 r hr).2.2⟩⟩,h3⟩
def i_(aw:Int)(ts:List (List Row)):Bool:=decide (0<=aw/\aw<=1099511627776/\1<=ts.length/\ts.length<=8) && ts.all rz
def sD{aw:Int}{ts:List (List Row)}:i_ aw ts=true↔(0<=aw/\aw<=1099511627776/\1<=ts.length/\ts.length<=8)/\∀C∈ts,BV C:=by
 unfold i_;rw[zz9,zzy,zz6];exact and_congr_right λ_=>⟨λh C hC=>Vi.1 (h C hC),λh C hC=>Vi.2 (h C hC)⟩
def s6(r:Row):List dD:=[iF r.key,tF r.val]
def oa(C:List Row):List dD:=iF C.length::(C.map s6).flatten
def mO(aw:Int)(ts:List (List Row)):List dD:=[iF aw,iF ts.length]++(ts.map oa).flatten
def Sq(C:List Row):(oa C).length=1+C.length*2:=by
 unfold oa;rw[zzh,Ax (f:=s6) (k:=2) (λ_=>rfl)];omega
def bwy{aw:Int}{ts:List (List Row)}(h:i_ aw ts=true):(mO aw ts).length<=16010:=by
 obtain⟨h1,h2⟩:=sD.1 h;have k:=uf (f:=oa) (k:=2001) ts λC hC=>by rw[Sq];have:=(h2 C hC).len;omega
 unfold mO;rw[zza];simp only[zzh,yyp];have:ts.length*2001<=8*2001:=yyt _ h1.2.2.2;omega
def bwx{aw:Int}{ts:List (List Row)}(h:i_ aw ts=true):∀f∈mO aw ts,vF f:=by
 obtain⟨h1,h2⟩:=sD.1 h;intro f hf;unfold mO at hf;simp only[zz1,zz8,xx8,zzv,xxj,vvw]at hf;rcases hf with (rfl|rfl)|⟨l,⟨C,hC,rfl⟩,hf⟩
 ·exact lF (by omega)
 ·exact lF (by omega)
 have hT:=h2 C hC;have hl:=hT.len;unfold oa at hf;simp only[zz8,xx8,zzv]at hf;rcases hf with rfl|⟨l,⟨r,hr,rfl⟩,hf⟩
 ·exact lF (by omega)
 obtain⟨k1,k2,k3⟩:=hT.rows r hr;unfold s6 at hf;simp only[zz8,xxj,vvw]at hf;rcases hf with rfl|rfl
 ·exact lF (by omega)
 exact .inr ⟨rfl,rfl,by show r.val.size<=4096;omega⟩
def jf(aw:Int)(ts:List (List Row)):Φ:=eQ (mO aw ts).length 2++((mO aw ts).map fr).flatten
def a_7(s:Η):(fr (tF s)).length=3+s.size:=by
 show (gO 2::(eQ (s.size:Nat) 2++s.data.toList)).length=_;rw[zzh,zza,lJ];have:s.data.toList.length=s.size:=rfl;omega
def A'{aw:Int}{ts:List (List Row)}(h:i_ aw ts=true):(jf aw ts).length<=360000:=by
 obtain⟨h1,h2⟩:=sD.1 h;unfold jf mO;rw[zza,lJ];simp only[zzs,zzo,yy4,yys,zz5,xxz,zza,zzx,u_];rw[Cb,xxs];have k:=uf (f:=(λx=>(x.map fr).flatten)∘oa) (k:=44009) ts λC hC=>by
  have hT:=h2 C hC;have hl:=hT.len;show (((oa C).map fr).flatten).length<=44009;unfold oa;rw[zzo,zz5,zza,u_,Cb,xxs];have k2:=uf (f:=(λx=>(x.map fr).flatten)∘s6) (k:=44) C λr hr=>by
   have:=(hT.rows r hr).2.2;show (((s6 r).map fr).flatten).length<=44;unfold s6;simp only[zzo,yy4,zz5,xxz,zza,yyp,u_,a_7];omega
  have:C.length*44<=1000*44:=yyt _ hl;omega
 have:ts.length*44009<=8*44009:=yyt _ h1.2.2.2;omega
def UB{aw:Int}{ts:List (List Row)}(h:i_ aw ts=true):n_ (mO aw ts)= .ok (jf aw ts)/\jz (jf aw ts)= .ok (mO aw ts):=
 Hy (l:=mO aw ts) (by have:=bwy h;omega) (bwx h)
def Ew(aw:Int)(ts:List (List Row)):Except Int (Φ):=if i_ aw ts=true then .ok (cZ (jf aw ts)) else .error 1
def bYu(x:Int × Η):Row:=⟨x.1,x.2⟩
def vQ:cY->Row × cY:=xK bYu (tM fu λ_=>pd)
def rJ:cY->List Row × cY:=xK Prod.snd (wB (dB 1000) (iR vQ))
def Vv(x:Int × (Int × List (List Row))):Int × List (List Row):=(x.1,x.2.2)
def mA:cY->(Int × List (List Row)) × cY:=xK Vv (tM fu λ_=>wB (dB 8) (kN rJ))
def uH(l:List dD):Option (Int × List (List Row)):=
 let x:=mA ⟨l,false⟩
 if x.2.bad=false/\x.2.l=[]/\i_ x.1.1 x.1.2=true then some x.1 else none
def kq(b:Φ):Option (Int × List (List Row)):=match gQ b with
 | .error _=>none
 | .ok (p,n)=>if n=b.length then (match jz p with
  | .error _=>none
  | .ok l=>uH l) else none
def aWo{b:Φ}{x:Int × List (List Row)}(h:kq b=some x):i_ x.1 x.2=true:=by
 unfold kq at h;split at h
 ·cases h
 split at h
 ·split at h
  ·cases h
  unfold uH at h;simp only at h;split at h
  ·rename_i hc;cases h;exact hc.2.2
  cases h
 cases h
def cxb{r:Row}{l:List dD}:vQ ⟨s6 r++l,false⟩=(r,⟨l,false⟩):=rfl
def cBi{C:List Row}{l:List dD}(h:C.length<=1000):rJ ⟨oa C++l,false⟩=(C,⟨l,false⟩):=by
 unfold rJ wB xK tM oa;rw[zzu,pc (by omega)];simp only[zzw];rw[FN C l λr _ l=>cxb]
def bWg{aw:Int}{ts:List (List Row)}(h:i_ aw ts=true):mA ⟨mO aw ts,false⟩=((aw,ts),⟨[],false⟩):=by
 obtain⟨h1,h2⟩:=sD.1 h;have e0:mO aw ts=iF aw::(iF ts.length::((ts.map oa).flatten++[])):=by unfold mO;simp
 rw[e0];have e1:∀l,fu ⟨iF aw::l,false⟩=(aw,⟨l,false⟩):=λl=>rfl;have e2:∀l,dB 8 ⟨iF ts.length::l,false⟩=((ts.length:Int),⟨l,false⟩):=λl=>pc (by omega);have e3:∀l,kN rJ ts.length ⟨(ts.map oa).flatten++l,false⟩=(ts,⟨l,false⟩):=λl=>FM ts l λC hC l=>cBi (h2 C hC).len;unfold mA wB xK tM Vv;simp only[e1,e2,e3,zzw]
def RJ{b p:Φ}{n:Nat}(ht:gQ b= .ok (p,n))(hn:n=b.length){l:List dD}(hd:jz p= .ok l):kq b=uH l:=by
 unfold kq;rw[ht];simp only;rw[zzc hn,hd]
def bWf{l:List dD}{x:Int × List (List Row)}(h:mA ⟨l,false⟩=(x,⟨[],false⟩))(hm:i_ x.1 x.2=true):uH l=some x:=by
 unfold uH;rw[h];simp only;rw[zzc ⟨trivial,trivial,hm⟩]
def RL{aw:Int}{ts:List (List Row)}(h:i_ aw ts=true):kq (cZ (jf aw ts))=some (aw,ts):=by
 have hl:=A' h;have h1:=(UB h).2;have h2:=bWg h;generalize jf aw ts=p at *
 have ht:=KA (p:=p) (r:=[]) (by omega);rw[zzx]at ht
 exact (RJ ht (kD p).symm h1).trans (bWf h2 h)
abbrev iI:=List (List Row)
def gX(ts:iI)(t:Int):List Row:=if t<0 then [] else (ts[t.toNat]?).getD []
def kj(ts:iI)(c:eh):iI:=ts.set c.table.toNat (lq (gX ts c.table) c)
def fV(ts:iI)(l:List eh):iI:=l.foldl kj ts
def hY(n:Nat)(c:eh):Bool:=decide (0<=c.table/\c.table<(n:Int))
def mr(ts:iI)(l:List eh):Bool:=l.all (hY ts.length) && (fV ts l).all λC=>decide (C.length<=1000)
def wj(ts:iI)(c:eh):(kj ts c).length=ts.length:=yyh
def tV(ts:iI):∀l:List eh,(fV ts l).length=ts.length:=λl=>by
 unfold fV;induction l generalizing ts with
 | nil=>rfl
 | cons c l ih=>rw[xx4,ih,wj]
def aw4(ts:iI)(l m:List eh):fV ts (l++m)=fV (fV ts l) m:=wws
def P2(ts:iI)(l:List eh)(c:eh):fV ts (l++[c])=kj (fV ts l) c:=by rw[aw4];rfl
def nR(ts:iI)(t:Nat)(h:t<ts.length):gX ts t=ts[t]:=by
 unfold gX;rw[zzb (by omega),zzw,zzd h];rfl
def DK{ts:iI}{t:Int}(h:0<=t/\t<ts.length):gX ts t∈ts:=by
 obtain⟨n,rfl⟩:∃n:Nat,t=n:=⟨t.toNat,by omega⟩;rw[nR ts n (by omega)];exact zzg _
structure nm(C:List Row):Prop where
 sorted:f_ C
 rows:∀r∈C,sH r
def nm.app{C:List Row}(h:nm C){c:eh}{k:Int}(hc:mB c k=true):nm (lq C c):=by
 have hm:=xM.1 hc;unfold lq;split
 ·exact⟨W5 h.sorted _,λr hr=>h.rows r (Vn hr)⟩
 refine⟨Km h.sorted _,λr hr=>?_⟩;rcases Vp hr with rfl|hr
 ·exact⟨by show 1<=c.key;omega,by show c.key<=_;omega,by show c.val.size<=_;omega⟩
 exact h.rows r hr
def Wt:nm []:=⟨List.Pairwise.nil,by simp⟩
def cw7(C:List Row)(c:eh):(lq C c).length<=C.length+1:=by
 unfold lq;split
 ·have:=U7 C c.key;omega
 exact Jv C _
def JE{ts:iI}{c:eh}{C:List Row}(h:C∈kj ts c):C∈ts\/C=lq (gX ts c.table) c:=by
 unfold kj at h;exact vv2 h
def awq{ts:iI}(h:∀C∈ts,nm C){c:eh}{k:Int}(hc:mB c k=true)(ht:hY ts.length c=true):∀C∈kj ts c,nm C:=λC hC=>by
 rcases JE hC with hC|rfl
 ·exact h C hC
 exact (h _ (DK (zzm ht))).app hc
def Hh{k:Int}:∀{l:List eh} {ts:iI},(∀C∈ts,nm C)->(∀c∈l,mB c k=true)->(∀c∈l,hY ts.length c=true)->∀C∈fV ts l,nm C
 | [],ts,h,_,_=>h
 | c::l,ts,h,h1,h2=>by
  show ∀C∈fV (kj ts c) l,nm C;refine Hh (awq h (h1 c (.head _)) (h2 c (.head _))) (λx hx=>h1 x (.tail _ hx)) λx hx=>?_;rw[wj];exact h2 x (.tail _ hx)
def Ed(N:Nat):∀{l:List eh} {ts:iI},(∀C∈ts,C.length<=N)->(∀c∈l,hY ts.length c=true)->∀C∈fV ts l,C.length<=N+l.length
 | [],ts,h,_=>h
 | c::l,ts,h,h2=>by
  intro C hC;have hA:∀C∈kj ts c,C.length<=N+1:=λC hC=>by
   rcases JE hC with hC|rfl
   ·have:=h C hC;omega
   have h1:=cw7 (gX ts c.table) c;have h3:=h _ (DK (zzm (h2 c (.head _))));omega
  have:=Ed (N+1) (l:=l) hA (λx hx=>by rw[wj];exact h2 x (.tail _ hx)) C hC;rw[zzh];omega
structure cQ where
 g:cU
 d:DS
 ts:iI
 dV:Int
 image:Int
def iG(R:List PF)(n:Nat)(f:Int):Option (Int × iI):=match dJ PF.id R f with
 | none=>none
 | some x=>match kq x.b with
  | none=>none
  | some y=>if y.2.length=n then some y else none
abbrev rN:=Int × Int × iI
def gq(R:List PF)(n:Nat)(f:Int)(x:rN):rN:=match iG R n f with
 | none=>x
 | some y=>if 0<=x.1/\y.1<=x.2.1 then x else (f,y.1,y.2)
def lh(R:List PF)(n:Nat):rN:=gq R n 1 (gq R n 0 (-1,0,List.replicate n []))
def oB(n:Nat)(image:Int):List (Φ)->Int->iI->Option iI
 | [],_,ts=>some ts
 | b::r,aw,ts=>match lA b with
  | .error _=>none
  | .ok t=>if t.aw=aw/\(∀c∈t.changes,c.table<(n:Int)) then oB n image r (aw+1) (if image<aw then fV ts t.changes else ts) else none
def lk(d:DS)(cM size:Int):DS × Except Int cQ:=
 if cM<1\/8<cM then (d,.error 1)
 else match eV d 16 size with
  | (d',.error e)=>(d',.error e)
  | (d',.ok g)=>
   let x:=lh d'.R cM.toNat
   match oB cM.toNat x.2.1 (cR g.bF) (eZ g.bF) x.2.2 with
   | none=>(d',.error 3)
   | some ts=>if x.2.1<=cI g.bF/\eZ g.bF<=x.2.1+1 then (d',.ok ⟨g,d',ts,x.1,x.2.1⟩) else (d',.error 3)
abbrev gn:=nz
def cQ.gz(k:cQ)(t:cH):cQ × (Int × Int):=
 if k.d.off=true then (k,(0,8))
 else if mr k.ts t.changes=false\/1099511627776<=cI k.g.bF then (k,(0,7))
 else
  let r:=fj k.g k.d (gn {t with aw:=cI k.g.bF+1})
  if r.2.2=0 then ({k with g:=r.1.1,d:=r.1.2,ts:=fV k.ts t.changes},(cI k.g.bF+1,0)) else ({k with g:=r.1.1,d:=r.1.2},(0,r.2.2))
def cQ.nY(k:cQ)(sg:Ψ)(l:List eh):cQ × (Int × Int):=
 if eg ⟨1,1,l,sg,0⟩=true/\(∀c∈l,c.table<(k.ts.length:Int)) then k.gz ⟨1,1,l,sg,0⟩ else (k,(0,1))
def cQ.mX(k:cQ)(kind mark:Int):cQ × (Int × Int):=
 if (kind=2\/kind=3)/\eg ⟨1,kind,[],[],mark⟩=true then k.gz ⟨1,kind,[],[],mark⟩ else (k,(0,1))
def cQ.gP(k:cQ)(aw:Int):Except Int cH:=match mE k.g.bF aw with
 | none=>.error 5
 | some b=>lA b
def jq(k:cQ):Int:=if k.dV=0 then 1 else 0
def jK(d:DS)(f:Int)(b:Φ):DS × Int:=
 let c:=if 0<=gf d.R f then d.cut f 0 else (d,0)
 if c.2≠0 then c else
 let a:=c.1.append f b
 if a.2≠0 then a else a.1.sync f
def cQ.h_(k:cQ):cQ × Int:=
 let r:=jK k.d (jq k) (cZ (jf (cI k.g.bF) k.ts))
 if r.2=0 then ({k with d:=r.1,dV:=jq k,image:=cI k.g.bF},0) else ({k with d:=r.1},r.2)
def cQ.gY(k:cQ)(aw:Int):cQ × Int:=
 if aw<0\/cI k.g.bF<aw then (k,1)
 else if k.d.off=true then (k,8)
 else
  let r:=if k.image<aw then k.h_ else (k,0)
  if r.2≠0 then r else
  let t:=gR r.1.g r.1.d aw
  ({r.1 with g:=t.1.1,d:=t.1.2},t.2)
def nU(C:List Row)(key:Int)(n:Int):List Row:=(C.filter λr=>decide (key<r.key)).take n.toNat
def cQ.wA(k:cQ)(t key n:Int):List Row:=nU (gX k.ts t) key n
structure dG(lo hi:Int)(A B M:List PF):Prop where
 a:∀x∈A,x.id<lo
 m:∀x∈M,lo<=x.id/\x.id<hi
 b:∀x∈B,hi<=x.id
def dh(A B:List PF)(d:DS):DS:={d with R:=A++d.R++B}
section
variable {lo hi:Int} {A B M:List PF}
def dG.cE(h:dG lo hi A B M){f:Int}(h1:lo<=f)(h2:f<hi):fk PF.id (A++M++B) f=A.length+fk PF.id M f:=by
 have eA:A.filter (λx=>decide (PF.id x<f))=A:=yy2.2 λx hx=>zzl (by have:=h.a x hx;omega);have eB:B.filter (λx=>decide (PF.id x<f))=[]:=vvf.2 λx hx=>by have:=h.b x hx;simp;omega
 unfold fk;rw[yy0,yy0,eA,eB,zzx,zza]
def dG.at_(h:dG lo hi A B M)(c:Nat)(hc:c<=M.length):(A++M++B)[A.length+c]?=if c<M.length then M[c]? else B[0]?:=by
 rw[zzk,yya (by omega),show A.length+c-A.length=c by omega];split
 ·rw[zzt (by omega)]
 rw[yya (by omega),show c-M.length=0 by omega]
def dG.is(h:dG lo hi A B M){f:Int}(h1:lo<=f)(h2:f<hi):ix PF.id (A++M++B) f=ix PF.id M f:=by
 unfold ix;rw[h.cE h1 h2,h.at_ _ (En M f)];by_cases hc:fk PF.id M f<M.length
 ·rw[zzc hc]
 rw[zzb hc,yyr (l:=M) (by omega)];cases hB:B[0]? with
 | none=>rfl
 | some y=>
  have:=h.b y (yy9 hB);simp;omega
def dG.get(h:dG lo hi A B M){f:Int}(h1:lo<=f)(h2:f<hi):dJ PF.id (A++M++B) f=dJ PF.id M f:=by
 unfold dJ;rw[h.is h1 h2];split
 ·rename_i hi;obtain⟨hl,_⟩:=tE hi;rw[h.cE h1 h2,h.at_ _ (by omega),zzc hl]
 rfl
def dG.put(h:dG lo hi A B M){x:PF}(h1:lo<=x.id)(h2:x.id<hi):fU PF.id (A++M++B) x=A++fU PF.id M x++B:=by
 have hc:=En (key:=PF.id) M x.id;unfold fU;rw[h.is h1 h2,h.cE h1 h2];have e1:(A++M++B).take (A.length+fk PF.id M x.id)=A++M.take (fk PF.id M x.id):=by
  rw[zzk,wwd,xxa hc]
 rw[e1];split
 ·rename_i hi;obtain⟨hl,_⟩:=tE hi;rw[zzk A M B,ww9,xxr,xxb (by omega)];simp only[zzk]
 rw[zzk A M B,xxr,xxb hc];simp only[zzk]
def dG.del(h:dG lo hi A B M){f:Int}(h1:lo<=f)(h2:f<hi):jA PF.id (A++M++B) f=A++jA PF.id M f++B:=by
 unfold jA;rw[h.is h1 h2];split
 ·rename_i hi;obtain⟨hl,_⟩:=tE hi;rw[h.cE h1 h2,zzk,List.eraseIdx_append_of_length_le (by omega),show A.length+fk PF.id M f-A.length=fk PF.id M f by omega,List.eraseIdx_append_of_lt_length hl,zzk]
 rfl
def dG.app(h:dG lo hi A B M){f:Int}(h1:lo<=f)(h2:f<hi)(b:Φ):kH (A++M++B) f b=A++kH M f b++B:=by
 unfold kH;rw[h.get h1 h2,h.put (x:=⟨f,_,_⟩) h1 h2]
def dG.rK(h:dG lo hi A B M){f:Int}(h1:lo<=f)(h2:f<hi)(g:PF->PF):ka (A++M++B) f g=A++ka M f g++B:=by
 unfold ka;rw[h.get h1 h2];split
 ·rw[h.put (x:={g _ with id:=f}) h1 h2]
 rfl
def dG.len(h:dG lo hi A B M){f:Int}(h1:lo<=f)(h2:f<hi):gf (A++M++B) f=gf M f:=by
 unfold gf;rw[h.get h1 h2]
def dG.KP{M':List PF}(h:dG lo hi A B M)(hm:∀x∈M',lo<=x.id/\x.id<hi):dG lo hi A B M':=⟨h.a,hm,h.b⟩
def dG.cK0(h:dG lo hi A B M){f:Int}(h1:lo<=f)(h2:f<hi)(b:Φ):dG lo hi A B (kH M f b):=h.KP λx hx=>by
 rcases Be hx with rfl|hx
 ·exact⟨h1,h2⟩
 exact h.m x hx
def dG.XX(h:dG lo hi A B M){f:Int}(h1:lo<=f)(h2:f<hi)(g:PF->PF):dG lo hi A B (ka M f g):=h.KP λx hx=>by
 rcases FT hx with hx|⟨y,_,_,rfl⟩
 ·exact h.m x hx
 exact⟨h1,h2⟩
def dG.cK4(h:dG lo hi A B M)(f:Int):dG lo hi A B (jA PF.id M f):=h.KP λx hx=>h.m x (FR hx)
end
section
variable {lo hi:Int} {A B:List PF} {d:DS}
def UE(f:Int):may (dh A B d) f=may d f:=rfl
def Jm(h:dG lo hi A B d.R){f:Int}(h1:lo<=f)(h2:f<hi):(dh A B d).find f=d.find f:=by
 unfold DS.find;rw[UE,show (dh A B d).R=A++d.R++B from rfl,h.is h1 h2]
def FF(h:dG lo hi A B d.R){f:Int}(h1:lo<=f)(h2:f<hi)(b:Φ):(dh A B d).append f b=(dh A B (d.append f b).1,(d.append f b).2)/\dG lo hi A B (d.append f b).1.R:=by
 unfold DS.append;rw[UE];split
 ·exact⟨rfl,h⟩
 rw[show (dh A B d).R=A++d.R++B from rfl,h.app h1 h2];exact⟨rfl,h.cK0 h1 h2 b⟩
def Jo(h:dG lo hi A B d.R){f:Int}(h1:lo<=f)(h2:f<hi):(dh A B d).sync f=(dh A B (d.sync f).1,(d.sync f).2)/\dG lo hi A B (d.sync f).1.R:=by
 unfold DS.sync;rw[Jm h h1 h2];split
 ·exact⟨rfl,h⟩
 rw[show (dh A B d).cE.off=d.cE.off from rfl];split
 ·exact⟨rfl,h⟩
 rw[show (dh A B d).R=A++d.R++B from rfl,h.rK h1 h2];exact⟨rfl,h.XX h1 h2 _⟩
def FG(h:dG lo hi A B d.R){f:Int}(h1:lo<=f)(h2:f<hi)(n:Int):(dh A B d).cut f n=(dh A B (d.cut f n).1,(d.cut f n).2)/\dG lo hi A B (d.cut f n).1.R:=by
 unfold DS.cut;rw[Jm h h1 h2,show (dh A B d).R=A++d.R++B from rfl,h.len h1 h2];split
 ·exact⟨rfl,h⟩
 split
 ·exact⟨rfl,h⟩
 rw[show (dh A B d).cE.off=d.cE.off from rfl];split
 ·exact⟨rfl,h⟩
 rw[h.rK h1 h2];exact⟨rfl,h.XX h1 h2 _⟩
def Jn(h:dG lo hi A B d.R){f:Int}(h1:lo<=f)(h2:f<hi):(dh A B d).remove f=(dh A B (d.remove f).1,(d.remove f).2)/\dG lo hi A B (d.remove f).1.R:=by
 unfold DS.remove;rw[Jm h h1 h2];split
 ·exact⟨rfl,h⟩
 rw[show (dh A B d).cE.off=d.cE.off from rfl];split
 ·exact⟨rfl,h⟩
 rw[show (dh A B d).R=A++d.R++B from rfl,h.del h1 h2];exact⟨rfl,h.cK4 f⟩
structure ng(lo hi:Int)(g:cU):Prop where
 b0:lo<=g.base
 b1:g.base+4096<=hi
 bF:∀s∈g.bF,g.base<=s.file/\s.file<g.base+4096
 du:∀x,g.du=some x->g.base<=x.file/\x.file<g.base+4096
def V'{g:cU}(h:ng lo hi g){off:Bool}{p:Φ}{x:hU}(hx:eN g off p= .ok x):g.base<=x.file/\x.file<g.base+4096:=by
 have hf:∀f,g.base<=f->mu g f p= .ok x->g.base<=x.file/\x.file<g.base+4096:=λf hb hf=>by
  unfold mu at hf;split at hf
  ·cases hf
  cases hf;exact⟨hb,by dsimp only;omega⟩
 unfold eN at hx;split at hx
 ·cases hx
 split at hx
 ·cases hx
 split at hx
 ·cases hx
 split at hx
 ·exact hf _ (yyd _) hx
 rename_i s hs;have hs:=h.bF s (xxu hs);split at hx
 ·cases hx;exact hs
 exact hf _ (by omega) hx
def Vt{g:cU}(hg:ng lo hi g)(h:dG lo hi A B d.R):de g (dh A B d)=(((de g d).1.1,dh A B (de g d).1.2),(de g d).2)/\dG lo hi A B (de g d).1.2.R/\ng lo hi (de g d).1.1:=by
 unfold de;cases ht:g.du with
 | none=>exact⟨rfl,h,hg⟩
 | some x=>
  have hx:=hg.du x ht;have h1:=hg.b0;have h2:=hg.b1;simp only;split
  ·obtain⟨e,hw⟩:=Jn h (f:=x.file) (by omega) (by omega);rw[e];refine⟨rfl,hw,hg.b0,hg.b1,hg.bF,λy hy=>?_⟩;simp only at hy;split at hy
   ·cases hy
   cases hy;exact hx
  obtain⟨e,hw⟩:=FG h (f:=x.file) (by omega) (by omega) x.oe;rw[e];refine⟨rfl,hw,hg.b0,hg.b1,hg.bF,λy hy=>?_⟩;simp only at hy;split at hy
  ·cases hy
  cases hy;exact hx
def cnh{L:List da}{x:hU}{p:Φ}{P:Int->Prop}(hL:∀s∈L,P s.file)(hx:P x.file):∀s∈jD L x p,P s.file:=by
 unfold jD;have h1:∀s∈(if x.fresh=true then L++[⟨x.file,cI L+1,0,[]⟩] else L),P s.file:=by
  split
  ·intro s hs;rcases zz1.1 hs with hs|hs
   ·exact hL s hs
   rw[zz3.1 hs];exact hx
  exact hL
 intro s hs;simp only at hs;rcases zz1.1 hs with hs|hs
 ·exact h1 s (List.dropLast_subset _ hs)
 obtain⟨y,hy,rfl⟩:=zzv.1 hs;exact h1 y (xxu (by simpa using hy))
def Hg{g:cU}(hg:ng lo hi g)(h:dG lo hi A B d.R)(p:Φ):fj g (dh A B d) p=(((fj g d p).1.1,dh A B (fj g d p).1.2),(fj g d p).2)/\dG lo hi A B (fj g d p).1.2.R/\ng lo hi (fj g d p).1.1:=by
 unfold fj;rw[show (dh A B d).off=d.off from rfl];cases hp:eN g d.off p with
 | error e=>exact⟨rfl,h,hg⟩
 | ok x=>
  have hx:=V' hg hp;have h1:=hg.b0;have h2:=hg.b1;obtain⟨em,hm,pN⟩:=Vt hg h;simp only;rw[em];simp only;split
  ·exact⟨rfl,hm,pN⟩
  obtain⟨ea,ha⟩:=FF hm (f:=x.file) (by omega) (by omega) x.b;rw[ea];simp only;split
  ·exact⟨rfl,ha,pN⟩
  obtain⟨es,hs⟩:=Jo ha (f:=x.file) (by omega) (by omega);rw[es];simp only;split
  ·exact⟨rfl,hs,pN⟩
  refine⟨rfl,hs,pN.b0,pN.b1,?_,pN.du⟩;have ur:(de g d).1.1.base=g.base:=(tH g d).2.1;show ∀s∈jD (de g d).1.1.bF x p,(de g d).1.1.base<=s.file/\s.file<(de g d).1.1.base+4096;exact cnh (P:=λf=>(de g d).1.1.base<=f/\f<(de g d).1.1.base+4096) pN.bF (by rw[ur];exact hx)
def Xx(n:Int):∀(L:List da) (d:DS),(∀s∈L,lo<=s.file/\s.file<hi)->dG lo hi A B d.R->gE L (dh A B d) n=(((gE L d n).1.1,dh A B (gE L d n).1.2),(gE L d n).2)/\dG lo hi A B (gE L d n).1.2.R
 | [],d,_,h=>⟨rfl,h⟩
 | [s],d,_,h=>⟨rfl,h⟩
 | s::t::r,d,hL,h=>by
  unfold gE;obtain⟨e,hw⟩:=Jn h (hL s (.head _)).1 (hL s (.head _)).2;split
  ·rw[e];simp only;split
   ·exact⟨rfl,hw⟩
   exact Xx n (t::r) _ (λs hs=>hL s (.tail _ hs)) hw
  exact⟨rfl,h⟩
def Xt{g:cU}(hg:ng lo hi g)(h:dG lo hi A B d.R)(n:Int):gR g (dh A B d) n=(((gR g d n).1.1,dh A B (gR g d n).1.2),(gR g d n).2)/\dG lo hi A B (gR g d n).1.2.R/\ng lo hi (gR g d n).1.1:=by
 unfold gR;rw[show (dh A B d).off=d.off from rfl];split
 ·exact⟨rfl,h,hg⟩
 have h1:=hg.b0;have h2:=hg.b1;obtain⟨e,hw⟩:=Xx n g.bF d (λs hs=>by have:=hg.bF s hs;omega) h;rw[e];exact⟨rfl,hw,hg.b0,hg.b1,λs hs=>hg.bF s ((KB n g.bF d).1 s hs),hg.du⟩
def bV5{M:List PF}{base:Int}(h:dG base (base+4096) A B M):fJ base (A++M++B)=fJ base M:=by
 have eA:(A.map PF.id).filter (λf=>decide (base<=f/\f<base+4096))=[]:=vvf.2 λf hf=>by
  obtain⟨x,hx,rfl⟩:=zzv.1 hf;have:=h.a x hx;simp;omega
 have eB:(B.map PF.id).filter (λf=>decide (base<=f/\f<base+4096))=[]:=vvf.2 λf hf=>by
  obtain⟨x,hx,rfl⟩:=zzv.1 hf;have:=h.b x hx;simp;omega
 unfold fJ;rw[zzs,zzs,yy0,yy0,eA,eB,zzq,zzx]
def bXr{M:List PF}{L:List da}{f:Int}{last:Bool}(h:dG lo hi A B M)(h1:lo<=f)(h2:f<hi):iY L (A++M++B) f last=iY L M f last:=by
 unfold iY;rw[h.get h1 h2]
def Vb{M:List PF}(h:dG lo hi A B M):∀(ids:Ω) (prev:Option Int) (L:List da) (wh:Bool),(∀f∈ids,lo<=f/\f<hi)->lI (A++M++B) ids prev L wh=lI M ids prev L wh
 | [],_,_,_,_=>rfl
 | f::r,prev,L,wh,hi=>by
  unfold lI;rw[bXr h (hi f (.head _)).1 (hi f (.head _)).2];simp only;rw[Vb h r _ _ _ λf hf=>hi f (.tail _ hf)]
def Uy{M:List PF}{base f:Int}(h:f∈fJ base M):base<=f/\f<base+4096:=by
 unfold fJ at h;exact zzm (xx6.1 h).2
def aFt{L:List da}{base:Int}{ids:Ω}{wh:Bool}(h:dG base (base+4096) A B d.R)(hi:∀f∈ids,base<=f/\f<base+4096):jl L (dh A B d) ids wh=(dh A B (jl L d ids wh).1,(jl L d ids wh).2)/\dG base (base+4096) A B (jl L d ids wh).1.R:=by
 unfold jl;cases hl:ids.getLast? with
 | none=>exact⟨rfl,h⟩
 | some f=>
  obtain⟨h1,h2⟩:=hi f (xxu hl);simp only;split
  ·exact Jn h h1 h2
  rw[show (dh A B d).R=A++d.R++B from rfl,h.len h1 h2];split
  ·exact FG h h1 h2 _
  exact⟨rfl,h⟩
def Bi{base size:Int}(h:dG base (base+4096) A B d.R):eV (dh A B d) base size=(dh A B (eV d base size).1,(eV d base size).2)/\dG base (base+4096) A B (eV d base size).1.R:=by
 unfold eV;split
 ·exact⟨rfl,h⟩
 rw[show (dh A B d).off=d.off from rfl,show (dh A B d).R=A++d.R++B from rfl,bV5 h,Vb h _ _ _ _ λf hf=>Uy hf];split
 ·exact⟨rfl,h⟩
 split
 ·exact⟨rfl,h⟩
 rename_i L wh _;obtain⟨e,hw⟩:=aFt (L:=L) (wh:=wh) h λf hf=>Uy hf;rw[e];simp only;split
 ·exact⟨rfl,hw⟩
 exact⟨rfl,hw⟩
end
def Rw(A M B:List PF)(keep:Ω):eT (A++M++B) keep=eT A keep++eT M (keep.drop A.length)++eT B (keep.drop (A.length+M.length)):=by
 have hm:∀(L:List PF) (k:Nat),(L.mapIdx λi=>iV keep (i+k))=eT L (keep.drop k):=λL k=>by
  unfold eT;congr 1
  funext i x
  unfold iV jO;rw[wwj,uu0 k i]
 conv=>lhs;unfold eT
 rw[uu2,uu2,zza,hm M A.length,hm B (A.length+M.length)];rfl
def Ry(R:List PF)(keep:Ω):(eT R keep).map PF.id=R.map PF.id:=by
 unfold eT;refine xxp (by simp) λi h1 h2=>?_;rw[xxy,vv3,xxy];rfl
def Dp{R:List PF}{keep:Ω}{y:PF}(h:y∈eT R keep):∃x∈R,x.id=y.id:=by
 have h1:y.id∈(eT R keep).map PF.id:=vv4 h;rw[Ry]at h1
 obtain⟨x,hx,e⟩:=zzv.1 h1;exact⟨x,hx,e⟩
def dG.eD{lo hi:Int}{A B M:List PF}(h:dG lo hi A B M)(keep k2 k3:Ω):dG lo hi (eT A keep) (eT B k3) (eT M k2):=
 ⟨λx hx=>by obtain⟨y,hy,e⟩:=Dp hx;rw[<- e];exact h.a y hy,λx hx=>by obtain⟨y,hy,e⟩:=Dp hx;rw[<- e];exact h.m y hy,λx hx=>by obtain⟨y,hy,e⟩:=Dp hx;rw[<- e];exact h.b y hy⟩
def fF(n:Nat)(l:List cH):iI:=(List.range n).map λt:Nat=>wP (t:Int) l
def pZ(n:Nat)(l:List cH):(fF n l).length=n:=by unfold fF;simp
def Xj{n:Nat}(l:List cH)(t:Nat)(h:t<n):gX (fF n l) t=wP (t:Int) l:=by
 rw[nR _ t (by rw[pZ];exact h)];unfold fF;simp
def cBf{ts:iI}{c:eh}(h:hY ts.length c=true)(t:Nat)(ht:t<ts.length):gX (kj ts c) t=u0 t (gX ts t) c:=by
 have hc:0<=c.table/\c.table<(ts.length:Int):=zzm h;rw[nR _ t (by rw[wj];exact ht)];unfold kj u0;rw[xxi];by_cases e:c.table=t
 ·rw[zzc (by omega),zzc e,e];rfl
 rw[zzb (by omega),zzb e,nR ts t ht]
def Xg:∀{l:List eh} {ts:iI},(∀c∈l,hY ts.length c=true)->∀t:Nat,t<ts.length->gX (fV ts l) t=l.foldl (u0 t) (gX ts t)
 | [],ts,_,t,_=>rfl
 | c::l,ts,h,t,ht=>by
  show gX (fV (kj ts c) l) t=_;rw[Xg (λx hx=>by rw[wj];exact h x (.tail _ hx)) t (by rw[wj];exact ht),cBf (h c (.head _)) t ht];rfl
def cBk{a b:iI}(hl:a.length=b.length)(h:∀t:Nat,t<a.length->gX a t=gX b t):a=b:=
 xxp hl λt h1 h2=>by have:=h t h1;rw[nR a t h1,nR b t h2]at this;exact this
def Gq{n:Nat}{l:List cH}{t:cH}(h:∀c∈t.changes,hY n c=true):fV (fF n l) t.changes=fF n (l++[t]):=by
 have hl:=pZ n l;have h':∀c∈t.changes,hY (fF n l).length c=true:=λc hc=>by rw[hl];exact h c hc
 refine cBk (by rw[tV,pZ,pZ]) λi hi=>?_;rw[tV,hl]at hi
 rw[Xg h' i (by rw[hl];exact hi),Xj l i hi,Xj _ i hi];unfold wP;simp
def Kx(n:Nat):fF n []=List.replicate n []:=by
 unfold fF wP;refine xxp (by simp) λi h1 h2=>by simp
structure sS(n:Nat)(all:List cH):Prop where
 may:∀t∈all,eg t=true
 aw:∀i (h:i<all.length),all[i].aw=(i:Int)+1
 ch:∀t∈all,∀c∈t.changes,hY n c=true
def Rf{t:cH}(h:eg t=true):lA (gn t)= .ok t:=Rg h
def Wp{n:Nat}{all:List cH}(h:sS n all)(m:Nat):∀(k j:Nat),j+k=all.length->oB n m ((all.drop j).map gn) ((j:Int)+1) (fF n (all.take (max j m)))=some (fF n (all.take (max all.length m)))
 | 0,j,hj=>by
  rw[yy3 (by omega),show j=all.length by omega];rfl
 | k+1,j,hj=>by
  have hl:j<all.length:=by omega
  have ih:=Wp h m k (j+1) (by omega);have hm:=h.may _ (zzg hl);have l5:=h.ch _ (zzg hl);rw[yyq hl,zzo,oB,Rf hm];simp only;rw[zzc ⟨h.aw j hl,λc hc=>(zzm (l5 c hc)).2⟩];have e:(if (m:Int)<(j:Int)+1 then fV (fF n (all.take (max j m))) all[j].changes else fF n (all.take (max j m)))=fF n (all.take (max (j+1) m)):=by
   split
   ·rw[show max j m=j by omega,show max (j+1) m=j+1 by omega,Gq l5,zze hl]
   rw[show max j m=m by omega,show max (j+1) m=m by omega]
  rw[e,show (j:Int)+1+1=((j+1:Nat):Int)+1 by omega];exact ih
def Xk{n:Nat}:∀(k:Nat) (l:List cH),l.length=k->(∀t∈l,eg t=true)->(∀t∈l,∀c∈t.changes,hY n c=true)->(∀C∈fF n l,nm C)
 | 0,l,hl,_,_=>by
  rw[zzp hl,Kx];intro C hC;rw[vvb hC];exact Wt
 | k+1,l,hl,h1,h2=>by
  have dO:l≠[]:=λe=>by rw[e]at hl;cases hl
  obtain⟨l',t,rfl⟩:∃l' t,l=l'++[t]:=⟨l.dropLast,l.getLast dO,(List.dropLast_concat_getLast dO).symm⟩;have l5:=h2 t (by simp);rw[zza,zz7]at hl
  rw[<- Gq l5];exact Hh (k:=8) (Xk k l' (by omega) (λx hx=>h1 x (by simp[hx])) λx hx=>h2 x (by simp[hx])) (λc hc=>(l_ (h1 t (by simp))).2.2.2.2.2.1 c hc) λc hc=>by rw[pZ];exact l5 c hc
def Ky{n:Nat}{l:List cH}(h1:∀t∈l,eg t=true)(h2:∀t∈l,∀c∈t.changes,hY n c=true):∀C∈fF n l,nm C:=Xk l.length l rfl h1 h2
def Xy(k:Int):∀(L:List da) (f n:Int) (d:DS),gG f n L->d.R=L.map ez->d.off=false->0<=d.arm->0<=f->f+L.length<=16384 ->
  ∃d' i e,gE L d k=((L.drop i,d'),e)/\(i<L.length\/i=0)/\d'.R=(L.drop i).map ez/\(i=0\/n+(cR (L.take i)).length<=k+1)/\d'.ops<=d.ops+L.length/\0<=d'.arm/\d'.arm<=d.arm /\
   ((e=0/\d'.off=false/\(d.arm=0->d'.arm=0))\/(e=8/\d'.off=true/\d.arm≠0))
 | [],f,n,d,_,hR,ho,ha,_,_=>⟨d,0,0,rfl,.inr rfl,hR,.inl rfl,by simp,ha,yyd _,.inl ⟨rfl,ho,λh=>h⟩⟩
 | [s],f,n,d,_,hR,ho,ha,_,_=>⟨d,0,0,rfl,.inr rfl,hR,.inl rfl,by simp,ha,yyd _,.inl ⟨rfl,ho,λh=>h⟩⟩
 | s::t::L,f,n,d,hc,hR,ho,ha,h0,h1=>by
  have sx:=hc.sX.sorted;obtain⟨c1,c2,c3,c4,c5,c6⟩:=hc;rw[gE];by_cases hk:s.next-1<=k
  ·rw[zzc hk];have mS:d.find s.file=0:=by
    unfold DS.find;have hm:may d s.file=0:=by
     unfold may;rw[zzb (by simp[ho]),zzb (by simp at h1;omega)]
    rw[zzb (by simp[hm]),hR,zzc];exact (xF sx).2 ⟨ez s,by simp,rfl⟩
   by_cases AD:d.arm=1
   ·have xy:d.remove s.file=(d.cE,8):=by
     unfold DS.remove;rw[zzb (by simp[mS]),zzc (by simp[DS.cE,AD])]
    rw[xy];exact⟨d.cE,0,8,by rw[zzc (by simp)];rfl,.inr rfl,hR,.inl rfl,by simp only[DS.cE,zzh];omega,by simp[DS.cE,AD],by simp[DS.cE,AD],.inr ⟨rfl,by simp[DS.cE,AD],by omega⟩⟩
   have xy:d.remove s.file=({d.cE with R:=(t::L).map ez},0):=by
    unfold DS.remove;rw[zzb (by simp[mS]),zzb (by simp[DS.cE,AD])];have:jA PF.id d.R s.file=(t::L).map ez:=by rw[hR];exact aWz (x:=ez s) sx
    rw[this]
   rw[xy];have Tc:0<=d.cE.arm/\d.cE.arm<=d.arm:=by
    simp only[DS.cE];split<;>omega
   obtain⟨d',i,e,r1,r2,r3,r6,r7,r8,Kc,r9⟩:=Xy k (t::L) (f+1) (n+s.l.length) {d.cE with R:=(t::L).map ez} c6 rfl (by simp[DS.cE,AD]) Tc.1 (by omega) (by simp at h1 ⊢;omega);refine⟨d',i+1,e,by rw[zzb (by simp)];exact r1,?_,r3,.inr ?_,?_,r8,tth Kc Tc.2,?_⟩
   ·rcases r2 with r2|r2
    ·exact .inl (by simp at r2 ⊢;omega)
    exact .inl (by simp;omega)
   ·rw[xxq,pB,zza];rcases r6 with r6|r6
    ·subst r6;simp only[da.next,c2]at hk;simp[cR];omega
    omega
   ·simp only[DS.cE,zzh]at r7 ⊢;omega
   have hz:({d.cE with R:=(t::L).map ez}:DS).arm=d.cE.arm:=rfl;rcases r9 with ⟨e1,e2,e3⟩|⟨e1,e2,e3⟩
   ·exact .inl ⟨e1,e2,λh=>e3 (by rw[hz];simp[DS.cE,h])⟩
   exact .inr ⟨e1,e2,λh=>e3 (by rw[hz];simp[DS.cE,h])⟩
  rw[zzb hk];exact⟨d,0,0,rfl,.inr rfl,hR,.inl rfl,by omega,ha,yyd _,.inl ⟨rfl,ho,λh=>h⟩⟩
structure Laid(g:cU)(d:DS)(f n:Int)(es:List (Φ)):Prop where
 chain:gG f n g.bF
 gv:cR g.bF=es
 files:d.R=g.bF.map ez
 nil:g.bF=[]->f=g.base/\n=1
 base:g.base<=f
 b0:0<=g.base
 b1:g.base<=12288
 s0:64<=g.size
 s1:g.size<=65536
 n1:1<=n
 fi:f+es.length+2<=g.base+4096
 du:g.du=none
def gw.laid{g:cU}{d:DS}{f n:Int}{es:List (Φ)}(h:gw g d f n es):Laid g d f n es:=⟨h.chain,h.gv,h.files,h.nil,h.base,h.b0,h.b1,h.s0,h.s1,h.n1,h.fi,h.du⟩
def Laid.inv{g:cU}{d:DS}{f n:Int}{es:List (Φ)}(h:Laid g d f n es)(ho:d.off=false):gw g d f n es:=⟨h.chain,h.gv,h.files,h.nil,h.base,h.b0,h.b1,h.s0,h.s1,h.n1,h.fi,ho,h.du⟩
def Laid.sM{g:cU}{d d':DS}{f n:Int}{es:List (Φ)}(h:Laid g d f n es)(hR:d'.R=d.R):Laid g d' f n es:=⟨h.chain,h.gv,hR.trans h.files,h.nil,h.base,h.b0,h.b1,h.s0,h.s1,h.n1,h.fi,h.du⟩
def cCj{g:cU}{d:DS}{f n:Int}{es:List (Φ)}(h:gw g d f n es)(ha:0<=d.arm)(k:Int)(xa:f+es.length+1<=16384):
  ∃(g':cU) (d':DS) (f':Int) (i:Nat) (e:Int),gR g d k=((g',d'),e)/\Laid g' d' f' (n+i) (es.drop i)/\i<=es.length/\(g.bF≠[]->g'.bF≠[])/\(∀s∈g'.bF,s∈g.bF)/\(i=0\/n+i<=k+1)/\d'.ops<=d.ops+g.bF.length/\g'.base=g.base/\g'.size=g.size/\f<=f'/\f'<=f+i/\0<=d'.arm/\d'.arm<=d.arm /\
   ((e=0/\d'.off=false/\(d.arm=0->d'.arm=0))\/(e=8/\d'.off=true/\d.arm≠0)):=by
 have hle:=h.chain.sB;rw[h.gv]at hle
 have hb:=h.base;have tg:=h.b0;obtain⟨d',i,e,r1,r2,r3,r6,r7,r8,Kc,r9⟩:=Xy k g.bF f n d h.chain h.files h.off ha (by omega) (by omega);have EZ:=h.chain;rw[<- yyl i g.bF]at EZ
 obtain⟨k1,k2,k3⟩:=gG.app.1 EZ;have Tu:cR (g.bF.take i)++cR (g.bF.drop i)=es:=by rw[<- wK,yyl,h.gv]
 have vp:(cR (g.bF.take i)).length+(cR (g.bF.drop i)).length=es.length:=by rw[<- Tu,zza]
 have cx:(g.bF.take i).length=i:=by
  rw[zzf];rcases r2 with r2|r2<;>omega
 have dO:g.bF≠[]->g.bF.drop i≠[]:=λhn e=>by
  have:=yyu List.length e;rw[zzr]at this
  simp at this;rcases r2 with r2|r2
  ·omega
  subst r2;exact hn (zzp (by omega))
 have hi:i<=(cR (g.bF.take i)).length:=by
  by_cases hd:g.bF.drop i=[]
  ·rcases r2 with r2|r2
   ·have:=yyu List.length hd;rw[zzr]at this;simp at this;omega
   omega
  have hA:=k2 hd;have gen:∀A:List da,(∀s∈A,s.l≠[])->A.length<=(cR A).length:=by
   intro A;induction A with
   | nil=>intro _;simp
   | cons a A ih=>
    intro hA;have h0:a.l.length≠0:=λe=>hA a (.head _) (zzp e);have:=ih λs hs=>hA s (.tail _ hs);rw[pB,zza,zzh];omega
  have:=gen _ hA;rw[cx]at this;exact this
 have bRj:es.drop (cR (g.bF.take i)).length=cR (g.bF.drop i):=by rw[<- Tu,wwo]
 refine⟨{g with bF:=g.bF.drop i},d',f+(g.bF.take i).length,(cR (g.bF.take i)).length,e,?_,⟨k3,bRj.symm,r3,λe=>?_,by show g.base<=_;omega,h.b0,h.b1,h.s0,h.s1,by have:=h.n1;omega,?_,h.du⟩,by omega,dO,λs hs=>vvt hs,?_,r7,rfl,rfl,by omega,by rw[cx];omega,r8,Kc,r9⟩
 ·unfold gR;rw[zzb (by simp[h.off]),r1]
 ·have:g.bF=[]:=Classical.byContradiction λhn=>dO hn e;have h2:=h.nil this;rw[this];simp[cR,h2]
 ·have:=h.fi;have e:(es.drop (cR (g.bF.take i)).length).length=es.length-(cR (g.bF.take i)).length:=zzr;show f+((g.bF.take i).length:Int)+((es.drop (cR (g.bF.take i)).length).length:Int)+2<=g.base+4096;rw[e];omega
 rcases r6 with r6|r6
 ·subst r6;left;simp[cR]
 exact .inr r6
def Laid.open{g:cU}{d:DS}{f n:Int}{es:List (Φ)}(h:Laid g d f n es)(keep:Ω)(n2:n+es.length<=1099511627776){size:Int}(s0:64<=size)(s1:size<=65536):
  eV (d.eD keep) g.base size=(d.eD keep,.ok ⟨g.bF,g.base,size,none⟩)/\gw ⟨g.bF,g.base,size,none⟩ (d.eD keep) f n es:=by
 have hR:(d.eD keep).R=g.bF.map ez:=by
  show eT d.R keep=_;rw[h.files,Rx]
 have hle:=h.chain.sB;rw[h.gv]at hle
 have tj:=h.fi;exact⟨JX h.chain hR rfl h.b0 h.b1 s0 s1 h.base (by omega) h.n1 (by rw[h.gv];exact n2),h.chain,h.gv,hR,h.nil,h.base,h.b0,h.b1,s0,s1,h.n1,h.fi,rfl,rfl⟩
structure lU(R R':List PF)(x:PF):Prop where
 sorted:fE PF.id R'
 xG:x∈R'
 other:∀y,y.id≠x.id->(y∈R'↔y∈R)
def bYn(R:List PF)(x:PF):x∈fU PF.id R x:=by unfold fU;simp
def W7{R:List PF}(hs:fE PF.id R){x y:PF}(hx:x∈R)(hy:y∈R)(e:x.id=y.id):x=y:=by
 have h1:=s8 hs hx;have h2:=s8 hs hy;rw[e,h2]at h1
 exact (xx5 h1).symm
def lU.put{R:List PF}(hs:fE PF.id R)(x:PF):lU R (fU PF.id R x) x:=by
 refine⟨F3 hs x,bYn R x,λy hy=>⟨λh=>?_,λh=>?_⟩⟩
 ·rcases Be h with rfl|h
  ·exact absurd rfl hy
  exact h
 cases hi:ix PF.id R x.id with
 | false=>exact (J' hs hi).mem_iff.2 (.tail _ h)
 | true=>
  obtain⟨hl,hk⟩:=tE hi;rw[F1 hi];obtain⟨j,hj,rfl⟩:=yyi h;have dO:fk PF.id R x.id≠j:=λe=>by subst e;exact hy hk
  have:(R.set (fk PF.id R x.id) x)[j]'(by simpa using hj)=R[j]:=List.getElem_set_ne dO _;rw[<- this];exact zzg _
def lU.trans{R R1 R2:List PF}{x y:PF}(h1:lU R R1 x)(h2:lU R1 R2 y)(e:x.id=y.id):lU R R2 y:=
 ⟨h2.sorted,h2.xG,λz hz=>(h2.other z hz).trans (h1.other z (by rw[e];exact hz))⟩
def lU.mem{R R':List PF}{x y:PF}(h:lU R R' x)(hy:y∈R'):y=x\/(y∈R/\y.id≠x.id):=by
 by_cases e:y.id=x.id
 ·exact .inl (W7 h.sorted hy h.xG e)
 exact .inr ⟨(h.other y e).1 hy,e⟩
def XD{R:List PF}{f:Int}{x:PF}(h:dJ PF.id R f=some x)(g:PF->PF):ka R f g=fU PF.id R {g x with id:=f}:=by
 unfold ka;rw[h]
def Vl{d:DS}{f:Int}(f0:0<=f)(f1:f<16384)(h:d.off=false):may d f=0:=by
 unfold may;rw[zzb (by simp[h]),zzb (by omega)]
def aRl(d:DS)(h:0<=d.arm):0<=d.cE.arm/\d.cE.arm<=d.arm/\d.cE.ops=d.ops+1:=by
 refine⟨?_,?_,rfl⟩
 ·simp only[DS.cE];split<;>omega
 simp only[DS.cE];split<;>omega
def Sv{d:DS}{f:Int}(hs:fE PF.id d.R)(f0:0<=f)(f1:f<16384)(h:d.off=false){x:PF}(hx:x∈d.R)(e:x.id=f):d.find f=0:=by
 unfold DS.find;rw[Vl f0 f1 h,zzb (by decide),zzc ((xF hs).2 ⟨x,hx,e⟩)]
def aW9{d:DS}{f:Int}{b:Φ}(h:gf d.R f<0):jK d f b=if (d.append f b).2≠0 then d.append f b else (d.append f b).1.sync f:=by
 unfold jK;rw[zzb (show ¬0<=gf d.R f by omega)];simp only;rw[zzb (show ¬((0:Int)≠0) by decide)]
def aW8{d:DS}{f:Int}{b:Φ}(h:0<=gf d.R f):jK d f b=if (d.cut f 0).2≠0 then d.cut f 0 else if ((d.cut f 0).1.append f b).2≠0 then (d.cut f 0).1.append f b else ((d.cut f 0).1.append f b).1.sync f:=by
 unfold jK;rw[zzc h]
def aW7{d:DS}(hs:fE PF.id d.R){f:Int}(f0:0<=f)(f1:f<16384)(ho:d.off=false)(ha:0<=d.arm)(b:Φ):
  (∃d',jK d f b=(d',0)/\lU d.R d'.R ⟨f,b.length,b⟩/\d'.off=false/\0<=d'.arm/\d'.arm<=d.arm/\d'.ops<=d.ops+3) \/
  (∃d',jK d f b=(d',8)/\d'.off=true/\d.arm≠0/\0<=d'.arm/\d'.arm<=d.arm/\d'.ops<=d.ops+3/\(d'.R=d.R\/∃pre,(pre=[]\/pre=b)/\lU d.R d'.R ⟨f,0,pre⟩)):=by
 have jX:∀{d:DS},d.off=false->may d f=0:=λ{d} h=>Vl f0 f1 h;have sj:∀d:DS,0<=d.arm->0<=d.cE.arm/\d.cE.arm<=d.arm/\d.cE.ops=d.ops+1:=aRl;have iu:∀d:DS,d.cE.off=true->d.arm=1:=λd h=>by simpa [DS.cE] using h
 have jN:∀(d1:DS),fE PF.id d1.R->d1.off=false->0<=d1.arm->(dJ PF.id d1.R f=none\/dJ PF.id d1.R f=some ⟨f,0,[]⟩) ->
   (∃d',(if (d1.append f b).2≠0 then d1.append f b else (d1.append f b).1.sync f)=(d',0)/\lU d1.R d'.R ⟨f,b.length,b⟩/\d'.off=false/\0<=d'.arm/\d'.arm<=d1.arm/\d'.ops<=d1.ops+2) \/
   (∃d',(if (d1.append f b).2≠0 then d1.append f b else (d1.append f b).1.sync f)=(d',8)/\d'.off=true/\d1.arm≠0/\0<=d'.arm/\d'.arm<=d1.arm/\d'.ops<=d1.ops+2/\lU d1.R d'.R ⟨f,0,b⟩):=by
  intro d1 vC vy l4 hg;obtain⟨c1,c2,c3⟩:=sj d1 l4;have tc:kH d1.R f b=fU PF.id d1.R ⟨f,0,b⟩:=by
   unfold kH;rcases hg with hg|hg<;>rw[hg]<;>rfl
  have e1:d1.append f b=({d1.cE with R:=fU PF.id d1.R ⟨f,0,b⟩},d1.cE.err):=by
   unfold DS.append;rw[zzb (by simp[jX vy]),tc]
  have hS:=lU.put vC ⟨f,0,b⟩;rw[e1];cases hc:d1.cE.off with
  | true=>
   right;have:=iu d1 hc;exact⟨{d1.cE with R:=fU PF.id d1.R ⟨f,0,b⟩},by simp[DS.err,hc],hc,by omega,c1,c2,by show d1.cE.ops<=_;omega,hS⟩
  | false=>
   have he:d1.cE.err=0:=by simp[DS.err,hc]
   rw[he,zzb (by simp)];obtain⟨k1,k2,k3⟩:=sj d1.cE c1;have so:dJ PF.id (fU PF.id d1.R ⟨f,0,b⟩) f=some ⟨f,0,b⟩:=s8 hS.sorted hS.xG;have mS:({d1.cE with R:=fU PF.id d1.R ⟨f,0,b⟩}:DS).find f=0:=Sv (d:={d1.cE with R:=fU PF.id d1.R ⟨f,0,b⟩}) hS.sorted f0 f1 hc hS.xG rfl;have Iq:({d1.cE with R:=fU PF.id d1.R ⟨f,0,b⟩}:DS).cE={d1.cE.cE with R:=fU PF.id d1.R ⟨f,0,b⟩}:=rfl;unfold DS.sync;rw[zzb (by rw[mS];simp),Iq];cases jV:d1.cE.cE.off with
   | true=>
    right;have h1:=iu d1.cE jV;have h2:d1.arm≠0:=λe=>by rw[show d1.cE.arm=0 by simp[DS.cE,e]]at h1;cases h1
    exact⟨{d1.cE.cE with R:=fU PF.id d1.R ⟨f,0,b⟩},by simp[jV],jV,h2,k1,tth k2 c2,by show d1.cE.cE.ops<=_;omega,hS⟩
   | false=>
    left;refine⟨{d1.cE.cE with R:=fU PF.id (fU PF.id d1.R ⟨f,0,b⟩) ⟨f,b.length,b⟩},by simp[jV,XD so],?_,jV,k1,tth k2 c2,by show d1.cE.cE.ops<=_;omega⟩;exact hS.trans (lU.put hS.sorted ⟨f,b.length,b⟩) rfl
 cases hg:dJ PF.id d.R f with
 | none=>
  have hl:gf d.R f = -1:=by unfold gf;rw[hg]
  rw[aW9 (by omega)];rcases jN d hs ho ha (.inl hg) with ⟨d',e,h1,h2,h3,h4,h5⟩|⟨d',e,h1,h2,h3,h4,h5,h6⟩
  ·exact .inl ⟨d',e,h1,h2,h3,h4,by omega⟩
  exact .inr ⟨d',e,h1,h2,h3,h4,by omega,.inr ⟨b,.inr rfl,h6⟩⟩
 | some x=>
  have hx:=uh hg;have hl:gf d.R f=(x.b.length:Int):=by unfold gf;rw[hg]
  obtain⟨c1,c2,c3⟩:=sj d ha;have mS:d.find f=0:=Sv hs f0 f1 ho hx.1 hx.2;rw[aW8 (by omega)];have CG:d.cut f 0=if d.cE.off=true then (d.cE,8) else ({d.cE with R:=ka d.R f (jd (0:Int).toNat)},0):=by
   unfold DS.cut;rw[zzb (show ¬d.find f≠0 by rw[mS];decide),zzb (show ¬((0:Int)<0\/gf d.R f<0) by omega)]
  rw[CG];cases hc:d.cE.off with
  | true=>
   right;have:=iu d hc;exact⟨d.cE,by simp,hc,by omega,c1,c2,by omega,.inl rfl⟩
  | false=>
   have hu:ka d.R f (jd (0:Int).toNat)=fU PF.id d.R ⟨f,0,[]⟩:=by
    rw[XD hg];simp[jd]
   have hS:=lU.put hs ⟨f,0,[]⟩;have so:dJ PF.id (fU PF.id d.R ⟨f,0,[]⟩) f=some ⟨f,0,[]⟩:=s8 hS.sorted hS.xG;rw[hu,zzb (show ¬(false=true) by decide)];generalize oW:({d.cE with R:=fU PF.id d.R ⟨f,0,[]⟩}:DS)=d1;rw[zzb (show ¬((0:Int)≠0) by decide)];have jC:d1.R=fU PF.id d.R ⟨f,0,[]⟩:=by rw[<- oW]
   have vy:d1.off=false:=by rw[<- oW];exact hc
   have l4:d1.arm=d.cE.arm:=by rw[<- oW]
   have nH:d1.ops=d.cE.ops:=by rw[<- oW]
   rcases jN d1 (by rw[jC];exact hS.sorted) vy (by omega) (.inr (by rw[jC];exact so)) with ⟨d',e,h1,h2,h3,h4,h5⟩|⟨d',e,h1,h2,h3,h4,h5,h6⟩
   ·rw[jC]at h1
    exact .inl ⟨d',e,hS.trans h1 rfl,h2,h3,by omega,by omega⟩
   rw[jC]at h6
   refine .inr ⟨d',e,h1,λea=>h2 ?_,h3,by omega,by omega,.inr ⟨b,.inr rfl,hS.trans h6 rfl⟩⟩;rw[l4];simp[DS.cE,ea]
def aFq(n:Nat)(x:PF):Prop:=∀y,kq x.b=some y->y.2.length≠n
structure ml(n:Nat)(all:List cH)(I:List PF)(dV:Int)(m:Nat):Prop where
 sorted:fE PF.id I
 ids:∀x∈I,x.id=0\/x.id=1
 safe:∀x∈I,x.safe=x.b.length
 none_:dV = -1->m=0
 new:dV = -1\/dV=0\/dV=1
 le:m<=all.length
 some_:dV≠-1->∃x∈I,x.id=dV/\x.b=cZ (jf m (fF n (all.take m)))
 other:∀x∈I,x.id≠dV->aFq n x\/∃y,kq x.b=some y/\y.1<m/\dV≠-1
def bWb{R:List PF}(hs:fE PF.id R){n:Nat}{f:Int}:iG R n f=none\/∃x∈R,x.id=f/\∃y,kq x.b=some y/\y.2.length=n/\iG R n f=some y:=by
 unfold iG;cases hg:dJ PF.id R f with
 | none=>exact .inl rfl
 | some x=>
  have hx:=uh hg;simp only;cases hd:kq x.b with
  | none=>exact .inl rfl
  | some y=>
   simp only;by_cases hl:y.2.length=n
   ·exact .inr ⟨x,hx.1,hx.2,y,hd,hl,by rw[zzc hl]⟩
   exact .inl (zzb hl)
def bWc{R:List PF}(hs:fE PF.id R){n:Nat}{x:PF}(hx:x∈R){y:Int × iI}(hd:kq x.b=some y)(hl:y.2.length=n):iG R n x.id=some y:=by
 unfold iG;rw[s8 hs hx];simp only[hd];rw[zzc hl]
def ml.load{n:Nat}{all:List cH}{I:List PF}{dV:Int}{m:Nat}(h:ml n all I dV m)(hm:∀j,j<=all.length->i_ j (fF n (all.take j))=true):lh I n=(dV,(m:Int),fF n (all.take m)):=by
 have hn:dV≠-1->iG I n dV=some ((m:Int),fF n (all.take m)):=λdO=>by
  obtain⟨x,hx,hf,hb⟩:=h.some_ dO;rw[<- hf];exact bWc h.sorted hx (by rw[hb];exact RL (hm m h.le)) (pZ _ _)
 have ho:∀f,f≠dV->iG I n f=none\/∃y,iG I n f=some y/\y.1<m/\dV≠-1:=λf hf=>by
  rcases bWb h.sorted (n:=n) (f:=f) with e|⟨x,hx,A6,y,h1,h2,h3⟩
  ·exact .inl e
  rcases h.other x hx (by rw[A6];exact hf) with hb|⟨z,hz,h4,h5⟩
  ·exact absurd h2 (hb y h1)
  rw[h1]at hz;cases hz
  exact .inr ⟨y,h3,h4,h5⟩
 unfold lh;rcases h.new with e|e|e
 ·have TO:=h.none_ e;have o0:iG I n 0=none:=by
   rcases ho 0 (by rw[e];decide) with h1|⟨_,_,_,h1⟩
   ·exact h1
   exact absurd e h1
  have o1:iG I n 1=none:=by
   rcases ho 1 (by rw[e];decide) with h1|⟨_,_,_,h1⟩
   ·exact h1
   exact absurd e h1
  unfold gq;rw[o0,o1,e,TO];simp only[uu1,Kx];rfl
 ·have hn:=hn (by rw[e];decide);rw[e]at hn
  have h0:gq I n 0 (-1,0,List.replicate n [])=(0,(m:Int),fF n (all.take m)):=by
   unfold gq;rw[hn];simp
  rw[h0,e];unfold gq;rcases ho 1 (by rw[e];decide) with h1|⟨y,h1,h2,_⟩
  ·rw[h1]
  rw[h1];simp only;rw[zzc ⟨by decide,by omega⟩]
 have hn:=hn (by rw[e];decide);rw[e]at hn
 rcases ho 0 (by rw[e];decide) with h1|⟨y,h1,h2,_⟩
 ·have h0:gq I n 0 (-1,0,List.replicate n [])=(-1,0,List.replicate n []):=by unfold gq;rw[h1]
  rw[h0,e];unfold gq;rw[hn];simp
 have h0:gq I n 0 (-1,0,List.replicate n [])=(0,y.1,y.2):=by unfold gq;rw[h1];simp
 rw[h0,e];unfold gq;rw[hn];simp only;rw[zzb (by omega)]
def ml.drawn{n:Nat}{all:List cH}{I I':List PF}{dV:Int}{m:Nat}(h:ml n all I dV m)(hm:∀j,j<=all.length->i_ j (fF n (all.take j))=true)(dd:m<all.length){f:Int}(hf:f=if dV=0 then 1 else 0){x:PF}(hx:x.id=f)(hs:x.safe=x.b.length)
  (hb:x.b=cZ (jf all.length (fF n all))) (hI:lU I I' x):ml n all I' f all.length:=by
 have E_:f=0\/f=1:=by rw[hf];split<;>simp
 have Fb:f≠dV:=by
  rw[hf];rcases h.new with e|e|e<;>rw[e]<;>decide
 have dO:f≠-1:=by omega
 refine⟨hI.sorted,λy hy=>?_,λy hy=>?_,λe=>absurd e dO,.inr E_,zzi _,λ_=>⟨x,hI.xG,hx,by rw[zz0];exact hb⟩,λy hy hyf=>?_⟩
 ·rcases hI.mem hy with rfl|⟨hy,_⟩
  ·omega
  exact h.ids y hy
 ·rcases hI.mem hy with rfl|⟨hy,_⟩
  ·exact hs
  exact h.safe y hy
 rcases hI.mem hy with rfl|⟨hy,_⟩
 ·exact absurd hx hyf
 by_cases e:y.id=dV
 ·have rj:dV≠-1:=λe1=>by rcases h.ids y hy with h2|h2<;>omega
  obtain⟨z,hz,Dd,Jg⟩:=h.some_ rj;have:y=z:=W7 h.sorted hy hz (by rw[e,Dd]);subst this;exact .inr ⟨_,by rw[Jg];exact RL (hm m h.le),by show (m:Int)<_;omega,dO⟩
 rcases h.other y hy e with q_|⟨z,h1,h2,h3⟩
 ·exact .inl q_
 exact .inr ⟨z,h1,by omega,dO⟩
def aWn{p:Φ}(hp:p.length<=1048576){k:Nat}(hk:k<(cZ p).length):kq ((cZ p).take k)=none:=by
 rw[kD]at hk
 obtain⟨e,h,_⟩:=Xl hp (k:=k) (by omega);unfold kq;rw[h]
def RA{I:List PF}(h:∀x∈I,x.safe=x.b.length)(keep:Ω):eT I keep=I:=by
 have:=Hv I [] keep h;simpa using this
def bYl{R:List PF}{keep:Ω}{y:PF}(h:y∈eT R keep):∃i,∃x∈R,y=iV keep i x:=by
 unfold eT at h;obtain⟨i,hi,rfl⟩:=yyi h;rw[vv3];exact⟨i,_,zzg _,rfl⟩
def Rz{R:List PF}{keep:Ω}{x:PF}(h:x∈R):∃i,iV keep i x∈eT R keep:=by
 obtain⟨i,hi,rfl⟩:=yyi h;refine⟨i,?_⟩;have:(eT R keep)[i]'(by unfold eT;simpa using hi)=iV keep i R[i]:=by unfold eT;rw[vv3]
 rw[<- this];exact zzg _
def Ru{keep:Ω}{i:Nat}{x:PF}(h:x.safe=x.b.length):iV keep i x=x:=by
 have h1:=B_ (keep:=keep) (i:=i) (x:=x) (by omega);have h2:=Ep (keep:=keep) (i:=i) (x:=x) (by omega);have h3:=xN (keep:=keep) (i:=i) (x:=x) (by omega);have h4:jO keep i x=0:=by omega
 unfold iV;rw[h4,xxg,h,zz0,Nat.min_self,<- h]
def cAk{R:List PF}(h:fE PF.id R)(keep:Ω):fE PF.id (eT R keep):=by
 have h1:(R.map PF.id).Pairwise (· < ·):=wwq.2 h;rw[<- Ry R keep]at h1
 exact wwq.1 h1
def ml.eD{n:Nat}{all:List cH}{I I':List PF}{dV:Int}{m:Nat}(h:ml n all I dV m)(hm:∀j,j<=all.length->i_ j (fF n (all.take j))=true)(dd:m<all.length)(keep:Ω)
  (hI:I'=I\/∃pre,(pre=[]\/pre=cZ (jf all.length (fF n all)))/\lU I I' ⟨if dV=0 then 1 else 0,0,pre⟩):∃bY8 m',ml n all (eT I' keep) bY8 m'/\m<=m':=by
 rcases hI with rfl|⟨pre,pR,hI⟩
 ·exact⟨dV,m,by rw[RA h.safe];exact h,zzi _⟩
 obtain⟨i,hi⟩:=Rz (keep:=keep) hI.xG;generalize hx:iV keep i ⟨if dV=0 then 1 else 0,0,pre⟩=x at hi;have Db:x.id=if dV=0 then 1 else 0:=by rw[<- hx];rfl
 have nI:x.b.length=0+jO keep i ⟨if dV=0 then 1 else 0,0,pre⟩:=by rw[<- hx];exact B_ (x:=⟨_,0,pre⟩) (zz4 _)
 have ou:x.safe=0+jO keep i ⟨if dV=0 then 1 else 0,0,pre⟩:=by rw[<- hx];exact Ep (x:=⟨_,0,pre⟩) (zz4 _)
 have Dc:x.safe=x.b.length:=by omega
 have Je:x.b=pre.take (0+jO keep i ⟨if dV=0 then 1 else 0,0,pre⟩):=by rw[<- hx];rfl
 have A0:lU I (eT I' keep) x:=by
  refine⟨cAk hI.sorted keep,hi,λy hy=>⟨λhc=>?_,λhc=>?_⟩⟩
  ·obtain⟨j,z,hz,e⟩:=bYl hc;have bVz:z.id=y.id:=by rw[e];rfl
   have Uv:=(hI.other z (by rw[bVz,<- Db];exact hy)).1 hz;rw[Ru (h.safe z Uv)]at e
   rw[e];exact Uv
  have hyI:=(hI.other y (by rw[<- Db];exact hy)).2 hc;obtain⟨j,hj⟩:=Rz (keep:=keep) hyI;rw[Ru (h.safe y hc)]at hj
  exact hj
 by_cases hw:x.b=cZ (jf all.length (fF n all))
 ·exact⟨_,_,h.drawn hm dd rfl Db Dc hw A0,by omega⟩
 have bRg:kq x.b=none:=by
  have TP:=hm all.length (zzi _);rw[zz0]at TP
  have hlen:=A' TP;rcases pR with e|e
  ·rw[Je,e,List.take_nil];rfl
  rw[Je,e];refine aWn (by omega) (Nat.lt_of_not_le λxd=>hw ?_);rw[Je,e,zz2 xd]
 refine⟨dV,m,⟨A0.sorted,λy hy=>?_,λy hy=>?_,h.none_,h.new,h.le,λdO=>?_,λy hy A8=>?_⟩,zzi _⟩
 ·rcases A0.mem hy with rfl|⟨hy,_⟩
  ·rw[Db];split<;>simp
  exact h.ids y hy
 ·rcases A0.mem hy with rfl|⟨hy,_⟩
  ·exact Dc
  exact h.safe y hy
 ·obtain⟨z,hz,Dd,Jg⟩:=h.some_ dO;refine⟨z,(A0.other z ?_).2 hz,Dd,Jg⟩;rw[Dd,Db];rcases h.new with e|e|e<;>rw[e]<;>decide
 rcases A0.mem hy with rfl|⟨hy,_⟩
 ·exact .inl λy h1=>by rw[bRg]at h1;cases h1
 exact h.other y hy A8
def x'(n:Nat)(all:List cH):Prop:=∀j,j<=all.length->i_ j (fF n (all.take j))=true
structure iU(n:Nat)(k:cQ)(all:List cH)(tr:Nat)(I:List PF)(d0:DS)(f:Int)(lo m:Nat):Prop where
 p8:k.d=dh I [] d0
 cB:dG 16 4112 I [] d0.R
 log:Laid k.g d0 f ((lo:Int)+1) ((all.drop lo).map gn)
 base:k.g.base=16
 kL:ml n all I k.dV m
 image:k.image=m
 uJ:lo<=m
 sC:lo<=tr
 ts:k.ts=fF n all
 file:f<=16+lo
def ml.mono{n:Nat}{all:List cH}{I:List PF}{dV:Int}{m:Nat}(h:ml n all I dV m)(l:List cH):ml n (all++l) I dV m:=
 ⟨h.sorted,h.ids,h.safe,h.none_,h.new,by have:=h.le;rw[zza];omega,λhn=>by rw[xxa h.le];exact h.some_ hn,h.other⟩
def bXt{I M:List PF}(hI:∀x∈I,x.id=0\/x.id=1)(hM:∀x∈M,16<=x.id)(n:Nat):lh (I++M++[]) n=lh I n:=by
 have hw:dG 0 16 [] M I:=⟨by simp,λx hx=>by rcases hI x hx with h|h<;>omega,hM⟩;have hg:∀f:Int,0<=f->f<16->iG (I++M++[]) n f=iG I n f:=λf h0 h1=>by
  unfold iG;have:=hw.get h0 h1;rw[zzq]at this
  rw[zzx,this]
 unfold lh gq;rw[hg 0 (by decide) (by decide),hg 1 (by decide) (by decide)]
def cw1{n:Nat}{all:List cH}(h:sS n all){lo m:Nat}(h1:lo<=m)(h2:m<=all.length):oB n m ((all.drop lo).map gn) ((lo:Int)+1) (fF n (all.take m))=some (fF n all):=by
 have:=Wp h m (all.length-lo) lo (by omega);rw[show max lo m=m by omega,show max all.length m=all.length by omega,zz0]at this
 exact this
def V1{n:Nat}(n1:1<=n)(n8:n<=8){all:List cH}(ht:sS n all)(hi:x' n all){I:List PF}{d1 d2:DS}{g:cU}{size:Int}(ho:eV d1 16 size=(d2,.ok g))(hw:dG 16 4112 I [] d1.R){f dV:Int}{lo m tr:Nat}
  (hl:gw g d2 f ((lo:Int)+1) ((all.drop lo).map gn)) (hb:g.base=16) (lC:ml n all I dV m) (xj:lo<=m) (dd:lo<=tr) (hf:f<=16+lo) :
  lk (dh I [] d1) n size=(dh I [] d2,.ok ⟨g,dh I [] d2,fF n all,dV,m⟩)/\iU n ⟨g,dh I [] d2,fF n all,dV,m⟩ all tr I d2 f lo m:=by
 obtain⟨e,Da⟩:=Bi (base:=16) (size:=size) (A:=I) (B:=[]) (d:=d1) hw;rw[ho]at e Da
 have vw:lh (dh I [] d2).R n=(dV,(m:Int),fF n (all.take m)):=by
  show lh (I++d2.R++[]) n=_;rw[bXt lC.ids λx hx=>(Da.m x hx).1];exact lC.load hi
 have mw:=lC.le;have mv:=hl.head;rw[zzn,zzr]at mv
 have ri:eZ g.bF=(lo:Int)+1:=by
  by_cases hs:g.bF=[]
  ·rw[hs];have:=(hl.nil hs).2;show (1:Int)=_;omega
  exact hl.chain.low hs
 refine⟨?_,⟨rfl,Da,hl.laid,hb,lC,rfl,xj,dd,rfl,hf⟩⟩;unfold lk;rw[zzb (by omega),e];simp only[zzw];rw[vw,hl.gv,ri];simp only;rw[cw1 ht xj mw];simp only;rw[zzc ⟨by omega,by omega⟩]
def UD(I:List PF)(d0:DS)(keep:Ω):(dh I [] d0).eD keep=dh (eT I keep) [] (d0.eD (keep.drop I.length)):=by
 unfold DS.eD dh;simp only;rw[Rw];rfl
structure sR(n:Nat)(d:DS)(all:List cH)(t:Option cH)(tr:Nat)(I I':List PF)(d0:DS)(g:cU)(f:Int)(lo m:Nat)(dV:Int):Prop where
 p8:d=dh I' [] d0
 cB:dG 16 4112 I' [] d0.R
 log:(Laid g d0 f ((lo:Int)+1) ((all.drop lo).map gn))\/∃q w,oG d0 f ((lo:Int)+1) ((all.drop lo).map gn) q w/\(w=true->∃x,t=some x/\q=gn x)
 base:g.base=16
 f16:16<=f
 file:f<=16+lo
 empty:(all.drop lo).map gn=[]->(f=16/\lo=0)\/∀y∈d0.R,(dY [dN ((lo:Int)+1).toNat]).length<=y.safe
 kL:ml n all I dV m
 xE:I'=I\/(m<all.length/\∃pre,(pre=[]\/pre=cZ (jf all.length (fF n all)))/\lU I I' ⟨if dV=0 then 1 else 0,0,pre⟩)
 uJ:lo<=m
 sC:lo<=tr
def sR.open{n:Nat}(n1:1<=n)(n8:n<=8){d:DS}{all:List cH}{t:Option cH}{tr:Nat}{I I':List PF}{d0:DS}{g:cU}{f:Int}{lo m:Nat}{dV:Int}(h:sR n d all t tr I I' d0 g f lo m dV)(keep:Ω)
  (ht:∀l,l=[]\/(∃x,t=some x/\l=[x])->sS n (all++l)/\x' n (all++l)) (hlen:all.length<=1000) {size:Int} (s0:64<=size) (s1:size<=65536) :
  ∃k' nV I2 d2 f2 m2,lk (d.eD keep) n size=(k'.d,.ok k')/\iU n k' nV tr I2 d2 f2 lo m2/\k'.d.off=false/\k'.d.arm=0/\k'.d.ops<=d.ops+1/\(nV=all\/∃x,t=some x/\nV=all++[x]):=by
 obtain⟨t0,i0⟩:=ht [] (.inl rfl);rw[zzx]at t0 i0
 have lC:∃JI m2,ml n all (eT I' keep) JI m2/\m<=m2:=by
  rcases h.xE with e|⟨dd,e⟩
  ·rw[e,RA h.kL.safe];exact⟨dV,m,h.kL,zzi _⟩
  exact h.kL.eD i0 dd keep (.inr e)
 obtain⟨JI,m2,lC,uA⟩:=lC;have cM1:=h.uJ;have cM8:=lC.le;have ur:=h.base;have bRo:=h.f16;have CJ:=h.file;have TM:=h.sC;have bUg:∃g2 d2 nV,eV (d0.eD (keep.drop I'.length)) 16 size=(d2,.ok g2)/\gw g2 d2 f ((lo:Int)+1) ((nV.drop lo).map gn)/\g2.base=16/\d2.arm=0/\d2.ops<=d0.ops+1/\(nV=all\/∃x,t=some x/\nV=all++[x]):=by
  rcases h.log with hl|⟨q,w,hT,hw⟩
  ·obtain⟨e,hv⟩:=hl.open (keep.drop I'.length) (by rw[zzn,zzr];omega) s0 s1;rw[ur]at e hv
   exact⟨_,_,all,e,hv,rfl,rfl,by show d0.ops<=_;omega,.inl rfl⟩
  obtain⟨g2,d2,iK,h1,h2,h3,h4,h5,h6,h7⟩:=Xq hT (keep.drop I'.length) (base:=16) (size:=size) (by decide) (by decide) s0 s1 bRo (by rw[zzn,zzr];omega) (by omega) (by rw[zzn,zzr];omega) (λe=>(h.empty e).imp (λe=>by omega) λe=>e);rcases h7 with e|⟨ew,e⟩
  ·exact⟨g2,d2,all,h1,by rw[<- e];exact h2,h5,h3,h4,.inl rfl⟩
  obtain⟨x,hx,rfl⟩:=hw ew;refine⟨g2,d2,all++[x],h1,?_,h5,h3,h4,.inr ⟨x,hx,rfl⟩⟩;rw[xxb (by omega),zzs,xx7,<- e];exact h2
 obtain⟨g2,d2,nV,e1,e2,e3,e4,e5,e6⟩:=bUg;have I_:sS n nV/\x' n nV/\ml n nV (eT I' keep) JI m2:=by
  rcases e6 with rfl|⟨x,hx,rfl⟩
  ·exact⟨t0,i0,lC⟩
  obtain⟨a,b⟩:=ht [x] (.inr ⟨x,hx,rfl⟩);exact⟨a,b,lC.mono [x]⟩
 have ry:dG 16 4112 (eT I' keep) [] (d0.eD (keep.drop I'.length)).R:=h.cB.eD keep _ [];obtain⟨o1,o2⟩:=V1 n1 n8 I_.1 I_.2.1 e1 ry e2 e3 I_.2.2 (by omega) TM CJ;rw[<- UD]at o1
 rw[h.p8];exact⟨_,nV,_,_,_,_,o1,o2,e2.off,e4,e5,e6⟩
def Laid.HX{g:cU}{d:DS}{f n:Int}{es:List (Φ)}(h:Laid g d f n es)(hb:g.base=16):ng 16 4112 g:=by
 have hle:=h.chain.sB;rw[h.gv]at hle
 have tj:=h.fi;have hba:=h.base;refine⟨by omega,by omega,λs hs=>?_,λx hx=>by rw[h.du]at hx;cases hx⟩;have:=h.chain.sX.mem (x:=ez s) (vv4 hs);rw[zzn]at this
 have h1:(ez s).id=s.file:=rfl;omega
def a_8{t:cH}(h:eg t=true):(gn t).length<=2000:=yyy (Ho h) (by decide)
def iU.head{n:Nat}{k:cQ}{all:List cH}{tr:Nat}{I:List PF}{d0:DS}{f:Int}{lo m:Nat}(h:iU n k all tr I d0 f lo m)(ho:k.d.off=false):cI k.g.bF=all.length:=by
 have hl:=h.log.inv (by have:=h.p8;rw[this]at ho;exact ho);have hm:=h.kL.le;have:=h.uJ;rw[hl.head,zzn,zzr];omega
def gw.Ao{g:cU}{d:DS}{f n:Int}{es:List (Φ)}(h:Laid g d f n es)(e:es=[]):(f=g.base/\n=1)\/(g.bF≠[]/\∀y∈d.R,(dY [dN n.toNat]).length<=y.safe):=by
 cases hg:g.bF with
 | nil=>exact .inl (h.nil hg)
 | cons s L=>
  refine .inr ⟨by simp,λy hy=>?_⟩;have hc:=h.chain;have h1:=h.gv;rw[e,hg,pB]at h1
  obtain⟨h2,h3⟩:=vvk.1 h1;rw[hg]at hc
  obtain⟨_,c2,c3,_,c5,_⟩:=hc;have hL:L=[]:=by
   cases L with
   | nil=>rfl
   | cons t r=>exact absurd h2 (c5 (by simp))
  rw[h.files,hg,hL]at hy
  have hy:y=ez s:=by simpa using hy
  rw[hy];show _<=(dY (dN s.first.toNat::s.l)).length;rw[c2,h2];exact zzi _
def iU.Ao{n:Nat}{k:cQ}{all:List cH}{tr:Nat}{I:List PF}{d0:DS}{f:Int}{lo m:Nat}(h:iU n k all tr I d0 f lo m):(all.drop lo).map gn=[]->(f=16/\lo=0)\/∀y∈d0.R,(dY [dN ((lo:Int)+1).toNat]).length<=y.safe:=λe=>by
 have hb:=h.base;rcases gw.Ao h.log e with h1|⟨_,h1⟩
 ·exact .inl (by omega)
 exact .inr h1
def iU.dead{n:Nat}{k:cQ}{all:List cH}{tr:Nat}{I:List PF}{d0:DS}{f:Int}{lo m:Nat}(h:iU n k all tr I d0 f lo m)(he:(all.drop lo).map gn=[]->(f=16/\lo=0)\/∀y∈d0.R,(dY [dN ((lo:Int)+1).toNat]).length<=y.safe)(t:Option cH):sR n k.d all t tr I I d0 k.g f lo m k.dV:=
 ⟨h.p8,h.cB,.inl h.log,h.base,by have:=h.log.base;have:=h.base;omega,h.file,he,h.kL,.inl rfl,h.uJ,h.sC⟩
def bWh(I:List PF)(d0:DS):dh I [] d0=dh [] d0.R {d0 with R:=I}:=by
 unfold dh;simp
def R6{lo hi:Int}{A B:List PF}{d:DS}(h:dG lo hi A B d.R){f:Int}(h1:lo<=f)(h2:f<hi)(b:Φ):jK (dh A B d) f b=(dh A B (jK d f b).1,(jK d f b).2):=by
 unfold jK;rw[show gf (dh A B d).R f=gf d.R f from h.len h1 h2];have hc:(if 0<=gf d.R f then (dh A B d).cut f 0 else (dh A B d,0))=(dh A B (if 0<=gf d.R f then d.cut f 0 else (d,0)).1,(if 0<=gf d.R f then d.cut f 0 else (d,0)).2)/\dG lo hi A B (if 0<=gf d.R f then d.cut f 0 else (d,0)).1.R:=by
  split
  ·exact FG h h1 h2 0
  exact⟨rfl,h⟩
 generalize (if 0<=gf d.R f then d.cut f 0 else (d,0))=c at *
 rw[hc.1];simp only;split
 ·rfl
 obtain⟨ea,ha⟩:=FF hc.2 h1 h2 b;rw[ea];simp only;split
 ·rfl
 exact (Jo ha h1 h2).1
def iU.trim{n:Nat}{k:cQ}{all:List cH}{tr:Nat}{I:List PF}{d0:DS}{f:Int}{lo m:Nat}(h:iU n k all tr I d0 f lo m)(ho:k.d.off=false)(ha:0<=k.d.arm)(hlen:all.length<=1000)(hi:x' n all){aw:Nat}(kx:aw<=all.length):
  (∃k' I' d1 f' kM m',k.gY aw=(k',0)/\aw<=m'/\iU n k' all (max tr aw) I' d1 f' kM m'/\k'.d.off=false/\0<=k'.d.arm/\k'.d.arm<=k.d.arm/\k'.d.ops<=k.d.ops+(all.length+5)/\k'.g.size=k.g.size) \/
  (∃k' e I1 I' d1 g1 f' kM m' nw,k.gY aw=(k',e)/\e≠0/\k'.d.off=true/\k.d.arm≠0/\k'.d.ops<=k.d.ops+(all.length+5)/\sR n k'.d all none (max tr aw) I1 I' d1 g1 f' kM m' nw):=by
 have mv:=h.head ho;have xj:=h.uJ;have mw:=h.kL.le;have hle:=h.log.chain.sB;rw[h.log.gv,zzn,zzr]at hle
 have mU:∀{k:cQ} {I:List PF} {d0:DS} {m:Nat},iU n k all tr I d0 f lo m->k.d.off=false->0<=k.d.arm->k.g.bF.length<=(all.length+1)->aw<=m ->
   (∃k' d1 f' kM,(({k with g:=(gR k.g k.d aw).1.1,d:=(gR k.g k.d aw).1.2}:cQ),(gR k.g k.d aw).2)=(k',0)/\iU n k' all (max tr aw) I d1 f' kM m/\k'.d.off=false/\0<=k'.d.arm/\k'.d.arm<=k.d.arm/\k'.d.ops<=k.d.ops+(all.length+1)/\k'.g.size=k.g.size) \/
   (∃k' e d1 g1 f' kM,(({k with g:=(gR k.g k.d aw).1.1,d:=(gR k.g k.d aw).1.2}:cQ),(gR k.g k.d aw).2)=(k',e)/\e≠0/\k'.d.off=true/\k.d.arm≠0/\k'.d.ops<=k.d.ops+(all.length+1)/\sR n k'.d all none (max tr aw) I I d1 g1 f' kM m k.dV):=by
  intro k I d0 m h ho ha C8 hm;have hd:=h.p8;have iu:d0.off=false:=by rw[hd]at ho;exact ho
  have sh:0<=d0.arm:=by rw[hd]at ha;exact ha
  have hl:=h.log.inv iu;have hb:=h.base;have tj:=h.log.fi;have TM:=h.sC;have CJ:=h.file;have cM7:=h.kL.le;obtain⟨ew,hw,vq⟩:=Xt (A:=I) (B:=[]) (d:=d0) (h.log.HX hb) h.cB (aw:Int);obtain⟨g',d',f',i,e,et,TH,cx,dO,rm,AP,dS,ur,Uf,AM,xa,l4,wX,C5⟩:=cCj hl sh (aw:Int) (by omega);rw[et]at ew hw vq
  rw[hd,ew];simp only at hw ⊢;have Iw:((all.drop lo).map gn).drop i=(all.drop (lo+i)).map gn:=by rw[tte,tte,ww2,<- tte]
  rw[Iw,show (lo:Int)+1+(i:Int)=((lo+i:Nat):Int)+1 by omega]at TH
  rw[zzn,zzr]at cx
  have hL:iU n {k with g:=g',d:=dh I [] d'} all (max tr aw) I d' f' (lo+i) m:=⟨rfl,hw,TH,ur.trans hb,h.kL,h.image,by have:=h.uJ;omega,by omega,h.ts,by omega⟩;rcases C5 with ⟨rfl,IX,_⟩|⟨rfl,IX,ta⟩
  ·left;exact⟨_,d',f',lo+i,rfl,hL,IX,l4,wX,by show d'.ops<=d0.ops+(all.length+1);omega,Uf⟩
  right;exact⟨_,8,d',g',f',lo+i,rfl,by decide,IX,ta,by show d'.ops<=d0.ops+(all.length+1);omega,hL.dead hL.Ao none⟩
 have ht:k.gY aw=(let r:=if k.image<aw then k.h_ else (k,0);if r.2≠0 then r else let t:=gR r.1.g r.1.d aw;({r.1 with g:=t.1.1,d:=t.1.2},t.2)):=by
  unfold cQ.gY;rw[zzb (by rw[mv];omega),zzb (by simp[ho])]
 rw[ht];by_cases lC:k.image<aw
 ·rw[zzc lC];have TQ:m<all.length:=by have:=h.image;omega
  have hd:=h.p8;have iu:d0.off=false:=by rw[hd]at ho;exact ho
  have sh:0<=d0.arm:=by rw[hd]at ha;exact ha
  have E_:jq k=0\/jq k=1:=by unfold jq;split<;>simp
  have hwI:dG 0 16 [] d0.R I:=⟨by simp,λx hx=>by rcases h.kL.ids x hx with e|e<;>omega,λx hx=>(h.cB.m x hx).1⟩;have hdw:jK k.d (jq k) (cZ (jf (cI k.g.bF) k.ts))=(dh [] d0.R (jK {d0 with R:=I} (jq k) (cZ (jf all.length (fF n all)))).1,(jK {d0 with R:=I} (jq k) (cZ (jf all.length (fF n all)))).2):=by
   rw[hd,bWh,mv,h.ts];exact R6 (d:={d0 with R:=I}) hwI (by omega) (by omega) _
  have mQ:∀d':DS,dh [] d0.R d'=dh d'.R [] {d' with R:=d0.R}:=λd'=>by unfold dh;simp
  unfold cQ.h_;rw[hdw];rcases aW7 (d:={d0 with R:=I}) h.kL.sorted (f:=jq k) (by omega) (by omega) iu sh (cZ (jf all.length (fF n all))) with ⟨d',e,hS,o1,a1,a2,p1⟩|⟨d',e,o1,a0,a1,a2,p1,hR⟩
  ·rw[e];simp only;rw[zzc trivial];simp only;rw[zzb (by simp)];have hid:∀x∈d'.R,x.id=0\/x.id=1:=λx hx=>by
    rcases hS.mem hx with rfl|⟨hx,_⟩
    ·exact E_
    exact h.kL.ids x hx
   have E7:ml n all d'.R (jq k) all.length:=h.kL.drawn hi TQ (f:=jq k) rfl (x:=⟨jq k,_,_⟩) rfl rfl rfl hS;have hL:iU n {k with d:=dh [] d0.R d',dV:=jq k,image:=cI k.g.bF} all tr d'.R {d' with R:=d0.R} f lo all.length:=
    ⟨mQ d',⟨λx hx=>by rcases hid x hx with e|e<;>omega,h.cB.m,by simp⟩,h.log.sM rfl,h.base,E7,mv,by omega,h.sC,h.ts,h.file⟩
   rcases mU hL o1 a1 (by show k.g.bF.length<=(all.length+1);omega) kx with ⟨k',d1,f',kM,r1,r2,r3,r4,ra,r5,r6⟩|⟨k',e',d1,g1,f',kM,r1,r2,r3,ra,r5,r6⟩
   ·left;have r5:k'.d.ops<=d'.ops+(all.length+1):=r5;have ra:k'.d.arm<=d'.arm:=ra;exact⟨k',_,d1,f',kM,_,r1,kx,r2,r3,r4,by rw[hd];exact tth ra a2,by rw[hd];show k'.d.ops<=d0.ops+(all.length+5);have p1:d'.ops<=d0.ops+3:=p1;omega,r6⟩
   right;have r5:k'.d.ops<=d'.ops+(all.length+1):=r5;have ra:d'.arm≠0:=ra;have a2:d'.arm<=d0.arm:=a2;exact⟨k',e',_,_,d1,g1,f',kM,_,_,r1,r2,r3,by rw[hd];show d0.arm≠0;omega,by rw[hd];show k'.d.ops<=d0.ops+(all.length+5);have p1:d'.ops<=d0.ops+3:=p1;omega,r6⟩
  rw[e];simp only;rw[zzb (show ¬((8:Int)=0) by decide)];simp only;rw[zzc (show (8:Int)≠0 by decide)];right;have hid:∀x∈d'.R,x.id=0\/x.id=1:=λx hx=>by
   rcases hR with hR|⟨pre,_,hS⟩
   ·rw[hR]at hx;exact h.kL.ids x hx
   rcases hS.mem hx with rfl|⟨hx,_⟩
   ·exact E_
   exact h.kL.ids x hx
  refine⟨_,8,I,d'.R,{d' with R:=d0.R},k.g,f,lo,m,k.dV,rfl,by decide,o1,by rw[hd];exact a0,by rw[hd];show d'.ops<=d0.ops+(all.length+5);have p1:d'.ops<=d0.ops+3:=p1;omega,mQ d',⟨λx hx=>by rcases hid x hx with e|e<;>omega,h.cB.m,by simp⟩,.inl (h.log.sM rfl),h.base,by have:=h.log.base;have:=h.base;omega,h.file,h.Ao,h.kL,?_,xj,by have:=h.sC;omega⟩;rcases hR with hR|⟨pre,hp,hS⟩
  ·exact .inl hR
  exact .inr ⟨TQ,pre,hp,hS⟩
 rw[zzb lC];simp only;rw[zzb (by simp)];rcases mU h ho ha (by omega) (by have:=h.image;omega) with ⟨k',d1,f',kM,r1,r2,r3,r4,ra,r5,r6⟩|⟨k',e',d1,g1,f',kM,r1,r2,r3,ra,r5,r6⟩
 ·exact .inl ⟨k',_,d1,f',kM,_,r1,by have:=h.image;omega,r2,r3,r4,ra,by omega,r6⟩
 exact .inr ⟨k',e',_,_,d1,g1,f',kM,_,_,r1,r2,r3,ra,by omega,r6⟩
set_option maxRecDepth 100000
def UH:∀(C:List Row) (c:Row) (i:Nat),i<=C.length->(∀j (h:j<C.length),j<i->C[j].key<c.key)->(∀h:i<C.length,c.key<=C[i].key) ->
  gN C c=C.take i++[c]++C.drop (if ∃h:i<C.length,C[i].key=c.key then i+1 else i)
 | [],c,i,hi,_,_=>by
  have:i=0:=by simpa using hi
  subst this;simp[gN]
 | x::C,c,0,_,_,h2=>by
  have hx:=h2 (by simp);simp only[vvg]at hx;have:¬x.key<c.key:=by omega
  by_cases he:x.key=c.key
  ·simp[gN,he]
  simp[gN,this,he]
 | x::C,c,i+1,hi,h1,h2=>by
  have hx:x.key<c.key:=h1 0 (by simp) (by omega);have ih:=UH C c i (by simpa using hi) (λj h hj=>by have:=h1 (j+1) (by simpa using h) (by omega);simpa using this) (λh=>by have:=h2 (by simpa using h);simpa using this);simp only[gN,hx,ww8,ih,zzh,vvj,Nat.add_lt_add_iff_right];split<;>simp
def RQ:∀(C:List Row) (k:Int) (i:Nat) (h:i<C.length),(∀j (h:j<C.length),j<i->C[j].key≠k)->C[i].key=k->jT C k=C.take i++C.drop (i+1)
 | x::C,k,0,_,_,h2=>by simp at h2;simp[jT,h2]
 | x::C,k,i+1,h,h1,h2=>by
  have hx:x.key≠k:=h1 0 (by simp) (by omega);have ih:=RQ C k i (by simpa using h) (λj h hj=>by have:=h1 (j+1) (by simpa using h) (by omega);simpa using this) (by simpa using h2);simp[jT,hx,ih]
def RR:∀(C:List Row) (k:Int),(∀j (h:j<C.length),C[j].key≠k)->jT C k=C
 | [],k,_=>rfl
 | x::C,k,h=>by
  have hx:x.key≠k:=h 0 (by simp);simp[jT,hx,RR C k (λj hj=>by have:=h (j+1) (by simpa using hj);simpa using this)]
def nk(H:bw)(vs:Ξ)(ts:List (List Row)):Prop:=vs.length=ts.length/\∀(i:Nat) (v:Ε) (C:List Row),vs[i]?=some v->ts[i]?=some C->dx H 2 v C.length (C.map d_).flatten
def nk.mono{H H':bw}{vs:Ξ}{ts:List (List Row)}(hh:H.le H')(h:nk H vs ts):nk H' vs ts:=⟨h.1,λi v C h1 h2=>(h.2 i v C h1 h2).mono hh⟩
structure AtR(C:List Row)(key:Int)(i:Nat):Prop where
 le:i<=C.length
 lo:∀j (h:j<C.length),j<i->C[j].key<key
 hi:∀h:i<C.length,key<=C[i].key
def lG(C:List Row)(key:Int)(i:Nat):Bool:=decide (∃h:i<C.length,C[i].key=key)
def AtR.gt{C:List Row}{key:Int}{i:Nat}(h:AtR C key i)(hs:f_ C):∀j (hj:j<C.length),i<j->key<C[j].key:=λj hj sq=>by
 have h1:=h.hi (by omega);have:=xxk.1 hs i j (by omega) hj sq;omega
def AtR.up{C:List Row}{key:Int}{i:Nat}(h:AtR C key i)(hs:f_ C)(hn:lG C key i=false):∀j (hj:j<C.length),i<=j->key<C[j].key:=λj hj sq=>by
 rcases xxx i j with h1|h1
 ·exact h.gt hs j hj h1
 obtain rfl:j=i:=by omega
 have h1:=h.hi hj;have h2:¬C[j].key=key:=λe=>yyw hn ⟨hj,e⟩;omega
def AtR.ins{C:List Row}{key:Int}{i:Nat}(h:AtR C key i)(v:Η):gN C ⟨key,v⟩=if lG C key i=true then C.set i ⟨key,v⟩ else C.take i++[⟨key,v⟩]++C.drop i:=by
 rw[UH C ⟨key,v⟩ i h.le h.lo h.hi];by_cases hk:∃h:i<C.length,C[i].key=key
 ·rw[zzc hk,zzc (show lG C key i=true from zzl hk)];rw[xxc,zzc hk.1];simp
 rw[zzb hk,zzb (by simpa [lG] using hk)]
def AtR.del{C:List Row}{key:Int}{i:Nat}(h:AtR C key i)(hs:f_ C):jT C key=if lG C key i=true then C.take i++C.drop (i+1) else C:=by
 cases hk:lG C key i with
 | true=>
  obtain⟨hi,e⟩:=zzm hk;rw[zzc rfl];exact RQ C key i hi (λj hj iX=>by have:=h.lo j hj iX;omega) e
 | false=>
  rw[zzb (by decide)];refine RR C key λj hj=>?_;rcases xxx j i with h1|h1
  ·have:=h.lo j hj h1;omega
  have:=h.up hs hk j hj h1;omega
def AtR.get{C:List Row}{key:Int}{i:Nat}(h:AtR C key i)(hs:f_ C):(eU C key).isSome=lG C key i/\∀hi:i<C.length,C[i].key=key->eU C key=some C[i].val:=by
 have h2:∀hi:i<C.length,C[i].key=key->eU C key=some C[i].val:=λhi e=>by
  unfold eU;have:C.find? (λc=>decide (c.key=key))=some C[i]:=by
   rw[List.find?_eq_some_iff_getElem];refine⟨by simpa using e,i,hi,rfl,λj hj=>?_⟩;have:=h.lo j (by omega) hj;simp;omega
  rw[this];rfl
 refine⟨?_,h2⟩;cases hk:lG C key i with
 | true=>
  obtain⟨hi,e⟩:=zzm hk;rw[h2 hi e];rfl
 | false=>
  unfold eU;have:C.find? (λc=>decide (c.key=key))=none:=by
   rw[uu4];intro x hx;obtain⟨j,hj,rfl⟩:=yyi hx;rcases xxx j i with h1|h1
   ·have:=h.lo j hj h1;simp;omega
   have:=h.up hs hk j hj h1;simp;omega
  rw[this];rfl
def HN:∀(C:List Row) (key:Int) (k:Nat),(∀j (h:j<C.length),j<k->C[j].key<=key)->(∀j (h:j<C.length),k<=j->key<C[j].key)->C.filter (λr=>decide (key<r.key))=C.drop k
 | [],key,k,_,_=>by simp
 | x::C,key,0,_,h2=>by
  rw[List.drop_zero,yy2];intro y hy;obtain⟨j,hj,rfl⟩:=yyi hy;exact zzl (h2 j hj (zz4 _))
 | x::C,key,k+1,h1,h2=>by
  have hx:x.key<=key:=h1 0 (by simp) (by omega);rw[vv0,zzb (by simp;omega),uuy];exact HN C key k (λj h hj=>by have:=h1 (j+1) (by simpa using h) (by omega);simpa using this) (λj h hj=>by have:=h2 (j+1) (by simpa using h) (by omega);simpa using this)
def AtR.after{C:List Row}{key:Int}{i:Nat}(h:AtR C key i)(hs:f_ C)(n:Int):nU C key n=(C.drop (if lG C key i=true then i+1 else i)).take n.toNat:=by
 unfold nU;cases hk:lG C key i with
 | true=>
  obtain⟨hi,e⟩:=zzm hk;rw[zzc rfl,HN C key (i+1) (λj hj iX=>?_) (λj hj iX=>h.gt hs j hj (by omega))];rcases xxx j i with h1|h1
  ·have:=h.lo j hj h1;omega
  obtain rfl:j=i:=by omega
  omega
 | false=>
  rw[zzb (by decide),HN C key i (λj hj iX=>by have:=h.lo j hj iX;omega) (λj hj iX=>h.up hs hk j hj iX)]
def nP(C:List Row)(l:List Row):List Row:=l.foldl gN C
def UI:∀(C:List Row) (r:Row),(∀x∈C,x.key<r.key)->gN C r=C++[r]
 | [],r,_=>rfl
 | x::C,r,h=>by
  unfold gN;rw[zzc (h x (.head _)),UI C r λy hy=>h y (.tail _ hy)];rfl
def Wg:∀(l C:List Row),f_ (C++l)->nP C l=C++l
 | [],C,_=>by simp[nP]
 | r::l,C,h=>by
  have h1:gN C r=C++[r]:=UI C r λx hx=>(List.pairwise_append.1 h).2.2 x hx r (.head _);show nP (gN C r) l=_;rw[h1,Wg l (C++[r]) (by simpa using h)];simp
def cnk{l:List Row}(h:f_ l):nP [] l=l:=Wg l [] h
def Wf:∀(l:List Row) {C:List Row},f_ C->f_ (nP C l)
 | [],C,h=>h
 | r::l,C,h=>Wf l (C:=gN C r) (Km h r)
def We:∀(l:List Row) (C:List Row),(nP C l).length<=C.length+l.length
 | [],C=>by simp[nP]
 | r::l,C=>by
  have h1:=We l (gN C r);have h2:=Jv C r;show (nP (gN C r) l).length<=_;rw[zzh];omega
def cnl{l:List Row}{i:Nat}(h:i<l.length)(C:List Row):nP C (l.take (i+1))=gN (nP C (l.take i)) l[i]:=by
 unfold nP;rw[zze h,wws];rfl

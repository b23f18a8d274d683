/- Part of the proof. -/
import Derived.Test.YtmkllimamejcgaaGreatJ8
import Derived.Test.YtmkllimamejcgaaGreatQVcF
namespace Go.Proofs.YtmkllimamejcgaaGreat
set_option linter.all false
open Go.RowKit
def ttg:=@Int.le_trans
def jC(t:fF):Bool:=decide (1<=t.aw/\t.aw<=1099511627776) &&
 (if t.kind=1 then decide (t.mark=0/\t.changes.length<=16/\t.signals.length<=2) && t.changes.all (λc=>rS c 8) && t.signals.all (λs=>decide (s.size<=40))
  else decide ((t.kind=2\/t.kind=3)/\1<=t.mark/\t.mark<=1099511627776/\t.changes=[]/\t.signals=[]))
def CO{c:jB}{k:Int}:rS c k=true↔0<=c.table/\c.table<k/\1<=c.key/\c.key<=1099511627776/\c.val.size<=32/\(c.gone=true->c.val=emp):=by unfold rS;rw[zzx]
def Bd{t:fF}:jC t=true↔(1<=t.aw/\t.aw<=1099511627776) /\
  ((t.kind=1/\t.mark=0/\t.changes.length<=16/\t.signals.length<=2/\(∀c∈t.changes,rS c 8=true)/\∀s∈t.signals,s.size<=40) \/
   ((t.kind=2\/t.kind=3)/\1<=t.mark/\t.mark<=1099511627776/\t.changes=[]/\t.signals=[])):=by
 unfold jC;rw[zz9,zzx];refine and_congr_right λ_=>?_;split
 ·rename_i hk;rw[zz9,zz9,zzx,zz5,zz5];constructor
  ·rintro ⟨⟨⟨h1,h2,h3⟩,h4⟩,h5⟩;exact .inl ⟨hk,h1,h2,h3,h4,λs hs=>zzl (h5 s hs)⟩
  rintro (⟨_,h1,h2,h3,h4,h5⟩|⟨h,_⟩)
  ·exact⟨⟨⟨h1,h2,h3⟩,h4⟩,λs hs=>zzm (h5 s hs)⟩
  omega
 rename_i hk;rw[zzx];constructor
 ·exact λh=>.inr h
 rintro (⟨h,_⟩|h)
 ·exact absurd h hk
 exact h
def sA{t:fF}(h:jC t=true):(1<=t.aw/\t.aw<=1099511627776)/\(1<=t.kind/\t.kind<=3)/\(0<=t.mark/\t.mark<=1099511627776)/\t.changes.length<=16/\t.signals.length<=2/\(∀c∈t.changes,rS c 8=true)/\∀s∈t.signals,s.size<=40:=by
 obtain⟨h1,h2⟩:=Bd.1 h;rcases h2 with ⟨k,m,a,b,c,d⟩|⟨k,m1,m2,a,b⟩
 ·exact⟨h1,by omega,by omega,a,b,c,d⟩
 rw[a,b];exact⟨h1,by omega,by omega,by simp,by simp,by simp,by simp⟩
def py(t:fF):List iL:=[iF t.aw,iF t.kind,iF t.mark,iF t.changes.length]++(t.changes.map uG).flatten++([iF t.signals.length]++t.signals.map tF)
def AP(t:fF):Except Int (Δ):=if jC t=true then tj (py t) else .error 1
def cF4(t:fF):(py t).length=5+t.changes.length*4+t.signals.length:=by
 unfold py;simp only[zza,zzj,yyo,zzs];rw[Ds (f:=uG) (k:=4) (λ_=>rfl)];omega
def cF3{t:fF}(h:jC t=true):∀f∈py t,Ba f:=by
 obtain⟨h1,h2,h3,h4,h5,h6,h7⟩:=sA h;intro f hf;unfold py at hf;simp only[zz0,zz7,xx5,zzy,xxj,vvv]at hf;rcases hf with ((rfl|rfl|rfl|rfl)|⟨l,⟨c,hc,rfl⟩,hf⟩)|rfl|⟨s,hs,rfl⟩
 ·exact pS (by omega)
 ·exact pS (by omega)
 ·exact pS (by omega)
 ·exact pS (by omega)
 ·have h8:=CO.1 (h6 c hc);have hb:=G7 c.gone;unfold uG at hf;simp only[zz7,xxj,vvv]at hf;rcases hf with rfl|rfl|rfl|rfl
  ·exact pS (by omega)
  ·exact pS (by omega)
  ·exact pS (by omega)
  exact .inr ⟨rfl,rfl,by show c.val.size<=4096;omega⟩
 ·exact pS (by omega)
 have:=h7 s hs;exact .inr ⟨rfl,rfl,by show s.size<=4096;omega⟩
def Uw{t:fF}(h:jC t=true):AP t= .ok (jS (py t).length 2++((py t).map kq).flatten)/\nL (jS (py t).length 2++((py t).map kq).flatten)= .ok (py t):=by
 have hl:=cF4 t;obtain⟨_,_,_,h4,h5,_,_⟩:=sA h;obtain⟨e1,e2⟩:=J9 (l:=py t) (by omega) (cF3 h);exact⟨by unfold AP;rw[zzc h,e1],e2⟩
def pg{α:Type}(one:ig->α × ig):Nat->ig->List α × ig
 | 0,r=>([],r)
 | i+1,r=>((one r).1::(pg one i (one r).2).1,(pg one i (one r).2).2)
def vi(r:ig):jB × ig:=
 let b:=iJ 8 r;let c:=kr b.2;let d:=wR c.2;let e:=ui d.2
 (⟨b.1,c.1,d.1,e.1⟩,e.2)
def XA(x:Int × Int × Int × (Int × List jB) × (Int × Θ)):fF:=⟨x.1,x.2.1,x.2.2.2.1.2,x.2.2.2.2.2,x.2.2.1⟩
def BM{α:Type}(i:ig->Int × ig)(m:Nat->ig->List α × ig):ig->(Int × List α) × ig:=xE i λn=>m n.toNat
def pK:ig->fF × ig:=CM XA (xE kr λ_=>xE (iJ 3) λ_=>xE kr λ_=>xE (BM (iJ 16) (pg vi)) λ_=>BM (iJ 2) (pg ui))
def Dh(l:List iL):Option fF:=
 let x:=pK ⟨l,false⟩
 if x.2.bad=false/\x.2.l=[]/\jC x.1=true then some x.1 else none
def pN(b:Δ):Except Int fF:=match nL b with
 | .error e=>.error e
 | .ok l=>match Dh l with
  | some t=>.ok t
  | none=>.error 3
def Iy{α:Type}{one:ig->α × ig}{f:α->List iL}:∀(xs:List α) (l:List iL),(∀x∈xs,∀l,one ⟨f x++l,false⟩=(x,⟨l,false⟩))->pg one xs.length ⟨(xs.map f).flatten++l,false⟩=(xs,⟨l,false⟩)
 | [],l,_=>rfl
 | x::xs,l,h=>by
  have ih:=Iy xs l λy hy=>h y (.tail _ hy);have h1:=h x (.head _) ((xs.map f).flatten++l);rw[zzn,zz4,zzk,zzj,pg,h1,ih]
def bFe{c:jB}{l:List iL}(h:0<=c.table/\c.table<=8):vi ⟨uG c++l,false⟩=(c,⟨l,false⟩):=by
 unfold vi uG;have e2:iJ 8 ⟨[iF c.table,iF c.key,iF (l4 c.gone),tF c.val]++l,false⟩=(c.table,⟨[iF c.key,iF (l4 c.gone),tF c.val]++l,false⟩):=uh h;have e3:kr ⟨[iF c.key,iF (l4 c.gone),tF c.val]++l,false⟩=(c.key,⟨[iF (l4 c.gone),tF c.val]++l,false⟩):=rfl;have e4:wR ⟨[iF (l4 c.gone),tF c.val]++l,false⟩=(c.gone,⟨[tF c.val]++l,false⟩):=JZ;have e5:ui ⟨[tF c.val]++l,false⟩=(c.val,⟨l,false⟩):=rfl;simp only[e2,e3,e4,e5]
def gw3{t:fF}(h:jC t=true):pK ⟨py t,false⟩=(t,⟨[],false⟩):=by
 obtain⟨h1,h2,h3,h4,h5,h6,h7⟩:=sA h;have e0:py t=iF t.aw::(iF t.kind::(iF t.mark::(iF t.changes.length::((t.changes.map uG).flatten++(iF t.signals.length::((t.signals.map λs=>[tF s]).flatten++[])))))):=by
  unfold py;have:∀l:Θ,l.map tF=(l.map λs=>[tF s]).flatten:=λl=>by induction l with
   | nil=>rfl
   | cons x l ih=>rw[zzn,zzn,zz4,ih];rfl
  rw[this];simp
 rw[e0];have e1:∀n l,kr ⟨iF n::l,false⟩=(n,⟨l,false⟩):=λn l=>rfl;have e2:∀l,iJ 3 ⟨iF t.kind::l,false⟩=(t.kind,⟨l,false⟩):=λl=>uh (by omega);have e3:∀l,iJ 16 ⟨iF t.changes.length::l,false⟩=((t.changes.length:Int),⟨l,false⟩):=λl=>uh (by omega);have e4:∀l,pg vi t.changes.length ⟨(t.changes.map uG).flatten++l,false⟩=(t.changes,⟨l,false⟩):=λl=>Iy t.changes l λc hc l=>bFe (by have:=CO.1 (h6 c hc);omega);have e5:∀l,iJ 2 ⟨iF t.signals.length::l,false⟩=((t.signals.length:Int),⟨l,false⟩):=λl=>uh (by omega);have e6:∀l,pg ui t.signals.length ⟨(t.signals.map λs=>[tF s]).flatten++l,false⟩=(t.signals,⟨l,false⟩):=λl=>Iy t.signals l λs hs l=>rfl;unfold pK BM CM xE XA;simp only[e1,e2,e3,e4,e5,e6,zzv]
def T_{t:fF}(h:jC t=true):∃b,AP t= .ok b/\pN b= .ok t:=by
 obtain⟨e1,e2⟩:=Uw h;refine⟨_,e1,?_⟩;unfold pN;rw[e2];have e3:Dh (py t)=some t:=by
  unfold Dh;rw[gw3 h];simp only;rw[zzc ⟨trivial,trivial,h⟩]
 simp only[e3]
def bRm{b:Δ}{t:fF}(h:pN b= .ok t):jC t=true:=by
 unfold pN at h;split at h
 ·cases h
 split at h
 ·rename_i x hx;cases h;unfold Dh at hx;simp only at hx;split at hx
  ·rename_i hc;cases hx;exact hc.2.2
  cases hx
 cases h
def sP(t:fF):Δ:=match AP t with
 | .ok b=>b
 | .error _=>[]
def TE{t:fF}(h:jC t=true):pN (sP t)= .ok t:=by
 obtain⟨b,e1,e2⟩:=T_ h;unfold sP;rw[e1];exact e2
def TF{t:fF}(h:jC t=true):AP t= .ok (sP t):=by
 obtain⟨b,e1,_⟩:=T_ h;unfold sP;rw[e1]
def J0{t:fF}(h:jC t=true):(sP t).length<=1200:=by
 obtain⟨h1,h2,h3,h4,h5,h6,h7⟩:=sA h;unfold sP;rw[(Uw h).1];simp only;rw[zza,pW];unfold py;simp only[zzt,zzn,yy4,yys,zz4,xxx,zza,zzw,AM];rw[E7,xxs,xxs];have hT:∀s:Β,(kq (tF s)).length=3+s.size:=λs=>by
  show (lX 2::(jS (s.size:Nat) 2++s.data.toList)).length=_;rw[zzj,zza,pW];have:s.data.toList.length=s.size:=rfl;omega
 have k1:=xU (f:=(λx=>(x.map kq).flatten)∘uG) (k:=62) t.changes λc hc=>by
  have:=(CO.1 (h6 c hc)).2.2.2.2.1;show (((uG c).map kq).flatten).length<=62;unfold uG;simp only[zzn,yy4,zz4,xxx,zza,yyo,AM,hT];omega
 have k2:=xU (f:=kq∘tF) (k:=43) t.signals λs hs=>by
  have:=h7 s hs;show (kq (tF s)).length<=43;rw[hT];omega
 omega
def wF(r:Row):Prop:=1<=r.key/\r.key<=1099511627776/\r.val.size<=32
instance (r:Row):Decidable (wF r):=by unfold wF;infer_instance
structure EO(C:List Row):Prop where
 sorted:lj C
 rows:∀r∈C,wF r
 len:C.length<=1000
def Bk:Int->List Row->Bool
 | _,[]=>true
 | k,r::C=>decide (k<r.key/\r.key<=1099511627776/\r.val.size<=32) && Bk r.key C
def ai2:∀{C:List Row} {k:Int},Bk k C=true↔(∀r∈C,k<r.key)/\lj C/\∀r∈C,r.key<=1099511627776/\r.val.size<=32
 | [],k=>by simp[Bk,lj]
 | r::C,k=>by
  unfold Bk;rw[zz9,zzx,ai2 (C:=C) (k:=r.key)];unfold lj;rw[yyj];constructor
  ·rintro ⟨⟨h1,h2,h3⟩,h4,h5,h6⟩;refine⟨λx hx=>?_,⟨λx hx=>h4 x hx,h5⟩,λx hx=>?_⟩
   ·rcases zz7.1 hx with rfl|hx
    ·exact h1
    have:=h4 x hx;omega
   rcases zz7.1 hx with rfl|hx
   ·exact⟨h2,h3⟩
   exact h6 x hx
  rintro ⟨h1,⟨h2,h3⟩,h4⟩;exact⟨⟨h1 r (.head _),h4 r (.head _)⟩,λx hx=>h2 x hx,h3,λx hx=>h4 x (.tail _ hx)⟩
def vx(C:List Row):Bool:=Bk 0 C && decide (C.length<=1000)
def Xg{C:List Row}:vx C=true↔EO C:=by
 unfold vx;rw[zz9,zzx,ai2];constructor
 ·rintro ⟨⟨h1,h2,h3⟩,h4⟩;exact⟨h2,λr hr=>⟨by have:=h1 r hr;omega,(h3 r hr).1,(h3 r hr).2⟩,h4⟩
 rintro ⟨h1,h2,h3⟩;exact⟨⟨λr hr=>by have:=(h2 r hr).1;omega,h1,λr hr=>⟨(h2 r hr).2.1,(h2 r hr).2.2⟩⟩,h3⟩
def nf(aw:Int)(ts:List (List Row)):Bool:=decide (0<=aw/\aw<=1099511627776/\1<=ts.length/\ts.length<=8) && ts.all vx
def wC{aw:Int}{ts:List (List Row)}:nf aw ts=true↔(0<=aw/\aw<=1099511627776/\1<=ts.length/\ts.length<=8)/\∀C∈ts,EO C:=by
 unfold nf;rw[zz9,zzx,zz5];exact and_congr_right λ_=>⟨λh C hC=>Xg.1 (h C hC),λh C hC=>Xg.2 (h C hC)⟩
def wZ(r:Row):List iL:=[iF r.key,tF r.val]
def tn(C:List Row):List iL:=iF C.length::(C.map wZ).flatten
def se(aw:Int)(ts:List (List Row)):List iL:=[iF aw,iF ts.length]++(ts.map tn).flatten
def UD(C:List Row):(tn C).length=1+C.length*2:=by
 unfold tn;rw[zzj,Ds (f:=wZ) (k:=2) (λ_=>rfl)];omega
def cF0{aw:Int}{ts:List (List Row)}(h:nf aw ts=true):(se aw ts).length<=16010:=by
 obtain⟨h1,h2⟩:=wC.1 h;have k:=xU (f:=tn) (k:=2001) ts λC hC=>by rw[UD];have:=(h2 C hC).len;omega
 unfold se;rw[zza];simp only[zzj,yyo];have:ts.length*2001<=8*2001:=yyt _ h1.2.2.2;omega
def cFz{aw:Int}{ts:List (List Row)}(h:nf aw ts=true):∀f∈se aw ts,Ba f:=by
 obtain⟨h1,h2⟩:=wC.1 h;intro f hf;unfold se at hf;simp only[zz0,zz7,xx5,zzy,xxj,vvv]at hf;rcases hf with (rfl|rfl)|⟨l,⟨C,hC,rfl⟩,hf⟩
 ·exact pS (by omega)
 ·exact pS (by omega)
 have hT:=h2 C hC;have hl:=hT.len;unfold tn at hf;simp only[zz7,xx5,zzy]at hf;rcases hf with rfl|⟨l,⟨r,hr,rfl⟩,hf⟩
 ·exact pS (by omega)
 obtain⟨k1,k2,k3⟩:=hT.rows r hr;unfold wZ at hf;simp only[zz7,xxj,vvv]at hf;rcases hf with rfl|rfl
 ·exact pS (by omega)
 exact .inr ⟨rfl,rfl,by show r.val.size<=4096;omega⟩
def nk(aw:Int)(ts:List (List Row)):Δ:=jS (se aw ts).length 2++((se aw ts).map kq).flatten
def b_3(s:Β):(kq (tF s)).length=3+s.size:=by
 show (lX 2::(jS (s.size:Nat) 2++s.data.toList)).length=_;rw[zzj,zza,pW];have:s.data.toList.length=s.size:=rfl;omega
def D2{aw:Int}{ts:List (List Row)}(h:nf aw ts=true):(nk aw ts).length<=360000:=by
 obtain⟨h1,h2⟩:=wC.1 h;unfold nk se;rw[zza,pW];simp only[zzt,zzn,yy4,yys,zz4,xxx,zza,zzw,AM];rw[E7,xxs];have k:=xU (f:=(λx=>(x.map kq).flatten)∘tn) (k:=44009) ts λC hC=>by
  have hT:=h2 C hC;have hl:=hT.len;show (((tn C).map kq).flatten).length<=44009;unfold tn;rw[zzn,zz4,zza,AM,E7,xxs];have k2:=xU (f:=(λx=>(x.map kq).flatten)∘wZ) (k:=44) C λr hr=>by
   have:=(hT.rows r hr).2.2;show (((wZ r).map kq).flatten).length<=44;unfold wZ;simp only[zzn,yy4,zz4,xxx,zza,yyo,AM,b_3];omega
  have:C.length*44<=1000*44:=yyt _ hl;omega
 have:ts.length*44009<=8*44009:=yyt _ h1.2.2.2;omega
def Wz{aw:Int}{ts:List (List Row)}(h:nf aw ts=true):tj (se aw ts)= .ok (nk aw ts)/\nL (nk aw ts)= .ok (se aw ts):=
 J9 (l:=se aw ts) (by have:=cF0 h;omega) (cFz h)
def Hg(aw:Int)(ts:List (List Row)):Except Int (Δ):=if nf aw ts=true then .ok (ij (nk aw ts)) else .error 1
def e_m(x:Int × Β):Row:=⟨x.1,x.2⟩
def Bl:ig->Row × ig:=CM e_m (xE kr λ_=>ui)
def vH:ig->List Row × ig:=CM Prod.snd (BM (iJ 1000) (mU Bl))
def Xz(x:Int × (Int × List (List Row))):Int × List (List Row):=(x.1,x.2.2)
def rR:ig->(Int × List (List Row)) × ig:=CM Xz (xE kr λ_=>BM (iJ 8) (pg vH))
def Am(l:List iL):Option (Int × List (List Row)):=
 let x:=rR ⟨l,false⟩
 if x.2.bad=false/\x.2.l=[]/\nf x.1.1 x.1.2=true then some x.1 else none
def oP(b:Δ):Option (Int × List (List Row)):=match lY b with
 | .error _=>none
 | .ok (p,n)=>if n=b.length then (match nL p with
  | .error _=>none
  | .ok l=>Am l) else none
def bRg{b:Δ}{x:Int × List (List Row)}(h:oP b=some x):nf x.1 x.2=true:=by
 unfold oP at h;split at h
 ·cases h
 split at h
 ·split at h
  ·cases h
  unfold Am at h;simp only at h;split at h
  ·rename_i hc;cases h;exact hc.2.2
  cases h
 cases h
def fR1{r:Row}{l:List iL}:Bl ⟨wZ r++l,false⟩=(r,⟨l,false⟩):=rfl
def gi3{C:List Row}{l:List iL}(h:C.length<=1000):vH ⟨tn C++l,false⟩=(C,⟨l,false⟩):=by
 unfold vH BM CM xE tn;rw[zzu,uh (by omega)];simp only[zzv];rw[Iz C l λr _ l=>fR1]
def eFo{aw:Int}{ts:List (List Row)}(h:nf aw ts=true):rR ⟨se aw ts,false⟩=((aw,ts),⟨[],false⟩):=by
 obtain⟨h1,h2⟩:=wC.1 h;have e0:se aw ts=iF aw::(iF ts.length::((ts.map tn).flatten++[])):=by unfold se;simp
 rw[e0];have e1:∀l,kr ⟨iF aw::l,false⟩=(aw,⟨l,false⟩):=λl=>rfl;have e2:∀l,iJ 8 ⟨iF ts.length::l,false⟩=((ts.length:Int),⟨l,false⟩):=λl=>uh (by omega);have e3:∀l,pg vH ts.length ⟨(ts.map tn).flatten++l,false⟩=(ts,⟨l,false⟩):=λl=>Iy ts l λC hC l=>gi3 (h2 C hC).len;unfold rR BM CM xE Xz;simp only[e1,e2,e3,zzv]
def T7{b p:Δ}{n:Nat}(ht:lY b= .ok (p,n))(hn:n=b.length){l:List iL}(hd:nL p= .ok l):oP b=Am l:=by
 unfold oP;rw[ht];simp only;rw[zzc hn,hd]
def eFn{l:List iL}{x:Int × List (List Row)}(h:rR ⟨l,false⟩=(x,⟨[],false⟩))(hm:nf x.1 x.2=true):Am l=some x:=by
 unfold Am;rw[h];simp only;rw[zzc ⟨trivial,trivial,hm⟩]
def T8{aw:Int}{ts:List (List Row)}(h:nf aw ts=true):oP (ij (nk aw ts))=some (aw,ts):=by
 have hl:=D2 h;have h1:=(Wz h).2;have h2:=eFo h;generalize nk aw ts=p at *
 have ht:=M3 (p:=p) (r:=[]) (by omega);rw[zzw]at ht
 exact (T7 ht (oY p).symm h1).trans (eFn h2 h)
abbrev mI:=List (List Row)
def ny(ts:mI)(t:Int):List Row:=if t<0 then [] else (ts[t.toNat]?).getD []
def oM(ts:mI)(c:jB):mI:=ts.set c.table.toNat (pI (ny ts c.table) c)
def kZ(ts:mI)(l:List jB):mI:=l.foldl oM ts
def mf(n:Nat)(c:jB):Bool:=decide (0<=c.table/\c.table<(n:Int))
def rL(ts:mI)(l:List jB):Bool:=l.all (mf ts.length) && (kZ ts l).all λC=>decide (C.length<=1000)
def BC(ts:mI)(c:jB):(oM ts c).length=ts.length:=yyh
def xM(ts:mI):∀l:List jB,(kZ ts l).length=ts.length:=λl=>by
 unfold kZ;induction l generalizing ts with
 | nil=>rfl
 | cons c l ih=>rw[wwd,ih,BC]
def bwc(ts:mI)(l m:List jB):kZ ts (l++m)=kZ (kZ ts l) m:=ww8
def To(ts:mI)(l:List jB)(c:jB):kZ ts (l++[c])=oM (kZ ts l) c:=by rw[bwc];rfl
def tI(ts:mI)(t:Nat)(h:t<ts.length):ny ts t=ts[t]:=by
 unfold ny;rw[zzb (by omega),zzv,zzd h];rfl
def GC{ts:mI}{t:Int}(h:0<=t/\t<ts.length):ny ts t∈ts:=by
 obtain⟨n,rfl⟩:∃n:Nat,t=n:=⟨t.toNat,by omega⟩;rw[tI ts n (by omega)];exact zzg _
structure sM(C:List Row):Prop where
 sorted:lj C
 rows:∀r∈C,wF r
def sM.app{C:List Row}(h:sM C){c:jB}{k:Int}(hc:rS c k=true):sM (pI C c):=by
 have hm:=CO.1 hc;unfold pI;split
 ·exact⟨aw6 h.sorted _,λr hr=>h.rows r (Xn hr)⟩
 refine⟨MO h.sorted _,λr hr=>?_⟩;rcases Xq hr with rfl|hr
 ·exact⟨by show 1<=c.key;omega,by show c.key<=_;omega,by show c.val.size<=_;omega⟩
 exact h.rows r hr
def ai4:sM []:=⟨List.Pairwise.nil,by simp⟩
def fRx(C:List Row)(c:jB):(pI C c).length<=C.length+1:=by
 unfold pI;split
 ·have:=W4 C c.key;omega
 exact LW C _
def L9{ts:mI}{c:jB}{C:List Row}(h:C∈oM ts c):C∈ts\/C=pI (ny ts c.table) c:=by
 unfold oM at h;exact vv2 h
def a_y{ts:mI}(h:∀C∈ts,sM C){c:jB}{k:Int}(hc:rS c k=true)(ht:mf ts.length c=true):∀C∈oM ts c,sM C:=λC hC=>by
 rcases L9 hC with hC|rfl
 ·exact h C hC
 exact (h _ (GC (zzl ht))).app hc
def JT{k:Int}:∀{l:List jB} {ts:mI},(∀C∈ts,sM C)->(∀c∈l,rS c k=true)->(∀c∈l,mf ts.length c=true)->∀C∈kZ ts l,sM C
 | [],ts,h,_,_=>h
 | c::l,ts,h,h1,h2=>by
  show ∀C∈kZ (oM ts c) l,sM C;refine JT (a_y h (h1 c (.head _)) (h2 c (.head _))) (λx hx=>h1 x (.tail _ hx)) λx hx=>?_;rw[BC];exact h2 x (.tail _ hx)
def G2(N:Nat):∀{l:List jB} {ts:mI},(∀C∈ts,C.length<=N)->(∀c∈l,mf ts.length c=true)->∀C∈kZ ts l,C.length<=N+l.length
 | [],ts,h,_=>h
 | c::l,ts,h,h2=>by
  intro C hC;have hA:∀C∈oM ts c,C.length<=N+1:=λC hC=>by
   rcases L9 hC with hC|rfl
   ·have:=h C hC;omega
   have h1:=fRx (ny ts c.table) c;have h3:=h _ (GC (zzl (h2 c (.head _))));omega
  have:=G2 (N+1) (l:=l) hA (λx hx=>by rw[BC];exact h2 x (.tail _ hx)) C hC;rw[zzj];omega
structure g_ where
 g:ib
 d:DS
 ts:mI
 iZ:Int
 image:Int
def mE(R:List PF)(n:Nat)(f:Int):Option (Int × mI):=match iQ PF.id R f with
 | none=>none
 | some x=>match oP x.b with
  | none=>none
  | some y=>if y.2.length=n then some y else none
abbrev vL:=Int × Int × mI
def lC(R:List PF)(n:Nat)(f:Int)(x:vL):vL:=match mE R n f with
 | none=>x
 | some y=>if 0<=x.1/\y.1<=x.2.1 then x else (f,y.1,y.2)
def pE(R:List PF)(n:Nat):vL:=lC R n 1 (lC R n 0 (-1,0,List.replicate n []))
def tG(n:Nat)(image:Int):List (Δ)->Int->mI->Option mI
 | [],_,ts=>some ts
 | b::r,aw,ts=>match pN b with
  | .error _=>none
  | .ok t=>if t.aw=aw/\(∀c∈t.changes,c.table<(n:Int)) then tG n image r (aw+1) (if image<aw then kZ ts t.changes else ts) else none
def pG(d:DS)(gw size:Int):DS × Except Int g_:=
 if gw<1\/8<gw then (d,.error 1)
 else match jX d 16 size with
  | (d',.error e)=>(d',.error e)
  | (d',.ok g)=>
   let x:=pE d'.R gw.toNat
   match tG gw.toNat x.2.1 (gR g.bF) (j7 g.bF) x.2.2 with
   | none=>(d',.error 3)
   | some ts=>if x.2.1<=f_ g.bF/\j7 g.bF<=x.2.1+1 then (d',.ok ⟨g,d',ts,x.1,x.2.1⟩) else (d',.error 3)
abbrev lB:=sP
def g_.lK(k:g_)(t:fF):g_ × (Int × Int):=
 if k.d.off=true then (k,(0,8))
 else if rL k.ts t.changes=false\/1099511627776<=f_ k.g.bF then (k,(0,7))
 else
  let r:=ki k.g k.d (lB {t with aw:=f_ k.g.bF+1})
  if r.2.2=0 then ({k with g:=r.1.1,d:=r.1.2,ts:=kZ k.ts t.changes},(f_ k.g.bF+1,0)) else ({k with g:=r.1.1,d:=r.1.2},(0,r.2.2))
def g_.tg(k:g_)(sg:Θ)(l:List jB):g_ × (Int × Int):=
 if jC ⟨1,1,l,sg,0⟩=true/\(∀c∈l,c.table<(k.ts.length:Int)) then k.lK ⟨1,1,l,sg,0⟩ else (k,(0,1))
def g_.sy(k:g_)(kind mark:Int):g_ × (Int × Int):=
 if (kind=2\/kind=3)/\jC ⟨1,kind,[],[],mark⟩=true then k.lK ⟨1,kind,[],[],mark⟩ else (k,(0,1))
def g_.mF(k:g_)(aw:Int):Except Int fF:=match rV k.g.bF aw with
 | none=>.error 5
 | some b=>pN b
def nE(k:g_):Int:=if k.iZ=0 then 1 else 0
def pa(d:DS)(f:Int)(b:Δ):DS × Int:=
 let c:=if 0<=lH d.R f then d.cut f 0 else (d,0)
 if c.2≠0 then c else
 let a:=c.1.append f b
 if a.2≠0 then a else a.1.sync f
def g_.mS(k:g_):g_ × Int:=
 let r:=pa k.d (nE k) (ij (nk (f_ k.g.bF) k.ts))
 if r.2=0 then ({k with d:=r.1,iZ:=nE k,image:=f_ k.g.bF},0) else ({k with d:=r.1},r.2)
def g_.mG(k:g_)(aw:Int):g_ × Int:=
 if aw<0\/f_ k.g.bF<aw then (k,1)
 else if k.d.off=true then (k,8)
 else
  let r:=if k.image<aw then k.mS else (k,0)
  if r.2≠0 then r else
  let t:=mv r.1.g r.1.d aw
  ({r.1 with g:=t.1.1,d:=t.1.2},t.2)
def s_(C:List Row)(key:Int)(n:Int):List Row:=(C.filter λr=>decide (key<r.key)).take n.toNat
def g_.BL(k:g_)(t key n:Int):List Row:=s_ (ny k.ts t) key n
structure iO(lo hi:Int)(A B M:List PF):Prop where
 a:∀x∈A,x.id<lo
 m:∀x∈M,lo<=x.id/\x.id<hi
 b:∀x∈B,hi<=x.id
def ix(A B:List PF)(d:DS):DS:={d with R:=A++d.R++B}
section
variable {lo hi:Int} {A B M:List PF}
def iO.eI(h:iO lo hi A B M){f:Int}(h1:lo<=f)(h2:f<hi):kj PF.id (A++M++B) f=A.length+kj PF.id M f:=by
 have eA:A.filter (λx=>decide (PF.id x<f))=A:=yy2.2 λx hx=>zzm (by have:=h.a x hx;omega);have eB:B.filter (λx=>decide (PF.id x<f))=[]:=vve.2 λx hx=>by have:=h.b x hx;simp;omega
 unfold kj;rw[yy0,yy0,eA,eB,zzw,zza]
def iO.at_(h:iO lo hi A B M)(c:Nat)(hc:c<=M.length):(A++M++B)[A.length+c]?=if c<M.length then M[c]? else B[0]?:=by
 rw[zzk,yya (by omega),show A.length+c-A.length=c by omega];split
 ·rw[zzr (by omega)]
 rw[yya (by omega),show c-M.length=0 by omega]
def iO.is(h:iO lo hi A B M){f:Int}(h1:lo<=f)(h2:f<hi):mu PF.id (A++M++B) f=mu PF.id M f:=by
 unfold mu;rw[h.eI h1 h2,h.at_ _ (G_ M f)];by_cases hc:kj PF.id M f<M.length
 ·rw[zzc hc]
 rw[zzb hc,yyr (l:=M) (by omega)];cases hB:B[0]? with
 | none=>rfl
 | some y=>
  have:=h.b y (xxe hB);simp;omega
def iO.get(h:iO lo hi A B M){f:Int}(h1:lo<=f)(h2:f<hi):iQ PF.id (A++M++B) f=iQ PF.id M f:=by
 unfold iQ;rw[h.is h1 h2];split
 ·rename_i hi;obtain⟨hl,_⟩:=xx hi;rw[h.eI h1 h2,h.at_ _ (by omega),zzc hl]
 rfl
def iO.put(h:iO lo hi A B M){x:PF}(h1:lo<=x.id)(h2:x.id<hi):kX PF.id (A++M++B) x=A++kX PF.id M x++B:=by
 have hc:=G_ (key:=PF.id) M x.id;unfold kX;rw[h.is h1 h2,h.eI h1 h2];have e1:(A++M++B).take (A.length+kj PF.id M x.id)=A++M.take (kj PF.id M x.id):=by
  rw[zzk,wwa,yy9 hc]
 rw[e1];split
 ·rename_i hi;obtain⟨hl,_⟩:=xx hi;rw[zzk A M B,ww9,xxr,xxa (by omega)];simp only[zzk]
 rw[zzk A M B,xxr,xxa hc];simp only[zzk]
def iO.del(h:iO lo hi A B M){f:Int}(h1:lo<=f)(h2:f<hi):nM PF.id (A++M++B) f=A++nM PF.id M f++B:=by
 unfold nM;rw[h.is h1 h2];split
 ·rename_i hi;obtain⟨hl,_⟩:=xx hi;rw[h.eI h1 h2,zzk,List.eraseIdx_append_of_length_le (by omega),show A.length+kj PF.id M f-A.length=kj PF.id M f by omega,List.eraseIdx_append_of_lt_length hl,zzk]
 rfl
def iO.app(h:iO lo hi A B M){f:Int}(h1:lo<=f)(h2:f<hi)(b:Δ):o_ (A++M++B) f b=A++o_ M f b++B:=by
 unfold o_;rw[h.get h1 h2,h.put (x:=⟨f,_,_⟩) h1 h2]
def iO.vI(h:iO lo hi A B M){f:Int}(h1:lo<=f)(h2:f<hi)(g:PF->PF):oJ (A++M++B) f g=A++oJ M f g++B:=by
 unfold oJ;rw[h.get h1 h2];split
 ·rw[h.put (x:={g _ with id:=f}) h1 h2]
 rfl
def iO.len(h:iO lo hi A B M){f:Int}(h1:lo<=f)(h2:f<hi):lH (A++M++B) f=lH M f:=by
 unfold lH;rw[h.get h1 h2]
def iO.Ng{M':List PF}(h:iO lo hi A B M)(hm:∀x∈M',lo<=x.id/\x.id<hi):iO lo hi A B M':=⟨h.a,hm,h.b⟩
def iO.icb(h:iO lo hi A B M){f:Int}(h1:lo<=f)(h2:f<hi)(b:Δ):iO lo hi A B (o_ M f b):=h.Ng λx hx=>by
 rcases D7 hx with rfl|hx
 ·exact⟨h1,h2⟩
 exact h.m x hx
def iO.aIj(h:iO lo hi A B M){f:Int}(h1:lo<=f)(h2:f<hi)(g:PF->PF):iO lo hi A B (oJ M f g):=h.Ng λx hx=>by
 rcases IE hx with hx|⟨y,_,_,rfl⟩
 ·exact h.m x hx
 exact⟨h1,h2⟩
def iO.icf(h:iO lo hi A B M)(f:Int):iO lo hi A B (nM PF.id M f):=h.Ng λx hx=>h.m x (ID hx)
end
section
variable {lo hi:Int} {A B:List PF} {d:DS}
def WC(f:Int):may (ix A B d) f=may d f:=rfl
def LM(h:iO lo hi A B d.R){f:Int}(h1:lo<=f)(h2:f<hi):(ix A B d).find f=d.find f:=by
 unfold DS.find;rw[WC,show (ix A B d).R=A++d.R++B from rfl,h.is h1 h2]
def Ir(h:iO lo hi A B d.R){f:Int}(h1:lo<=f)(h2:f<hi)(b:Δ):(ix A B d).append f b=(ix A B (d.append f b).1,(d.append f b).2)/\iO lo hi A B (d.append f b).1.R:=by
 unfold DS.append;rw[WC];split
 ·exact⟨rfl,h⟩
 rw[show (ix A B d).R=A++d.R++B from rfl,h.app h1 h2];exact⟨rfl,h.icb h1 h2 b⟩
def LO(h:iO lo hi A B d.R){f:Int}(h1:lo<=f)(h2:f<hi):(ix A B d).sync f=(ix A B (d.sync f).1,(d.sync f).2)/\iO lo hi A B (d.sync f).1.R:=by
 unfold DS.sync;rw[LM h h1 h2];split
 ·exact⟨rfl,h⟩
 rw[show (ix A B d).eI.off=d.eI.off from rfl];split
 ·exact⟨rfl,h⟩
 rw[show (ix A B d).R=A++d.R++B from rfl,h.vI h1 h2];exact⟨rfl,h.aIj h1 h2 _⟩
def Is(h:iO lo hi A B d.R){f:Int}(h1:lo<=f)(h2:f<hi)(n:Int):(ix A B d).cut f n=(ix A B (d.cut f n).1,(d.cut f n).2)/\iO lo hi A B (d.cut f n).1.R:=by
 unfold DS.cut;rw[LM h h1 h2,show (ix A B d).R=A++d.R++B from rfl,h.len h1 h2];split
 ·exact⟨rfl,h⟩
 split
 ·exact⟨rfl,h⟩
 rw[show (ix A B d).eI.off=d.eI.off from rfl];split
 ·exact⟨rfl,h⟩
 rw[h.vI h1 h2];exact⟨rfl,h.aIj h1 h2 _⟩
def LN(h:iO lo hi A B d.R){f:Int}(h1:lo<=f)(h2:f<hi):(ix A B d).remove f=(ix A B (d.remove f).1,(d.remove f).2)/\iO lo hi A B (d.remove f).1.R:=by
 unfold DS.remove;rw[LM h h1 h2];split
 ·exact⟨rfl,h⟩
 rw[show (ix A B d).eI.off=d.eI.off from rfl];split
 ·exact⟨rfl,h⟩
 rw[show (ix A B d).R=A++d.R++B from rfl,h.del h1 h2];exact⟨rfl,h.icf f⟩
structure sH(lo hi:Int)(g:ib):Prop where
 b0:lo<=g.base
 b1:g.base+4096<=hi
 bF:∀s∈g.bF,g.base<=s.file/\s.file<g.base+4096
 iC:∀x,g.iC=some x->g.base<=x.file/\x.file<g.base+4096
def Z'{g:ib}(h:sH lo hi g){off:Bool}{p:Δ}{x:mc}(hx:jQ g off p= .ok x):g.base<=x.file/\x.file<g.base+4096:=by
 have hf:∀f,g.base<=f->rM g f p= .ok x->g.base<=x.file/\x.file<g.base+4096:=λf hb hf=>by
  unfold rM at hf;split at hf
  ·cases hf
  cases hf;exact⟨hb,by dsimp only;omega⟩
 unfold jQ at hx;split at hx
 ·cases hx
 split at hx
 ·cases hx
 split at hx
 ·cases hx
 split at hx
 ·exact hf _ (yyc _) hx
 rename_i s hs;have hs:=h.bF s (xxu hs);split at hx
 ·cases hx;exact hs
 exact hf _ (by omega) hx
def Xx{g:ib}(hg:sH lo hi g)(h:iO lo hi A B d.R):iq g (ix A B d)=(((iq g d).1.1,ix A B (iq g d).1.2),(iq g d).2)/\iO lo hi A B (iq g d).1.2.R/\sH lo hi (iq g d).1.1:=by
 unfold iq;cases ht:g.iC with
 | none=>exact⟨rfl,h,hg⟩
 | some x=>
  have hx:=hg.iC x ht;have h1:=hg.b0;have h2:=hg.b1;simp only;split
  ·obtain⟨e,hw⟩:=LN h (f:=x.file) (by omega) (by omega);rw[e];refine⟨rfl,hw,hg.b0,hg.b1,hg.bF,λy hy=>?_⟩;simp only at hy;split at hy
   ·cases hy
   cases hy;exact hx
  obtain⟨e,hw⟩:=Is h (f:=x.file) (by omega) (by omega) x.tu;rw[e];refine⟨rfl,hw,hg.b0,hg.b1,hg.bF,λy hy=>?_⟩;simp only at hy;split at hy
  ·cases hy
  cases hy;exact hx
def fF8{L:List il}{x:mc}{p:Δ}{P:Int->Prop}(hL:∀s∈L,P s.file)(hx:P x.file):∀s∈nQ L x p,P s.file:=by
 unfold nQ;have h1:∀s∈(if x.fresh=true then L++[⟨x.file,f_ L+1,0,[]⟩] else L),P s.file:=by
  split
  ·intro s hs;rcases zz0.1 hs with hs|hs
   ·exact hL s hs
   rw[zz3.1 hs];exact hx
  exact hL
 intro s hs;simp only at hs;rcases zz0.1 hs with hs|hs
 ·exact h1 s (List.dropLast_subset _ hs)
 obtain⟨y,hy,rfl⟩:=zzy.1 hs;exact h1 y (xxu (by simpa using hy))
def JS{g:ib}(hg:sH lo hi g)(h:iO lo hi A B d.R)(p:Δ):ki g (ix A B d) p=(((ki g d p).1.1,ix A B (ki g d p).1.2),(ki g d p).2)/\iO lo hi A B (ki g d p).1.2.R/\sH lo hi (ki g d p).1.1:=by
 unfold ki;rw[show (ix A B d).off=d.off from rfl];cases hp:jQ g d.off p with
 | error e=>exact⟨rfl,h,hg⟩
 | ok x=>
  have hx:=Z' hg hp;have h1:=hg.b0;have h2:=hg.b1;obtain⟨em,hm,uQ⟩:=Xx hg h;simp only;rw[em];simp only;split
  ·exact⟨rfl,hm,uQ⟩
  obtain⟨ea,ha⟩:=Ir hm (f:=x.file) (by omega) (by omega) x.b;rw[ea];simp only;split
  ·exact⟨rfl,ha,uQ⟩
  obtain⟨es,hs⟩:=LO ha (f:=x.file) (by omega) (by omega);rw[es];simp only;split
  ·exact⟨rfl,hs,uQ⟩
  refine⟨rfl,hs,uQ.b0,uQ.b1,?_,uQ.iC⟩;have x_:(iq g d).1.1.base=g.base:=(xz g d).2.1;show ∀s∈nQ (iq g d).1.1.bF x p,(iq g d).1.1.base<=s.file/\s.file<(iq g d).1.1.base+4096;exact fF8 (P:=λf=>(iq g d).1.1.base<=f/\f<(iq g d).1.1.base+4096) uQ.bF (by rw[x_];exact hx)
def aFt(n:Int):∀(L:List il) (d:DS),(∀s∈L,lo<=s.file/\s.file<hi)->iO lo hi A B d.R->mw L (ix A B d) n=(((mw L d n).1.1,ix A B (mw L d n).1.2),(mw L d n).2)/\iO lo hi A B (mw L d n).1.2.R
 | [],d,_,h=>⟨rfl,h⟩
 | [s],d,_,h=>⟨rfl,h⟩
 | s::t::r,d,hL,h=>by
  unfold mw;obtain⟨e,hw⟩:=LN h (hL s (.head _)).1 (hL s (.head _)).2;split
  ·rw[e];simp only;split
   ·exact⟨rfl,hw⟩
   exact aFt n (t::r) _ (λs hs=>hL s (.tail _ hs)) hw
  exact⟨rfl,h⟩
def aFq{g:ib}(hg:sH lo hi g)(h:iO lo hi A B d.R)(n:Int):mv g (ix A B d) n=(((mv g d n).1.1,ix A B (mv g d n).1.2),(mv g d n).2)/\iO lo hi A B (mv g d n).1.2.R/\sH lo hi (mv g d n).1.1:=by
 unfold mv;rw[show (ix A B d).off=d.off from rfl];split
 ·exact⟨rfl,h,hg⟩
 have h1:=hg.b0;have h2:=hg.b1;obtain⟨e,hw⟩:=aFt n g.bF d (λs hs=>by have:=hg.bF s hs;omega) h;rw[e];exact⟨rfl,hw,hg.b0,hg.b1,λs hs=>hg.bF s ((M4 n g.bF d).1 s hs),hg.iC⟩
def eFc{M:List PF}{base:Int}(h:iO base (base+4096) A B M):kM base (A++M++B)=kM base M:=by
 have eA:(A.map PF.id).filter (λf=>decide (base<=f/\f<base+4096))=[]:=vve.2 λf hf=>by
  obtain⟨x,hx,rfl⟩:=zzy.1 hf;have:=h.a x hx;simp;omega
 have eB:(B.map PF.id).filter (λf=>decide (base<=f/\f<base+4096))=[]:=vve.2 λf hf=>by
  obtain⟨x,hx,rfl⟩:=zzy.1 hf;have:=h.b x hx;simp;omega
 unfold kM;rw[zzt,zzt,yy0,yy0,eA,eB,zzp,zzw]
def eWj{M:List PF}{L:List il}{f:Int}{last:Bool}(h:iO lo hi A B M)(h1:lo<=f)(h2:f<hi):na L (A++M++B) f last=na L M f last:=by
 unfold na;rw[h.get h1 h2]
def W_{M:List PF}(h:iO lo hi A B M):∀(ids:Ξ) (prev:Option Int) (L:List il) (wh:Bool),(∀f∈ids,lo<=f/\f<hi)->pV (A++M++B) ids prev L wh=pV M ids prev L wh
 | [],_,_,_,_=>rfl
 | f::r,prev,L,wh,hi=>by
  unfold pV;rw[eWj h (hi f (.head _)).1 (hi f (.head _)).2];simp only;rw[W_ h r _ _ _ λf hf=>hi f (.tail _ hf)]
def Ww{M:List PF}{base f:Int}(h:f∈kM base M):base<=f/\f<base+4096:=by
 unfold kM at h;exact zzl (xx3.1 h).2
def bwh{L:List il}{base:Int}{ids:Ξ}{wh:Bool}(h:iO base (base+4096) A B d.R)(hi:∀f∈ids,base<=f/\f<base+4096):nC L (ix A B d) ids wh=(ix A B (nC L d ids wh).1,(nC L d ids wh).2)/\iO base (base+4096) A B (nC L d ids wh).1.R:=by
 unfold nC;cases hl:ids.getLast? with
 | none=>exact⟨rfl,h⟩
 | some f=>
  obtain⟨h1,h2⟩:=hi f (xxu hl);simp only;split
  ·exact LN h h1 h2
  rw[show (ix A B d).R=A++d.R++B from rfl,h.len h1 h2];split
  ·exact Is h h1 h2 _
  exact⟨rfl,h⟩
def D'{base size:Int}(h:iO base (base+4096) A B d.R):jX (ix A B d) base size=(ix A B (jX d base size).1,(jX d base size).2)/\iO base (base+4096) A B (jX d base size).1.R:=by
 unfold jX;split
 ·exact⟨rfl,h⟩
 rw[show (ix A B d).off=d.off from rfl,show (ix A B d).R=A++d.R++B from rfl,eFc h,W_ h _ _ _ _ λf hf=>Ww hf];split
 ·exact⟨rfl,h⟩
 split
 ·exact⟨rfl,h⟩
 rename_i L wh _;obtain⟨e,hw⟩:=bwh (L:=L) (wh:=wh) h λf hf=>Ww hf;rw[e];simp only;split
 ·exact⟨rfl,hw⟩
 exact⟨rfl,hw⟩
end
def TU(A M B:List PF)(keep:Ξ):jV (A++M++B) keep=jV A keep++jV M (keep.drop A.length)++jV B (keep.drop (A.length+M.length)):=by
 have hm:∀(L:List PF) (k:Nat),(L.mapIdx λi=>mY keep (i+k))=jV L (keep.drop k):=λL k=>by
  unfold jV;congr 1
  funext i x
  unfold mY n_;rw[wwi,uu0 k i]
 conv=>lhs;unfold jV
 rw[uu2,uu2,zza,hm M A.length,hm B (A.length+M.length)];rfl
def TW(R:List PF)(keep:Ξ):(jV R keep).map PF.id=R.map PF.id:=by
 unfold jV;refine xxp (by simp) λi h1 h2=>?_;rw[xxw,vv3,xxw];rfl
def Gf{R:List PF}{keep:Ξ}{y:PF}(h:y∈jV R keep):∃x∈R,x.id=y.id:=by
 have h1:y.id∈(jV R keep).map PF.id:=vv4 h;rw[TW]at h1
 obtain⟨x,hx,e⟩:=zzy.1 h1;exact⟨x,hx,e⟩
def iO.jO{lo hi:Int}{A B M:List PF}(h:iO lo hi A B M)(keep k2 k3:Ξ):iO lo hi (jV A keep) (jV B k3) (jV M k2):=
 ⟨λx hx=>by obtain⟨y,hy,e⟩:=Gf hx;rw[<- e];exact h.a y hy,λx hx=>by obtain⟨y,hy,e⟩:=Gf hx;rw[<- e];exact h.m y hy,λx hx=>by obtain⟨y,hy,e⟩:=Gf hx;rw[<- e];exact h.b y hy⟩
def kF(n:Nat)(l:List fF):mI:=(List.range n).map λt:Nat=>B1 (t:Int) l
def u9(n:Nat)(l:List fF):(kF n l).length=n:=by unfold kF;simp
def aFj{n:Nat}(l:List fF)(t:Nat)(h:t<n):ny (kF n l) t=B1 (t:Int) l:=by
 rw[tI _ t (by rw[u9];exact h)];unfold kF;simp
def gi0{ts:mI}{c:jB}(h:mf ts.length c=true)(t:Nat)(ht:t<ts.length):ny (oM ts c) t=AI t (ny ts t) c:=by
 have hc:0<=c.table/\c.table<(ts.length:Int):=zzl h;rw[tI _ t (by rw[BC];exact ht)];unfold oM AI;rw[xxi];by_cases e:c.table=t
 ·rw[zzc (by omega),zzc e,e];rfl
 rw[zzb (by omega),zzb e,tI ts t ht]
def aFi:∀{l:List jB} {ts:mI},(∀c∈l,mf ts.length c=true)->∀t:Nat,t<ts.length->ny (kZ ts l) t=l.foldl (AI t) (ny ts t)
 | [],ts,_,t,_=>rfl
 | c::l,ts,h,t,ht=>by
  show ny (kZ (oM ts c) l) t=_;rw[aFi (λx hx=>by rw[BC];exact h x (.tail _ hx)) t (by rw[BC];exact ht),gi0 (h c (.head _)) t ht];rfl
def gi5{a b:mI}(hl:a.length=b.length)(h:∀t:Nat,t<a.length->ny a t=ny b t):a=b:=
 xxp hl λt h1 h2=>by have:=h t h1;rw[tI a t h1,tI b t h2]at this;exact this
def Je{n:Nat}{l:List fF}{t:fF}(h:∀c∈t.changes,mf n c=true):kZ (kF n l) t.changes=kF n (l++[t]):=by
 have hl:=u9 n l;have h':∀c∈t.changes,mf (kF n l).length c=true:=λc hc=>by rw[hl];exact h c hc
 refine gi5 (by rw[xM,u9,u9]) λi hi=>?_;rw[xM,hl]at hi
 rw[aFi h' i (by rw[hl];exact hi),aFj l i hi,aFj _ i hi];unfold B1;simp
def MZ(n:Nat):kF n []=List.replicate n []:=by
 unfold kF B1;refine xxp (by simp) λi h1 h2=>by simp
structure wP(n:Nat)(all:List fF):Prop where
 may:∀t∈all,jC t=true
 aw:∀i (h:i<all.length),all[i].aw=(i:Int)+1
 ch:∀t∈all,∀c∈t.changes,mf n c=true
def TD{t:fF}(h:jC t=true):pN (lB t)= .ok t:=TE h
def ai1{n:Nat}{all:List fF}(h:wP n all)(m:Nat):∀(k j:Nat),j+k=all.length->tG n m ((all.drop j).map lB) ((j:Int)+1) (kF n (all.take (max j m)))=some (kF n (all.take (max all.length m)))
 | 0,j,hj=>by
  rw[yy3 (by omega),show j=all.length by omega];rfl
 | k+1,j,hj=>by
  have hl:j<all.length:=by omega
  have ih:=ai1 h m k (j+1) (by omega);have hm:=h.may _ (zzg hl);have ri:=h.ch _ (zzg hl);rw[yyq hl,zzn,tG,TD hm];simp only;rw[zzc ⟨h.aw j hl,λc hc=>(zzl (ri c hc)).2⟩];have e:(if (m:Int)<(j:Int)+1 then kZ (kF n (all.take (max j m))) all[j].changes else kF n (all.take (max j m)))=kF n (all.take (max (j+1) m)):=by
   split
   ·rw[show max j m=j by omega,show max (j+1) m=j+1 by omega,Je ri,zze hl]
   rw[show max j m=m by omega,show max (j+1) m=m by omega]
  rw[e,show (j:Int)+1+1=((j+1:Nat):Int)+1 by omega];exact ih
def aFk{n:Nat}:∀(k:Nat) (l:List fF),l.length=k->(∀t∈l,jC t=true)->(∀t∈l,∀c∈t.changes,mf n c=true)->(∀C∈kF n l,sM C)
 | 0,l,hl,_,_=>by
  rw[zzo hl,MZ];intro C hC;rw[vvb hC];exact ai4
 | k+1,l,hl,h1,h2=>by
  have iX:l≠[]:=λe=>by rw[e]at hl;cases hl
  obtain⟨l',t,rfl⟩:∃l' t,l=l'++[t]:=⟨l.dropLast,l.getLast iX,(List.dropLast_concat_getLast iX).symm⟩;have ri:=h2 t (by simp);rw[zza,zz6]at hl
  rw[<- Je ri];exact JT (k:=8) (aFk k l' (by omega) (λx hx=>h1 x (by simp[hx])) λx hx=>h2 x (by simp[hx])) (λc hc=>(sA (h1 t (by simp))).2.2.2.2.2.1 c hc) λc hc=>by rw[u9];exact ri c hc
def M0{n:Nat}{l:List fF}(h1:∀t∈l,jC t=true)(h2:∀t∈l,∀c∈t.changes,mf n c=true):∀C∈kF n l,sM C:=aFk l.length l rfl h1 h2
def aFu(k:Int):∀(L:List il) (f n:Int) (d:DS),lO f n L->d.R=L.map jF->d.off=false->0<=d.arm->0<=f->f+L.length<=16384 ->
  ∃d' i e,mw L d k=((L.drop i,d'),e)/\(i<L.length\/i=0)/\d'.R=(L.drop i).map jF/\(i=0\/n+(gR (L.take i)).length<=k+1)/\d'.ops<=d.ops+L.length/\0<=d'.arm/\d'.arm<=d.arm /\
   ((e=0/\d'.off=false/\(d.arm=0->d'.arm=0))\/(e=8/\d'.off=true/\d.arm≠0))
 | [],f,n,d,_,hR,ho,ha,_,_=>⟨d,0,0,rfl,.inr rfl,hR,.inl rfl,by simp,ha,yyc _,.inl ⟨rfl,ho,λh=>h⟩⟩
 | [s],f,n,d,_,hR,ho,ha,_,_=>⟨d,0,0,rfl,.inr rfl,hR,.inl rfl,by simp,ha,yyc _,.inl ⟨rfl,ho,λh=>h⟩⟩
 | s::t::L,f,n,d,hc,hR,ho,ha,h0,h1=>by
  have wx:=hc.wT.sorted;obtain⟨c1,c2,c3,c4,c5,c6⟩:=hc;rw[mw];by_cases hk:s.next-1<=k
  ·rw[zzc hk];have so:d.find s.file=0:=by
    unfold DS.find;have hm:may d s.file=0:=by
     unfold may;rw[zzb (by simp[ho]),zzb (by simp at h1;omega)]
    rw[zzb (by simp[hm]),hR,zzc];exact (CI wx).2 ⟨jF s,by simp,rfl⟩
   by_cases Dw:d.arm=1
   ·have Cw:d.remove s.file=(d.eI,8):=by
     unfold DS.remove;rw[zzb (by simp[so]),zzc (by simp[DS.eI,Dw])]
    rw[Cw];exact⟨d.eI,0,8,by rw[zzc (by simp)];rfl,.inr rfl,hR,.inl rfl,by simp only[DS.eI,zzj];omega,by simp[DS.eI,Dw],by simp[DS.eI,Dw],.inr ⟨rfl,by simp[DS.eI,Dw],by omega⟩⟩
   have Cw:d.remove s.file=({d.eI with R:=(t::L).map jF},0):=by
    unfold DS.remove;rw[zzb (by simp[so]),zzb (by simp[DS.eI,Dw])];have:nM PF.id d.R s.file=(t::L).map jF:=by rw[hR];exact bRs (x:=jF s) wx
    rw[this]
   rw[Cw];have Vg:0<=d.eI.arm/\d.eI.arm<=d.arm:=by
    simp only[DS.eI];split<;>omega
   obtain⟨d',i,e,r1,r2,r3,r6,r7,r8,MF,r9⟩:=aFu k (t::L) (f+1) (n+s.l.length) {d.eI with R:=(t::L).map jF} c6 rfl (by simp[DS.eI,Dw]) Vg.1 (by omega) (by simp at h1 ⊢;omega);refine⟨d',i+1,e,by rw[zzb (by simp)];exact r1,?_,r3,.inr ?_,?_,r8,ttg MF Vg.2,?_⟩
   ·rcases r2 with r2|r2
    ·exact .inl (by simp at r2 ⊢;omega)
    exact .inl (by simp;omega)
   ·rw[xxq,uD,zza];rcases r6 with r6|r6
    ·subst r6;simp only[il.next,c2]at hk;simp[gR];omega
    omega
   ·simp only[DS.eI,zzj]at r7 ⊢;omega
   have hz:({d.eI with R:=(t::L).map jF}:DS).arm=d.eI.arm:=rfl;rcases r9 with ⟨e1,e2,e3⟩|⟨e1,e2,e3⟩
   ·exact .inl ⟨e1,e2,λh=>e3 (by rw[hz];simp[DS.eI,h])⟩
   exact .inr ⟨e1,e2,λh=>e3 (by rw[hz];simp[DS.eI,h])⟩
  rw[zzb hk];exact⟨d,0,0,rfl,.inr rfl,hR,.inl rfl,by omega,ha,yyc _,.inl ⟨rfl,ho,λh=>h⟩⟩
structure Laid(g:ib)(d:DS)(f n:Int)(es:List (Δ)):Prop where
 chain:lO f n g.bF
 lG:gR g.bF=es
 files:d.R=g.bF.map jF
 nil:g.bF=[]->f=g.base/\n=1
 base:g.base<=f
 b0:0<=g.base
 b1:g.base<=12288
 s0:64<=g.size
 s1:g.size<=65536
 n1:1<=n
 fi:f+es.length+2<=g.base+4096
 iC:g.iC=none
def lI.laid{g:ib}{d:DS}{f n:Int}{es:List (Δ)}(h:lI g d f n es):Laid g d f n es:=⟨h.chain,h.lG,h.files,h.nil,h.base,h.b0,h.b1,h.s0,h.s1,h.n1,h.fi,h.iC⟩
def Laid.inv{g:ib}{d:DS}{f n:Int}{es:List (Δ)}(h:Laid g d f n es)(ho:d.off=false):lI g d f n es:=⟨h.chain,h.lG,h.files,h.nil,h.base,h.b0,h.b1,h.s0,h.s1,h.n1,h.fi,ho,h.iC⟩
def Laid.wK{g:ib}{d d':DS}{f n:Int}{es:List (Δ)}(h:Laid g d f n es)(hR:d'.R=d.R):Laid g d' f n es:=⟨h.chain,h.lG,hR.trans h.files,h.nil,h.base,h.b0,h.b1,h.s0,h.s1,h.n1,h.fi,h.iC⟩
def gw1{g:ib}{d:DS}{f n:Int}{es:List (Δ)}(h:lI g d f n es)(ha:0<=d.arm)(k:Int)(Ce:f+es.length+1<=16384):
  ∃(g':ib) (d':DS) (f':Int) (i:Nat) (e:Int),mv g d k=((g',d'),e)/\Laid g' d' f' (n+i) (es.drop i)/\i<=es.length/\(g.bF≠[]->g'.bF≠[])/\(∀s∈g'.bF,s∈g.bF)/\(i=0\/n+i<=k+1)/\d'.ops<=d.ops+g.bF.length/\g'.base=g.base/\g'.size=g.size/\f<=f'/\f'<=f+i/\0<=d'.arm/\d'.arm<=d.arm /\
   ((e=0/\d'.off=false/\(d.arm=0->d'.arm=0))\/(e=8/\d'.off=true/\d.arm≠0)):=by
 have hle:=h.chain.wA;rw[h.lG]at hle
 have hb:=h.base;have xg:=h.b0;obtain⟨d',i,e,r1,r2,r3,r6,r7,r8,MF,r9⟩:=aFu k g.bF f n d h.chain h.files h.off ha (by omega) (by omega);have HH:=h.chain;rw[<- yyl i g.bF]at HH
 obtain⟨k1,k2,k3⟩:=lO.app.1 HH;have Vv:gR (g.bF.take i)++gR (g.bF.drop i)=es:=by rw[<- BW,yyl,h.lG]
 have AZ:(gR (g.bF.take i)).length+(gR (g.bF.drop i)).length=es.length:=by rw[<- Vv,zza]
 have d_:(g.bF.take i).length=i:=by
  rw[zzf];rcases r2 with r2|r2<;>omega
 have iX:g.bF≠[]->g.bF.drop i≠[]:=λhn e=>by
  have:=yyu List.length e;rw[zzq]at this
  simp at this;rcases r2 with r2|r2
  ·omega
  subst r2;exact hn (zzo (by omega))
 have hi:i<=(gR (g.bF.take i)).length:=by
  by_cases hd:g.bF.drop i=[]
  ·rcases r2 with r2|r2
   ·have:=yyu List.length hd;rw[zzq]at this;simp at this;omega
   omega
  have hA:=k2 hd;have gen:∀A:List il,(∀s∈A,s.l≠[])->A.length<=(gR A).length:=by
   intro A;induction A with
   | nil=>intro _;simp
   | cons a A ih=>
    intro hA;have h0:a.l.length≠0:=λe=>hA a (.head _) (zzo e);have:=ih λs hs=>hA s (.tail _ hs);rw[uD,zza,zzj];omega
  have:=gen _ hA;rw[d_]at this;exact this
 have dF8:es.drop (gR (g.bF.take i)).length=gR (g.bF.drop i):=by rw[<- Vv,wwn]
 refine⟨{g with bF:=g.bF.drop i},d',f+(g.bF.take i).length,(gR (g.bF.take i)).length,e,?_,⟨k3,dF8.symm,r3,λe=>?_,by show g.base<=_;omega,h.b0,h.b1,h.s0,h.s1,by have:=h.n1;omega,?_,h.iC⟩,by omega,iX,λs hs=>vvs hs,?_,r7,rfl,rfl,by omega,by rw[d_];omega,r8,MF,r9⟩
 ·unfold mv;rw[zzb (by simp[h.off]),r1]
 ·have:g.bF=[]:=Classical.byContradiction λhn=>iX hn e;have h2:=h.nil this;rw[this];simp[gR,h2]
 ·have:=h.fi;have e:(es.drop (gR (g.bF.take i)).length).length=es.length-(gR (g.bF.take i)).length:=zzq;show f+((g.bF.take i).length:Int)+((es.drop (gR (g.bF.take i)).length).length:Int)+2<=g.base+4096;rw[e];omega
 rcases r6 with r6|r6
 ·subst r6;left;simp[gR]
 exact .inr r6
def Laid.open{g:ib}{d:DS}{f n:Int}{es:List (Δ)}(h:Laid g d f n es)(keep:Ξ)(n2:n+es.length<=1099511627776){size:Int}(s0:64<=size)(s1:size<=65536):
  jX (d.jO keep) g.base size=(d.jO keep,.ok ⟨g.bF,g.base,size,none⟩)/\lI ⟨g.bF,g.base,size,none⟩ (d.jO keep) f n es:=by
 have hR:(d.jO keep).R=g.bF.map jF:=by
  show jV d.R keep=_;rw[h.files,TV]
 have hle:=h.chain.wA;rw[h.lG]at hle
 have xh:=h.fi;exact⟨Mp h.chain hR rfl h.b0 h.b1 s0 s1 h.base (by omega) h.n1 (by rw[h.lG];exact n2),h.chain,h.lG,hR,h.nil,h.base,h.b0,h.b1,s0,s1,h.n1,h.fi,rfl,rfl⟩
structure p9(R R':List PF)(x:PF):Prop where
 sorted:kE PF.id R'
 CJ:x∈R'
 other:∀y,y.id≠x.id->(y∈R'↔y∈R)
def e_f(R:List PF)(x:PF):x∈kX PF.id R x:=by unfold kX;simp
def aw8{R:List PF}(hs:kE PF.id R){x y:PF}(hx:x∈R)(hy:y∈R)(e:x.id=y.id):x=y:=by
 have h1:=w9 hs hx;have h2:=w9 hs hy;rw[e,h2]at h1
 exact (xx2 h1).symm
def p9.put{R:List PF}(hs:kE PF.id R)(x:PF):p9 R (kX PF.id R x) x:=by
 refine⟨IS hs x,e_f R x,λy hy=>⟨λh=>?_,λh=>?_⟩⟩
 ·rcases D7 h with rfl|h
  ·exact absurd rfl hy
  exact h
 cases hi:mu PF.id R x.id with
 | false=>exact (MC hs hi).mem_iff.2 (.tail _ h)
 | true=>
  obtain⟨hl,hk⟩:=xx hi;rw[IQ hi];obtain⟨j,hj,rfl⟩:=yyi h;have iX:kj PF.id R x.id≠j:=λe=>by subst e;exact hy hk
  have:(R.set (kj PF.id R x.id) x)[j]'(by simpa using hj)=R[j]:=List.getElem_set_ne iX _;rw[<- this];exact zzg _
def p9.trans{R R1 R2:List PF}{x y:PF}(h1:p9 R R1 x)(h2:p9 R1 R2 y)(e:x.id=y.id):p9 R R2 y:=
 ⟨h2.sorted,h2.CJ,λz hz=>(h2.other z hz).trans (h1.other z (by rw[e];exact hz))⟩
def p9.mem{R R':List PF}{x y:PF}(h:p9 R R' x)(hy:y∈R'):y=x\/(y∈R/\y.id≠x.id):=by
 by_cases e:y.id=x.id
 ·exact .inl (aw8 h.sorted hy h.CJ e)
 exact .inr ⟨(h.other y e).1 hy,e⟩
def aF0{R:List PF}{f:Int}{x:PF}(h:iQ PF.id R f=some x)(g:PF->PF):oJ R f g=kX PF.id R {g x with id:=f}:=by
 unfold oJ;rw[h]
def Xl{d:DS}{f:Int}(f0:0<=f)(f1:f<16384)(h:d.off=false):may d f=0:=by
 unfold may;rw[zzb (by simp[h]),zzb (by omega)]
def bFt(d:DS)(h:0<=d.arm):0<=d.eI.arm/\d.eI.arm<=d.arm/\d.eI.ops=d.ops+1:=by
 refine⟨?_,?_,rfl⟩
 ·simp only[DS.eI];split<;>omega
 simp only[DS.eI];split<;>omega
def UH{d:DS}{f:Int}(hs:kE PF.id d.R)(f0:0<=f)(f1:f<16384)(h:d.off=false){x:PF}(hx:x∈d.R)(e:x.id=f):d.find f=0:=by
 unfold DS.find;rw[Xl f0 f1 h,zzb (by decide),zzc ((CI hs).2 ⟨x,hx,e⟩)]
def bR4{d:DS}{f:Int}{b:Δ}(h:lH d.R f<0):pa d f b=if (d.append f b).2≠0 then d.append f b else (d.append f b).1.sync f:=by
 unfold pa;rw[zzb (show ¬0<=lH d.R f by omega)];simp only;rw[zzb (show ¬((0:Int)≠0) by decide)]
def bR3{d:DS}{f:Int}{b:Δ}(h:0<=lH d.R f):pa d f b=if (d.cut f 0).2≠0 then d.cut f 0 else if ((d.cut f 0).1.append f b).2≠0 then (d.cut f 0).1.append f b else ((d.cut f 0).1.append f b).1.sync f:=by
 unfold pa;rw[zzc h]
def bR2{d:DS}(hs:kE PF.id d.R){f:Int}(f0:0<=f)(f1:f<16384)(ho:d.off=false)(ha:0<=d.arm)(b:Δ):
  (∃d',pa d f b=(d',0)/\p9 d.R d'.R ⟨f,b.length,b⟩/\d'.off=false/\0<=d'.arm/\d'.arm<=d.arm/\d'.ops<=d.ops+3) \/
  (∃d',pa d f b=(d',8)/\d'.off=true/\d.arm≠0/\0<=d'.arm/\d'.arm<=d.arm/\d'.ops<=d.ops+3/\(d'.R=d.R\/∃pre,(pre=[]\/pre=b)/\p9 d.R d'.R ⟨f,0,pre⟩)):=by
 have oA:∀{d:DS},d.off=false->may d f=0:=λ{d} h=>Xl f0 f1 h;have wj:∀d:DS,0<=d.arm->0<=d.eI.arm/\d.eI.arm<=d.arm/\d.eI.ops=d.ops+1:=bFt;have mT:∀d:DS,d.eI.off=true->d.arm=1:=λd h=>by simpa [DS.eI] using h
 have nY:∀(d1:DS),kE PF.id d1.R->d1.off=false->0<=d1.arm->(iQ PF.id d1.R f=none\/iQ PF.id d1.R f=some ⟨f,0,[]⟩) ->
   (∃d',(if (d1.append f b).2≠0 then d1.append f b else (d1.append f b).1.sync f)=(d',0)/\p9 d1.R d'.R ⟨f,b.length,b⟩/\d'.off=false/\0<=d'.arm/\d'.arm<=d1.arm/\d'.ops<=d1.ops+2) \/
   (∃d',(if (d1.append f b).2≠0 then d1.append f b else (d1.append f b).1.sync f)=(d',8)/\d'.off=true/\d1.arm≠0/\0<=d'.arm/\d'.arm<=d1.arm/\d'.ops<=d1.ops+2/\p9 d1.R d'.R ⟨f,0,b⟩):=by
  intro d1 Cz A7 rh hg;obtain⟨c1,c2,c3⟩:=wj d1 rh;have xe:o_ d1.R f b=kX PF.id d1.R ⟨f,0,b⟩:=by
   unfold o_;rcases hg with hg|hg<;>rw[hg]<;>rfl
  have e1:d1.append f b=({d1.eI with R:=kX PF.id d1.R ⟨f,0,b⟩},d1.eI.err):=by
   unfold DS.append;rw[zzb (by simp[oA A7]),xe]
  have hS:=p9.put Cz ⟨f,0,b⟩;rw[e1];cases hc:d1.eI.off with
  | true=>
   right;have:=mT d1 hc;exact⟨{d1.eI with R:=kX PF.id d1.R ⟨f,0,b⟩},by simp[DS.err,hc],hc,by omega,c1,c2,by show d1.eI.ops<=_;omega,hS⟩
  | false=>
   have he:d1.eI.err=0:=by simp[DS.err,hc]
   rw[he,zzb (by simp)];obtain⟨k1,k2,k3⟩:=wj d1.eI c1;have wm:iQ PF.id (kX PF.id d1.R ⟨f,0,b⟩) f=some ⟨f,0,b⟩:=w9 hS.sorted hS.CJ;have so:({d1.eI with R:=kX PF.id d1.R ⟨f,0,b⟩}:DS).find f=0:=UH (d:={d1.eI with R:=kX PF.id d1.R ⟨f,0,b⟩}) hS.sorted f0 f1 hc hS.CJ rfl;have KQ:({d1.eI with R:=kX PF.id d1.R ⟨f,0,b⟩}:DS).eI={d1.eI.eI with R:=kX PF.id d1.R ⟨f,0,b⟩}:=rfl;unfold DS.sync;rw[zzb (by rw[so];simp),KQ];cases oz:d1.eI.eI.off with
   | true=>
    right;have h1:=mT d1.eI oz;have h2:d1.arm≠0:=λe=>by rw[show d1.eI.arm=0 by simp[DS.eI,e]]at h1;cases h1
    exact⟨{d1.eI.eI with R:=kX PF.id d1.R ⟨f,0,b⟩},by simp[oz],oz,h2,k1,ttg k2 c2,by show d1.eI.eI.ops<=_;omega,hS⟩
   | false=>
    left;refine⟨{d1.eI.eI with R:=kX PF.id (kX PF.id d1.R ⟨f,0,b⟩) ⟨f,b.length,b⟩},by simp[oz,aF0 wm],?_,oz,k1,ttg k2 c2,by show d1.eI.eI.ops<=_;omega⟩;exact hS.trans (p9.put hS.sorted ⟨f,b.length,b⟩) rfl
 cases hg:iQ PF.id d.R f with
 | none=>
  have hl:lH d.R f = -1:=by unfold lH;rw[hg]
  rw[bR4 (by omega)];rcases nY d hs ho ha (.inl hg) with ⟨d',e,h1,h2,h3,h4,h5⟩|⟨d',e,h1,h2,h3,h4,h5,h6⟩
  ·exact .inl ⟨d',e,h1,h2,h3,h4,by omega⟩
  exact .inr ⟨d',e,h1,h2,h3,h4,by omega,.inr ⟨b,.inr rfl,h6⟩⟩
 | some x=>
  have hx:=xW hg;have hl:lH d.R f=(x.b.length:Int):=by unfold lH;rw[hg]
  obtain⟨c1,c2,c3⟩:=wj d ha;have so:d.find f=0:=UH hs f0 f1 ho hx.1 hx.2;rw[bR3 (by omega)];have Fv:d.cut f 0=if d.eI.off=true then (d.eI,8) else ({d.eI with R:=oJ d.R f (ni (0:Int).toNat)},0):=by
   unfold DS.cut;rw[zzb (show ¬d.find f≠0 by rw[so];decide),zzb (show ¬((0:Int)<0\/lH d.R f<0) by omega)]
  rw[Fv];cases hc:d.eI.off with
  | true=>
   right;have:=mT d hc;exact⟨d.eI,by simp,hc,by omega,c1,c2,by omega,.inl rfl⟩
  | false=>
   have hu:oJ d.R f (ni (0:Int).toNat)=kX PF.id d.R ⟨f,0,[]⟩:=by
    rw[aF0 hg];simp[ni]
   have hS:=p9.put hs ⟨f,0,[]⟩;have wm:iQ PF.id (kX PF.id d.R ⟨f,0,[]⟩) f=some ⟨f,0,[]⟩:=w9 hS.sorted hS.CJ;rw[hu,zzb (show ¬(false=true) by decide)];generalize tX:({d.eI with R:=kX PF.id d.R ⟨f,0,[]⟩}:DS)=d1;rw[zzb (show ¬((0:Int)≠0) by decide)];have nO:d1.R=kX PF.id d.R ⟨f,0,[]⟩:=by rw[<- tX]
   have A7:d1.off=false:=by rw[<- tX];exact hc
   have rh:d1.arm=d.eI.arm:=by rw[<- tX]
   have sW:d1.ops=d.eI.ops:=by rw[<- tX]
   rcases nY d1 (by rw[nO];exact hS.sorted) A7 (by omega) (.inr (by rw[nO];exact wm)) with ⟨d',e,h1,h2,h3,h4,h5⟩|⟨d',e,h1,h2,h3,h4,h5,h6⟩
   ·rw[nO]at h1
    exact .inl ⟨d',e,hS.trans h1 rfl,h2,h3,by omega,by omega⟩
   rw[nO]at h6
   refine .inr ⟨d',e,h1,λea=>h2 ?_,h3,by omega,by omega,.inr ⟨b,.inr rfl,hS.trans h6 rfl⟩⟩;rw[rh];simp[DS.eI,ea]
def bwg(n:Nat)(x:PF):Prop:=∀y,oP x.b=some y->y.2.length≠n
structure rF(n:Nat)(all:List fF)(I:List PF)(iZ:Int)(m:Nat):Prop where
 sorted:kE PF.id I
 ids:∀x∈I,x.id=0\/x.id=1
 safe:∀x∈I,x.safe=x.b.length
 none_:iZ = -1->m=0
 new:iZ = -1\/iZ=0\/iZ=1
 le:m<=all.length
 some_:iZ≠-1->∃x∈I,x.id=iZ/\x.b=ij (nk m (kF n (all.take m)))
 other:∀x∈I,x.id≠iZ->bwg n x\/∃y,oP x.b=some y/\y.1<m/\iZ≠-1
def eFj{R:List PF}(hs:kE PF.id R){n:Nat}{f:Int}:mE R n f=none\/∃x∈R,x.id=f/\∃y,oP x.b=some y/\y.2.length=n/\mE R n f=some y:=by
 unfold mE;cases hg:iQ PF.id R f with
 | none=>exact .inl rfl
 | some x=>
  have hx:=xW hg;simp only;cases hd:oP x.b with
  | none=>exact .inl rfl
  | some y=>
   simp only;by_cases hl:y.2.length=n
   ·exact .inr ⟨x,hx.1,hx.2,y,hd,hl,by rw[zzc hl]⟩
   exact .inl (zzb hl)
def eFk{R:List PF}(hs:kE PF.id R){n:Nat}{x:PF}(hx:x∈R){y:Int × mI}(hd:oP x.b=some y)(hl:y.2.length=n):mE R n x.id=some y:=by
 unfold mE;rw[w9 hs hx];simp only[hd];rw[zzc hl]
def rF.load{n:Nat}{all:List fF}{I:List PF}{iZ:Int}{m:Nat}(h:rF n all I iZ m)(hm:∀j,j<=all.length->nf j (kF n (all.take j))=true):pE I n=(iZ,(m:Int),kF n (all.take m)):=by
 have hn:iZ≠-1->mE I n iZ=some ((m:Int),kF n (all.take m)):=λiX=>by
  obtain⟨x,hx,hf,hb⟩:=h.some_ iX;rw[<- hf];exact eFk h.sorted hx (by rw[hb];exact T8 (hm m h.le)) (u9 _ _)
 have ho:∀f,f≠iZ->mE I n f=none\/∃y,mE I n f=some y/\y.1<m/\iZ≠-1:=λf hf=>by
  rcases eFj h.sorted (n:=n) (f:=f) with e|⟨x,hx,DY,y,h1,h2,h3⟩
  ·exact .inl e
  rcases h.other x hx (by rw[DY];exact hf) with hb|⟨z,hz,h4,h5⟩
  ·exact absurd h2 (hb y h1)
  rw[h1]at hz;cases hz
  exact .inr ⟨y,h3,h4,h5⟩
 unfold pE;rcases h.new with e|e|e
 ·have VO:=h.none_ e;have o0:mE I n 0=none:=by
   rcases ho 0 (by rw[e];decide) with h1|⟨_,_,_,h1⟩
   ·exact h1
   exact absurd e h1
  have o1:mE I n 1=none:=by
   rcases ho 1 (by rw[e];decide) with h1|⟨_,_,_,h1⟩
   ·exact h1
   exact absurd e h1
  unfold lC;rw[o0,o1,e,VO];simp only[uu1,MZ];rfl
 ·have hn:=hn (by rw[e];decide);rw[e]at hn
  have h0:lC I n 0 (-1,0,List.replicate n [])=(0,(m:Int),kF n (all.take m)):=by
   unfold lC;rw[hn];simp
  rw[h0,e];unfold lC;rcases ho 1 (by rw[e];decide) with h1|⟨y,h1,h2,_⟩
  ·rw[h1]
  rw[h1];simp only;rw[zzc ⟨by decide,by omega⟩]
 have hn:=hn (by rw[e];decide);rw[e]at hn
 rcases ho 0 (by rw[e];decide) with h1|⟨y,h1,h2,_⟩
 ·have h0:lC I n 0 (-1,0,List.replicate n [])=(-1,0,List.replicate n []):=by unfold lC;rw[h1]
  rw[h0,e];unfold lC;rw[hn];simp
 have h0:lC I n 0 (-1,0,List.replicate n [])=(0,y.1,y.2):=by unfold lC;rw[h1];simp
 rw[h0,e];unfold lC;rw[hn];simp only;rw[zzb (by omega)]
def rF.drawn{n:Nat}{all:List fF}{I I':List PF}{iZ:Int}{m:Nat}(h:rF n all I iZ m)(hm:∀j,j<=all.length->nf j (kF n (all.take j))=true)(iw:m<all.length){f:Int}(hf:f=if iZ=0 then 1 else 0){x:PF}(hx:x.id=f)(hs:x.safe=x.b.length)
  (hb:x.b=ij (nk all.length (kF n all))) (hI:p9 I I' x):rF n all I' f all.length:=by
 have HP:f=0\/f=1:=by rw[hf];split<;>simp
 have HR:f≠iZ:=by
  rw[hf];rcases h.new with e|e|e<;>rw[e]<;>decide
 have iX:f≠-1:=by omega
 refine⟨hI.sorted,λy hy=>?_,λy hy=>?_,λe=>absurd e iX,.inr HP,zzi _,λ_=>⟨x,hI.CJ,hx,by rw[zz1];exact hb⟩,λy hy hyf=>?_⟩
 ·rcases hI.mem hy with rfl|⟨hy,_⟩
  ·omega
  exact h.ids y hy
 ·rcases hI.mem hy with rfl|⟨hy,_⟩
  ·exact hs
  exact h.safe y hy
 rcases hI.mem hy with rfl|⟨hy,_⟩
 ·exact absurd hx hyf
 by_cases e:y.id=iZ
 ·have vq:iZ≠-1:=λe1=>by rcases h.ids y hy with h2|h2<;>omega
  obtain⟨z,hz,F5,LG⟩:=h.some_ vq;have:y=z:=aw8 h.sorted hy hz (by rw[e,F5]);subst this;exact .inr ⟨_,by rw[LG];exact T8 (hm m h.le),by show (m:Int)<_;omega,iX⟩
 rcases h.other y hy e with wg|⟨z,h1,h2,h3⟩
 ·exact .inl wg
 exact .inr ⟨z,h1,by omega,iX⟩
def bRf{p:Δ}(hp:p.length<=1048576){k:Nat}(hk:k<(ij p).length):oP ((ij p).take k)=none:=by
 rw[oY]at hk
 obtain⟨e,h,_⟩:=aFl hp (k:=k) (by omega);unfold oP;rw[h]
def TZ{I:List PF}(h:∀x∈I,x.safe=x.b.length)(keep:Ξ):jV I keep=I:=by
 have:=J7 I [] keep h;simpa using this
def e_d{R:List PF}{keep:Ξ}{y:PF}(h:y∈jV R keep):∃i,∃x∈R,y=mY keep i x:=by
 unfold jV at h;obtain⟨i,hi,rfl⟩:=yyi h;rw[vv3];exact⟨i,_,zzg _,rfl⟩
def TY{R:List PF}{keep:Ξ}{x:PF}(h:x∈R):∃i,mY keep i x∈jV R keep:=by
 obtain⟨i,hi,rfl⟩:=yyi h;refine⟨i,?_⟩;have:(jV R keep)[i]'(by unfold jV;simpa using hi)=mY keep i R[i]:=by unfold jV;rw[vv3]
 rw[<- this];exact zzg _
def TS{keep:Ξ}{i:Nat}{x:PF}(h:x.safe=x.b.length):mY keep i x=x:=by
 have h1:=E5 (keep:=keep) (i:=i) (x:=x) (by omega);have h2:=Hb (keep:=keep) (i:=i) (x:=x) (by omega);have h3:=CP (keep:=keep) (i:=i) (x:=x) (by omega);have h4:n_ keep i x=0:=by omega
 unfold mY;rw[h4,xxg,h,zz1,Nat.min_self,<- h]
def f_9{R:List PF}(h:kE PF.id R)(keep:Ξ):kE PF.id (jV R keep):=by
 have h1:(R.map PF.id).Pairwise (· < ·):=wwp.2 h;rw[<- TW R keep]at h1
 exact wwp.1 h1
def rF.jO{n:Nat}{all:List fF}{I I':List PF}{iZ:Int}{m:Nat}(h:rF n all I iZ m)(hm:∀j,j<=all.length->nf j (kF n (all.take j))=true)(iw:m<all.length)(keep:Ξ)
  (hI:I'=I\/∃pre,(pre=[]\/pre=ij (nk all.length (kF n all)))/\p9 I I' ⟨if iZ=0 then 1 else 0,0,pre⟩):∃e_0 m',rF n all (jV I' keep) e_0 m'/\m<=m':=by
 rcases hI with rfl|⟨pre,uT,hI⟩
 ·exact⟨iZ,m,by rw[TZ h.safe];exact h,zzi _⟩
 obtain⟨i,hi⟩:=TY (keep:=keep) hI.CJ;generalize hx:mY keep i ⟨if iZ=0 then 1 else 0,0,pre⟩=x at hi;have F3:x.id=if iZ=0 then 1 else 0:=by rw[<- hx];rfl
 have sX:x.b.length=0+n_ keep i ⟨if iZ=0 then 1 else 0,0,pre⟩:=by rw[<- hx];exact E5 (x:=⟨_,0,pre⟩) (zz8 _)
 have tA:x.safe=0+n_ keep i ⟨if iZ=0 then 1 else 0,0,pre⟩:=by rw[<- hx];exact Hb (x:=⟨_,0,pre⟩) (zz8 _)
 have F4:x.safe=x.b.length:=by omega
 have LD:x.b=pre.take (0+n_ keep i ⟨if iZ=0 then 1 else 0,0,pre⟩):=by rw[<- hx];rfl
 have DT:p9 I (jV I' keep) x:=by
  refine⟨f_9 hI.sorted keep,hi,λy hy=>⟨λhc=>?_,λhc=>?_⟩⟩
  ·obtain⟨j,z,hz,e⟩:=e_d hc;have d_n:z.id=y.id:=by rw[e];rfl
   have Wt:=(hI.other z (by rw[d_n,<- F3];exact hy)).1 hz;rw[TS (h.safe z Wt)]at e
   rw[e];exact Wt
  have hyI:=(hI.other y (by rw[<- F3];exact hy)).2 hc;obtain⟨j,hj⟩:=TY (keep:=keep) hyI;rw[TS (h.safe y hc)]at hj
  exact hj
 by_cases hw:x.b=ij (nk all.length (kF n all))
 ·exact⟨_,_,h.drawn hm iw rfl F3 F4 hw DT,by omega⟩
 have dF5:oP x.b=none:=by
  have VP:=hm all.length (zzi _);rw[zz1]at VP
  have hlen:=D2 VP;rcases uT with e|e
  ·rw[LD,e,List.take_nil];rfl
  rw[LD,e];refine bRf (by omega) (Nat.lt_of_not_le λCh=>hw ?_);rw[LD,e,zz2 Ch]
 refine⟨iZ,m,⟨DT.sorted,λy hy=>?_,λy hy=>?_,h.none_,h.new,h.le,λiX=>?_,λy hy D0=>?_⟩,zzi _⟩
 ·rcases DT.mem hy with rfl|⟨hy,_⟩
  ·rw[F3];split<;>simp
  exact h.ids y hy
 ·rcases DT.mem hy with rfl|⟨hy,_⟩
  ·exact F4
  exact h.safe y hy
 ·obtain⟨z,hz,F5,LG⟩:=h.some_ iX;refine⟨z,(DT.other z ?_).2 hz,F5,LG⟩;rw[F5,F3];rcases h.new with e|e|e<;>rw[e]<;>decide
 rcases DT.mem hy with rfl|⟨hy,_⟩
 ·exact .inl λy h1=>by rw[dF5]at h1;cases h1
 exact h.other y hy D0
def C3(n:Nat)(all:List fF):Prop:=∀j,j<=all.length->nf j (kF n (all.take j))=true
structure mX(n:Nat)(k:g_)(all:List fF)(tr:Nat)(I:List PF)(d0:DS)(f:Int)(lo m:Nat):Prop where
 vk:k.d=ix I [] d0
 dI:iO 16 4112 I [] d0.R
 log:Laid k.g d0 f ((lo:Int)+1) ((all.drop lo).map lB)
 base:k.g.base=16
 pe:rF n all I k.iZ m
 image:k.image=m
 Ao:lo<=m
 wB:lo<=tr
 ts:k.ts=kF n all
 file:f<=16+lo
def rF.mono{n:Nat}{all:List fF}{I:List PF}{iZ:Int}{m:Nat}(h:rF n all I iZ m)(l:List fF):rF n (all++l) I iZ m:=
 ⟨h.sorted,h.ids,h.safe,h.none_,h.new,by have:=h.le;rw[zza];omega,λhn=>by rw[yy9 h.le];exact h.some_ hn,h.other⟩
def eWl{I M:List PF}(hI:∀x∈I,x.id=0\/x.id=1)(hM:∀x∈M,16<=x.id)(n:Nat):pE (I++M++[]) n=pE I n:=by
 have hw:iO 0 16 [] M I:=⟨by simp,λx hx=>by rcases hI x hx with h|h<;>omega,hM⟩;have hg:∀f:Int,0<=f->f<16->mE (I++M++[]) n f=mE I n f:=λf h0 h1=>by
  unfold mE;have:=hw.get h0 h1;rw[zzp]at this
  rw[zzw,this]
 unfold pE lC;rw[hg 0 (by decide) (by decide),hg 1 (by decide) (by decide)]
def fRr{n:Nat}{all:List fF}(h:wP n all){lo m:Nat}(h1:lo<=m)(h2:m<=all.length):tG n m ((all.drop lo).map lB) ((lo:Int)+1) (kF n (all.take m))=some (kF n all):=by
 have:=ai1 h m (all.length-lo) lo (by omega);rw[show max lo m=m by omega,show max all.length m=all.length by omega,zz1]at this
 exact this
def X4{n:Nat}(n1:1<=n)(n8:n<=8){all:List fF}(ht:wP n all)(hi:C3 n all){I:List PF}{d1 d2:DS}{g:ib}{size:Int}(ho:jX d1 16 size=(d2,.ok g))(hw:iO 16 4112 I [] d1.R){f iZ:Int}{lo m tr:Nat}
  (hl:lI g d2 f ((lo:Int)+1) ((all.drop lo).map lB)) (hb:g.base=16) (pP:rF n all I iZ m) (Cm:lo<=m) (iw:lo<=tr) (hf:f<=16+lo) :
  pG (ix I [] d1) n size=(ix I [] d2,.ok ⟨g,ix I [] d2,kF n all,iZ,m⟩)/\mX n ⟨g,ix I [] d2,kF n all,iZ,m⟩ all tr I d2 f lo m:=by
 obtain⟨e,F1⟩:=D' (base:=16) (size:=size) (A:=I) (B:=[]) (d:=d1) hw;rw[ho]at e F1
 have A5:pE (ix I [] d2).R n=(iZ,(m:Int),kF n (all.take m)):=by
  show pE (I++d2.R++[]) n=_;rw[eWl pP.ids λx hx=>(F1.m x hx).1];exact pP.load hi
 have rQ:=pP.le;have rO:=hl.head;rw[zzs,zzq]at rO
 have vp:j7 g.bF=(lo:Int)+1:=by
  by_cases hs:g.bF=[]
  ·rw[hs];have:=(hl.nil hs).2;show (1:Int)=_;omega
  exact hl.chain.low hs
 refine⟨?_,⟨rfl,F1,hl.laid,hb,pP,rfl,Cm,iw,rfl,hf⟩⟩;unfold pG;rw[zzb (by omega),e];simp only[zzv];rw[A5,hl.lG,vp];simp only;rw[fRr ht Cm rQ];simp only;rw[zzc ⟨by omega,by omega⟩]
def WB(I:List PF)(d0:DS)(keep:Ξ):(ix I [] d0).jO keep=ix (jV I keep) [] (d0.jO (keep.drop I.length)):=by
 unfold DS.jO ix;simp only;rw[TU];rfl
structure wO(n:Nat)(d:DS)(all:List fF)(t:Option fF)(tr:Nat)(I I':List PF)(d0:DS)(g:ib)(f:Int)(lo m:Nat)(iZ:Int):Prop where
 vk:d=ix I' [] d0
 dI:iO 16 4112 I' [] d0.R
 log:(Laid g d0 f ((lo:Int)+1) ((all.drop lo).map lB))\/∃q w,tK d0 f ((lo:Int)+1) ((all.drop lo).map lB) q w/\(w=true->∃x,t=some x/\q=lB x)
 base:g.base=16
 f16:16<=f
 file:f<=16+lo
 empty:(all.drop lo).map lB=[]->(f=16/\lo=0)\/∀y∈d0.R,(jy [iT ((lo:Int)+1).toNat]).length<=y.safe
 pe:rF n all I iZ m
 CH:I'=I\/(m<all.length/\∃pre,(pre=[]\/pre=ij (nk all.length (kF n all)))/\p9 I I' ⟨if iZ=0 then 1 else 0,0,pre⟩)
 Ao:lo<=m
 wB:lo<=tr
def wO.open{n:Nat}(n1:1<=n)(n8:n<=8){d:DS}{all:List fF}{t:Option fF}{tr:Nat}{I I':List PF}{d0:DS}{g:ib}{f:Int}{lo m:Nat}{iZ:Int}(h:wO n d all t tr I I' d0 g f lo m iZ)(keep:Ξ)
  (ht:∀l,l=[]\/(∃x,t=some x/\l=[x])->wP n (all++l)/\C3 n (all++l)) (hlen:all.length<=1000) {size:Int} (s0:64<=size) (s1:size<=65536) :
  ∃k' ta I2 d2 f2 m2,pG (d.jO keep) n size=(k'.d,.ok k')/\mX n k' ta tr I2 d2 f2 lo m2/\k'.d.off=false/\k'.d.arm=0/\k'.d.ops<=d.ops+1/\(ta=all\/∃x,t=some x/\ta=all++[x]):=by
 obtain⟨t0,i0⟩:=ht [] (.inl rfl);rw[zzw]at t0 i0
 have pP:∃Mc m2,rF n all (jV I' keep) Mc m2/\m<=m2:=by
  rcases h.CH with e|⟨iw,e⟩
  ·rw[e,TZ h.pe.safe];exact⟨iZ,m,h.pe,zzi _⟩
  exact h.pe.jO i0 iw keep (.inr e)
 obtain⟨Mc,m2,pP,Ae⟩:=pP;have ie8:=h.Ao;have igf:=pP.le;have x_:=h.base;have dId:=h.f16;have Fy:=h.file;have VM:=h.wB;have dI4:∃g2 d2 ta,jX (d0.jO (keep.drop I'.length)) 16 size=(d2,.ok g2)/\lI g2 d2 f ((lo:Int)+1) ((ta.drop lo).map lB)/\g2.base=16/\d2.arm=0/\d2.ops<=d0.ops+1/\(ta=all\/∃x,t=some x/\ta=all++[x]):=by
  rcases h.log with hl|⟨q,w,hT,hw⟩
  ·obtain⟨e,hv⟩:=hl.open (keep.drop I'.length) (by rw[zzs,zzq];omega) s0 s1;rw[x_]at e hv
   exact⟨_,_,all,e,hv,rfl,rfl,by show d0.ops<=_;omega,.inl rfl⟩
  obtain⟨g2,d2,mM,h1,h2,h3,h4,h5,h6,h7⟩:=aFp hT (keep.drop I'.length) (base:=16) (size:=size) (by decide) (by decide) s0 s1 dId (by rw[zzs,zzq];omega) (by omega) (by rw[zzs,zzq];omega) (λe=>(h.empty e).imp (λe=>by omega) λe=>e);rcases h7 with e|⟨ew,e⟩
  ·exact⟨g2,d2,all,h1,by rw[<- e];exact h2,h5,h3,h4,.inl rfl⟩
  obtain⟨x,hx,rfl⟩:=hw ew;refine⟨g2,d2,all++[x],h1,?_,h5,h3,h4,.inr ⟨x,hx,rfl⟩⟩;rw[xxa (by omega),zzt,xx4,<- e];exact h2
 obtain⟨g2,d2,ta,e1,e2,e3,e4,e5,e6⟩:=dI4;have Lx:wP n ta/\C3 n ta/\rF n ta (jV I' keep) Mc m2:=by
  rcases e6 with rfl|⟨x,hx,rfl⟩
  ·exact⟨t0,i0,pP⟩
  obtain⟨a,b⟩:=ht [x] (.inr ⟨x,hx,rfl⟩);exact⟨a,b,pP.mono [x]⟩
 have vw:iO 16 4112 (jV I' keep) [] (d0.jO (keep.drop I'.length)).R:=h.dI.jO keep _ [];obtain⟨o1,o2⟩:=X4 n1 n8 Lx.1 Lx.2.1 e1 vw e2 e3 Lx.2.2 (by omega) VM Fy;rw[<- WB]at o1
 rw[h.vk];exact⟨_,ta,_,_,_,_,o1,o2,e2.off,e4,e5,e6⟩
def Laid.Kv{g:ib}{d:DS}{f n:Int}{es:List (Δ)}(h:Laid g d f n es)(hb:g.base=16):sH 16 4112 g:=by
 have hle:=h.chain.wA;rw[h.lG]at hle
 have xh:=h.fi;have hba:=h.base;refine⟨by omega,by omega,λs hs=>?_,λx hx=>by rw[h.iC]at hx;cases hx⟩;have:=h.chain.wT.mem (x:=jF s) (vv4 hs);rw[zzs]at this
 have h1:(jF s).id=s.file:=rfl;omega
def b_4{t:fF}(h:jC t=true):(lB t).length<=2000:=yyw (J0 h) (by decide)
def mX.head{n:Nat}{k:g_}{all:List fF}{tr:Nat}{I:List PF}{d0:DS}{f:Int}{lo m:Nat}(h:mX n k all tr I d0 f lo m)(ho:k.d.off=false):f_ k.g.bF=all.length:=by
 have hl:=h.log.inv (by have:=h.vk;rw[this]at ho;exact ho);have hm:=h.pe.le;have:=h.Ao;rw[hl.head,zzs,zzq];omega
def lI.Dk{g:ib}{d:DS}{f n:Int}{es:List (Δ)}(h:Laid g d f n es)(e:es=[]):(f=g.base/\n=1)\/(g.bF≠[]/\∀y∈d.R,(jy [iT n.toNat]).length<=y.safe):=by
 cases hg:g.bF with
 | nil=>exact .inl (h.nil hg)
 | cons s L=>
  refine .inr ⟨by simp,λy hy=>?_⟩;have hc:=h.chain;have h1:=h.lG;rw[e,hg,uD]at h1
  obtain⟨h2,h3⟩:=vvj.1 h1;rw[hg]at hc
  obtain⟨_,c2,c3,_,c5,_⟩:=hc;have hL:L=[]:=by
   cases L with
   | nil=>rfl
   | cons t r=>exact absurd h2 (c5 (by simp))
  rw[h.files,hg,hL]at hy
  have hy:y=jF s:=by simpa using hy
  rw[hy];show _<=(jy (iT s.first.toNat::s.l)).length;rw[c2,h2];exact zzi _
def mX.Dk{n:Nat}{k:g_}{all:List fF}{tr:Nat}{I:List PF}{d0:DS}{f:Int}{lo m:Nat}(h:mX n k all tr I d0 f lo m):(all.drop lo).map lB=[]->(f=16/\lo=0)\/∀y∈d0.R,(jy [iT ((lo:Int)+1).toNat]).length<=y.safe:=λe=>by
 have hb:=h.base;rcases lI.Dk h.log e with h1|⟨_,h1⟩
 ·exact .inl (by omega)
 exact .inr h1
def mX.dead{n:Nat}{k:g_}{all:List fF}{tr:Nat}{I:List PF}{d0:DS}{f:Int}{lo m:Nat}(h:mX n k all tr I d0 f lo m)(he:(all.drop lo).map lB=[]->(f=16/\lo=0)\/∀y∈d0.R,(jy [iT ((lo:Int)+1).toNat]).length<=y.safe)(t:Option fF):wO n k.d all t tr I I d0 k.g f lo m k.iZ:=
 ⟨h.vk,h.dI,.inl h.log,h.base,by have:=h.log.base;have:=h.base;omega,h.file,he,h.pe,.inl rfl,h.Ao,h.wB⟩
def eFp(I:List PF)(d0:DS):ix I [] d0=ix [] d0.R {d0 with R:=I}:=by
 unfold ix;simp
def Uo{lo hi:Int}{A B:List PF}{d:DS}(h:iO lo hi A B d.R){f:Int}(h1:lo<=f)(h2:f<hi)(b:Δ):pa (ix A B d) f b=(ix A B (pa d f b).1,(pa d f b).2):=by
 unfold pa;rw[show lH (ix A B d).R f=lH d.R f from h.len h1 h2];have hc:(if 0<=lH d.R f then (ix A B d).cut f 0 else (ix A B d,0))=(ix A B (if 0<=lH d.R f then d.cut f 0 else (d,0)).1,(if 0<=lH d.R f then d.cut f 0 else (d,0)).2)/\iO lo hi A B (if 0<=lH d.R f then d.cut f 0 else (d,0)).1.R:=by
  split
  ·exact Is h h1 h2 0
  exact⟨rfl,h⟩
 generalize (if 0<=lH d.R f then d.cut f 0 else (d,0))=c at *
 rw[hc.1];simp only;split
 ·rfl
 obtain⟨ea,ha⟩:=Ir hc.2 h1 h2 b;rw[ea];simp only;split
 ·rfl
 exact (LO ha h1 h2).1
def mX.trim{n:Nat}{k:g_}{all:List fF}{tr:Nat}{I:List PF}{d0:DS}{f:Int}{lo m:Nat}(h:mX n k all tr I d0 f lo m)(ho:k.d.off=false)(ha:0<=k.d.arm)(hlen:all.length<=1000)(hi:C3 n all){aw:Nat}(oT:aw<=all.length):
  (∃k' I' d1 f' pf m',k.mG aw=(k',0)/\aw<=m'/\mX n k' all (max tr aw) I' d1 f' pf m'/\k'.d.off=false/\0<=k'.d.arm/\k'.d.arm<=k.d.arm/\k'.d.ops<=k.d.ops+(all.length+5)/\k'.g.size=k.g.size) \/
  (∃k' e I1 I' d1 g1 f' pf m' nw,k.mG aw=(k',e)/\e≠0/\k'.d.off=true/\k.d.arm≠0/\k'.d.ops<=k.d.ops+(all.length+5)/\wO n k'.d all none (max tr aw) I1 I' d1 g1 f' pf m' nw):=by
 have rO:=h.head ho;have Cm:=h.Ao;have rQ:=h.pe.le;have hle:=h.log.chain.wA;rw[h.log.lG,zzs,zzq]at hle
 have sr:∀{k:g_} {I:List PF} {d0:DS} {m:Nat},mX n k all tr I d0 f lo m->k.d.off=false->0<=k.d.arm->k.g.bF.length<=(all.length+1)->aw<=m ->
   (∃k' d1 f' pf,(({k with g:=(mv k.g k.d aw).1.1,d:=(mv k.g k.d aw).1.2}:g_),(mv k.g k.d aw).2)=(k',0)/\mX n k' all (max tr aw) I d1 f' pf m/\k'.d.off=false/\0<=k'.d.arm/\k'.d.arm<=k.d.arm/\k'.d.ops<=k.d.ops+(all.length+1)/\k'.g.size=k.g.size) \/
   (∃k' e d1 g1 f' pf,(({k with g:=(mv k.g k.d aw).1.1,d:=(mv k.g k.d aw).1.2}:g_),(mv k.g k.d aw).2)=(k',e)/\e≠0/\k'.d.off=true/\k.d.arm≠0/\k'.d.ops<=k.d.ops+(all.length+1)/\wO n k'.d all none (max tr aw) I I d1 g1 f' pf m k.iZ):=by
  intro k I d0 m h ho ha FX hm;have hd:=h.vk;have mT:d0.off=false:=by rw[hd]at ho;exact ho
  have we:0<=d0.arm:=by rw[hd]at ha;exact ha
  have hl:=h.log.inv mT;have hb:=h.base;have xh:=h.log.fi;have VM:=h.wB;have Fy:=h.file;have ige:=h.pe.le;obtain⟨ew,hw,A0⟩:=aFq (A:=I) (B:=[]) (d:=d0) (h.log.Kv hb) h.dI (aw:Int);obtain⟨g',d',f',i,e,et,VH,d_,iX,vt,DG,iY,x_,Wb,DD,Ce,rh,B9,FU⟩:=gw1 hl we (aw:Int) (by omega);rw[et]at ew hw A0
  rw[hd,ew];simp only at hw ⊢;have K0:((all.drop lo).map lB).drop i=(all.drop (lo+i)).map lB:=by rw[ttd,ttd,ww0,<- ttd]
  rw[K0,show (lo:Int)+1+(i:Int)=((lo+i:Nat):Int)+1 by omega]at VH
  rw[zzs,zzq]at d_
  have hL:mX n {k with g:=g',d:=ix I [] d'} all (max tr aw) I d' f' (lo+i) m:=⟨rfl,hw,VH,x_.trans hb,h.pe,h.image,by have:=h.Ao;omega,by omega,h.ts,by omega⟩;rcases FU with ⟨rfl,Lk,_⟩|⟨rfl,Lk,xd⟩
  ·left;exact⟨_,d',f',lo+i,rfl,hL,Lk,rh,B9,by show d'.ops<=d0.ops+(all.length+1);omega,Wb⟩
  right;exact⟨_,8,d',g',f',lo+i,rfl,by decide,Lk,xd,by show d'.ops<=d0.ops+(all.length+1);omega,hL.dead hL.Dk none⟩
 have ht:k.mG aw=(let r:=if k.image<aw then k.mS else (k,0);if r.2≠0 then r else let t:=mv r.1.g r.1.d aw;({r.1 with g:=t.1.1,d:=t.1.2},t.2)):=by
  unfold g_.mG;rw[zzb (by rw[rO];omega),zzb (by simp[ho])]
 rw[ht];by_cases pP:k.image<aw
 ·rw[zzc pP];have VQ:m<all.length:=by have:=h.image;omega
  have hd:=h.vk;have mT:d0.off=false:=by rw[hd]at ho;exact ho
  have we:0<=d0.arm:=by rw[hd]at ha;exact ha
  have HP:nE k=0\/nE k=1:=by unfold nE;split<;>simp
  have hwI:iO 0 16 [] d0.R I:=⟨by simp,λx hx=>by rcases h.pe.ids x hx with e|e<;>omega,λx hx=>(h.dI.m x hx).1⟩;have hdw:pa k.d (nE k) (ij (nk (f_ k.g.bF) k.ts))=(ix [] d0.R (pa {d0 with R:=I} (nE k) (ij (nk all.length (kF n all)))).1,(pa {d0 with R:=I} (nE k) (ij (nk all.length (kF n all)))).2):=by
   rw[hd,eFp,rO,h.ts];exact Uo (d:={d0 with R:=I}) hwI (by omega) (by omega) _
  have sh:∀d':DS,ix [] d0.R d'=ix d'.R [] {d' with R:=d0.R}:=λd'=>by unfold ix;simp
  unfold g_.mS;rw[hdw];rcases bR2 (d:={d0 with R:=I}) h.pe.sorted (f:=nE k) (by omega) (by omega) mT we (ij (nk all.length (kF n all))) with ⟨d',e,hS,o1,a1,a2,p1⟩|⟨d',e,o1,a0,a1,a2,p1,hR⟩
  ·rw[e];simp only;rw[zzc trivial];simp only;rw[zzb (by simp)];have hid:∀x∈d'.R,x.id=0\/x.id=1:=λx hx=>by
    rcases hS.mem hx with rfl|⟨hx,_⟩
    ·exact HP
    exact h.pe.ids x hx
   have HM:rF n all d'.R (nE k) all.length:=h.pe.drawn hi VQ (f:=nE k) rfl (x:=⟨nE k,_,_⟩) rfl rfl rfl hS;have hL:mX n {k with d:=ix [] d0.R d',iZ:=nE k,image:=f_ k.g.bF} all tr d'.R {d' with R:=d0.R} f lo all.length:=
    ⟨sh d',⟨λx hx=>by rcases hid x hx with e|e<;>omega,h.dI.m,by simp⟩,h.log.wK rfl,h.base,HM,rO,by omega,h.wB,h.ts,h.file⟩
   rcases sr hL o1 a1 (by show k.g.bF.length<=(all.length+1);omega) oT with ⟨k',d1,f',pf,r1,r2,r3,r4,ra,r5,r6⟩|⟨k',e',d1,g1,f',pf,r1,r2,r3,ra,r5,r6⟩
   ·left;have r5:k'.d.ops<=d'.ops+(all.length+1):=r5;have ra:k'.d.arm<=d'.arm:=ra;exact⟨k',_,d1,f',pf,_,r1,oT,r2,r3,r4,by rw[hd];exact ttg ra a2,by rw[hd];show k'.d.ops<=d0.ops+(all.length+5);have p1:d'.ops<=d0.ops+3:=p1;omega,r6⟩
   right;have r5:k'.d.ops<=d'.ops+(all.length+1):=r5;have ra:d'.arm≠0:=ra;have a2:d'.arm<=d0.arm:=a2;exact⟨k',e',_,_,d1,g1,f',pf,_,_,r1,r2,r3,by rw[hd];show d0.arm≠0;omega,by rw[hd];show k'.d.ops<=d0.ops+(all.length+5);have p1:d'.ops<=d0.ops+3:=p1;omega,r6⟩
  rw[e];simp only;rw[zzb (show ¬((8:Int)=0) by decide)];simp only;rw[zzc (show (8:Int)≠0 by decide)];right;have hid:∀x∈d'.R,x.id=0\/x.id=1:=λx hx=>by
   rcases hR with hR|⟨pre,_,hS⟩
   ·rw[hR]at hx;exact h.pe.ids x hx
   rcases hS.mem hx with rfl|⟨hx,_⟩
   ·exact HP
   exact h.pe.ids x hx
  refine⟨_,8,I,d'.R,{d' with R:=d0.R},k.g,f,lo,m,k.iZ,rfl,by decide,o1,by rw[hd];exact a0,by rw[hd];show d'.ops<=d0.ops+(all.length+5);have p1:d'.ops<=d0.ops+3:=p1;omega,sh d',⟨λx hx=>by rcases hid x hx with e|e<;>omega,h.dI.m,by simp⟩,.inl (h.log.wK rfl),h.base,by have:=h.log.base;have:=h.base;omega,h.file,h.Dk,h.pe,?_,Cm,by have:=h.wB;omega⟩;rcases hR with hR|⟨pre,hp,hS⟩
  ·exact .inl hR
  exact .inr ⟨VQ,pre,hp,hS⟩
 rw[zzb pP];simp only;rw[zzb (by simp)];rcases sr h ho ha (by omega) (by have:=h.image;omega) with ⟨k',d1,f',pf,r1,r2,r3,r4,ra,r5,r6⟩|⟨k',e',d1,g1,f',pf,r1,r2,r3,ra,r5,r6⟩
 ·exact .inl ⟨k',_,d1,f',pf,_,r1,by have:=h.image;omega,r2,r3,r4,ra,by omega,r6⟩
 exact .inr ⟨k',e',_,_,d1,g1,f',pf,_,_,r1,r2,r3,ra,by omega,r6⟩
set_option maxRecDepth 100000
def WG:∀(C:List Row) (c:Row) (i:Nat),i<=C.length->(∀j (h:j<C.length),j<i->C[j].key<c.key)->(∀h:i<C.length,c.key<=C[i].key) ->
  lW C c=C.take i++[c]++C.drop (if ∃h:i<C.length,C[i].key=c.key then i+1 else i)
 | [],c,i,hi,_,_=>by
  have:i=0:=by simpa using hi
  subst this;simp[lW]
 | x::C,c,0,_,_,h2=>by
  have hx:=h2 (by simp);simp only[vvf]at hx;have:¬x.key<c.key:=by omega
  by_cases he:x.key=c.key
  ·simp[lW,he]
  simp[lW,this,he]
 | x::C,c,i+1,hi,h1,h2=>by
  have hx:x.key<c.key:=h1 0 (by simp) (by omega);have ih:=WG C c i (by simpa using hi) (λj h hj=>by have:=h1 (j+1) (by simpa using h) (by omega);simpa using this) (λh=>by have:=h2 (by simpa using h);simpa using this);simp only[lW,hx,ww7,ih,zzj,vvi,Nat.add_lt_add_iff_right];split<;>simp
def Ub:∀(C:List Row) (k:Int) (i:Nat) (h:i<C.length),(∀j (h:j<C.length),j<i->C[j].key≠k)->C[i].key=k->ow C k=C.take i++C.drop (i+1)
 | x::C,k,0,_,_,h2=>by simp at h2;simp[ow,h2]
 | x::C,k,i+1,h,h1,h2=>by
  have hx:x.key≠k:=h1 0 (by simp) (by omega);have ih:=Ub C k i (by simpa using h) (λj h hj=>by have:=h1 (j+1) (by simpa using h) (by omega);simpa using this) (by simpa using h2);simp[ow,hx,ih]
def Uc:∀(C:List Row) (k:Int),(∀j (h:j<C.length),C[j].key≠k)->ow C k=C
 | [],k,_=>rfl
 | x::C,k,h=>by
  have hx:x.key≠k:=h 0 (by simp);simp[ow,hx,Uc C k (λj hj=>by have:=h (j+1) (by simpa using hj);simpa using this)]
def sL(H:bw)(vs:Γ)(ts:List (List Row)):Prop:=vs.length=ts.length/\∀(i:Nat) (v:Ω) (C:List Row),vs[i]?=some v->ts[i]?=some C->iD H 2 v C.length (C.map jA).flatten
def sL.mono{H H':bw}{vs:Γ}{ts:List (List Row)}(hh:H.le H')(h:sL H vs ts):sL H' vs ts:=⟨h.1,λi v C h1 h2=>(h.2 i v C h1 h2).mono hh⟩
structure AtR(C:List Row)(key:Int)(i:Nat):Prop where
 le:i<=C.length
 lo:∀j (h:j<C.length),j<i->C[j].key<key
 hi:∀h:i<C.length,key<=C[i].key
def pT(C:List Row)(key:Int)(i:Nat):Bool:=decide (∃h:i<C.length,C[i].key=key)
def AtR.gt{C:List Row}{key:Int}{i:Nat}(h:AtR C key i)(hs:lj C):∀j (hj:j<C.length),i<j->key<C[j].key:=λj hj wq=>by
 have h1:=h.hi (by omega);have:=xxk.1 hs i j (by omega) hj wq;omega
def AtR.up{C:List Row}{key:Int}{i:Nat}(h:AtR C key i)(hs:lj C)(hn:pT C key i=false):∀j (hj:j<C.length),i<=j->key<C[j].key:=λj hj wq=>by
 rcases xxv i j with h1|h1
 ·exact h.gt hs j hj h1
 obtain rfl:j=i:=by omega
 have h1:=h.hi hj;have h2:¬C[j].key=key:=λe=>yyz hn ⟨hj,e⟩;omega
def AtR.ins{C:List Row}{key:Int}{i:Nat}(h:AtR C key i)(v:Β):lW C ⟨key,v⟩=if pT C key i=true then C.set i ⟨key,v⟩ else C.take i++[⟨key,v⟩]++C.drop i:=by
 rw[WG C ⟨key,v⟩ i h.le h.lo h.hi];by_cases hk:∃h:i<C.length,C[i].key=key
 ·rw[zzc hk,zzc (show pT C key i=true from zzm hk)];rw[xxb,zzc hk.1];simp
 rw[zzb hk,zzb (by simpa [pT] using hk)]
def AtR.del{C:List Row}{key:Int}{i:Nat}(h:AtR C key i)(hs:lj C):ow C key=if pT C key i=true then C.take i++C.drop (i+1) else C:=by
 cases hk:pT C key i with
 | true=>
  obtain⟨hi,e⟩:=zzl hk;rw[zzc rfl];exact Ub C key i hi (λj hj m_=>by have:=h.lo j hj m_;omega) e
 | false=>
  rw[zzb (by decide)];refine Uc C key λj hj=>?_;rcases xxv j i with h1|h1
  ·have:=h.lo j hj h1;omega
  have:=h.up hs hk j hj h1;omega
def AtR.get{C:List Row}{key:Int}{i:Nat}(h:AtR C key i)(hs:lj C):(jW C key).isSome=pT C key i/\∀hi:i<C.length,C[i].key=key->jW C key=some C[i].val:=by
 have h2:∀hi:i<C.length,C[i].key=key->jW C key=some C[i].val:=λhi e=>by
  unfold jW;have:C.find? (λc=>decide (c.key=key))=some C[i]:=by
   rw[List.find?_eq_some_iff_getElem];refine⟨by simpa using e,i,hi,rfl,λj hj=>?_⟩;have:=h.lo j (by omega) hj;simp;omega
  rw[this];rfl
 refine⟨?_,h2⟩;cases hk:pT C key i with
 | true=>
  obtain⟨hi,e⟩:=zzl hk;rw[h2 hi e];rfl
 | false=>
  unfold jW;have:C.find? (λc=>decide (c.key=key))=none:=by
   rw[uu4];intro x hx;obtain⟨j,hj,rfl⟩:=yyi hx;rcases xxv j i with h1|h1
   ·have:=h.lo j hj h1;simp;omega
   have:=h.up hs hk j hj h1;simp;omega
  rw[this];rfl
def Kl:∀(C:List Row) (key:Int) (k:Nat),(∀j (h:j<C.length),j<k->C[j].key<=key)->(∀j (h:j<C.length),k<=j->key<C[j].key)->C.filter (λr=>decide (key<r.key))=C.drop k
 | [],key,k,_,_=>by simp
 | x::C,key,0,_,h2=>by
  rw[List.drop_zero,yy2];intro y hy;obtain⟨j,hj,rfl⟩:=yyi hy;exact zzm (h2 j hj (zz8 _))
 | x::C,key,k+1,h1,h2=>by
  have hx:x.key<=key:=h1 0 (by simp) (by omega);rw[vvz,zzb (by simp;omega),uuy];exact Kl C key k (λj h hj=>by have:=h1 (j+1) (by simpa using h) (by omega);simpa using this) (λj h hj=>by have:=h2 (j+1) (by simpa using h) (by omega);simpa using this)
def AtR.after{C:List Row}{key:Int}{i:Nat}(h:AtR C key i)(hs:lj C)(n:Int):s_ C key n=(C.drop (if pT C key i=true then i+1 else i)).take n.toNat:=by
 unfold s_;cases hk:pT C key i with
 | true=>
  obtain⟨hi,e⟩:=zzl hk;rw[zzc rfl,Kl C key (i+1) (λj hj m_=>?_) (λj hj m_=>h.gt hs j hj (by omega))];rcases xxv j i with h1|h1
  ·have:=h.lo j hj h1;omega
  obtain rfl:j=i:=by omega
  omega
 | false=>
  rw[zzb (by decide),Kl C key i (λj hj m_=>by have:=h.lo j hj m_;omega) (λj hj m_=>h.up hs hk j hj m_)]
def s5(C:List Row)(l:List Row):List Row:=l.foldl lW C
def WH:∀(C:List Row) (r:Row),(∀x∈C,x.key<r.key)->lW C r=C++[r]
 | [],r,_=>rfl
 | x::C,r,h=>by
  unfold lW;rw[zzc (h x (.head _)),WH C r λy hy=>h y (.tail _ hy)];rfl
def aih:∀(l C:List Row),lj (C++l)->s5 C l=C++l
 | [],C,_=>by simp[s5]
 | r::l,C,h=>by
  have h1:lW C r=C++[r]:=WH C r λx hx=>(List.pairwise_append.1 h).2.2 x hx r (.head _);show s5 (lW C r) l=_;rw[h1,aih l (C++[r]) (by simpa using h)];simp
def fIb{l:List Row}(h:lj l):s5 [] l=l:=aih l [] h
def aif:∀(l:List Row) {C:List Row},lj C->lj (s5 C l)
 | [],C,h=>h
 | r::l,C,h=>aif l (C:=lW C r) (MO h r)
def aie:∀(l:List Row) (C:List Row),(s5 C l).length<=C.length+l.length
 | [],C=>by simp[s5]
 | r::l,C=>by
  have h1:=aie l (lW C r);have h2:=LW C r;show (s5 (lW C r) l).length<=_;rw[zzj];omega
def fIc{l:List Row}{i:Nat}(h:i<l.length)(C:List Row):s5 C (l.take (i+1))=lW (s5 C (l.take i)) l[i]:=by
 unfold s5;rw[zze h,ww8];rfl

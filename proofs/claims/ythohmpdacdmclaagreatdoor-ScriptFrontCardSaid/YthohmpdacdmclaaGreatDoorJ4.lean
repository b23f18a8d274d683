/- Part. -/
import Derived.Test.YthohmpdacdmclaaGreatDoorJ3
import Derived.Lib.AppendZerosOnto
namespace Go.Proofs.YthohmpdacdmclaaGreatDoor
set_option linter.all false
set_option maxRecDepth 100000
open Go.RowKit
def uu0:=@List.map_drop
def vvk:=@List.getElem?_drop
def zzz:=@List.take_of_length_le
def wwx:=@List.take_add_one
def zz0:=@List.take_length
def PW(a:Addr)(i j:Nat):(a.add i).add j=a.add (i+j):=by
 unfold Addr.add;by_cases hi:i=0
 ·subst hi;simp
 by_cases hj:j=0
 ·subst hj;simp[hi]
 rw[zzb hi,zzb hj,zzb (by omega)];simp[vvy]
structure cK(X:Μ)(v:Ε)(b:Φ):Prop where
 sl:∀{W w:Ζ} {l:Β},SL W l w->Has X l->∃a c,v= .slice a b.length c/\b.length<=c
 src:∀{W w:Ζ} {l:Β},SL W l w->Has X l->jw w 1 v b.length (b.map bU)
def cK.own{v:Ε}{t:Ι}{b:Φ}:cK (.ob (bd v t 1 b.length (b.map bU))) v b:=
 ⟨λh m=>by
  obtain⟨l2,r⟩:=m.rem;rcases bd.open (h.perm r.perm) with ⟨⟨a',rfl⟩,h0,_,_⟩|⟨b',BR,rest,rfl,hc,_⟩
  ·rw[h0];exact⟨a',0,rfl,zzj _⟩
  exact⟨_,_,rfl,hc⟩,λh m=>jh h m⟩
def cK.nil{X:Μ}{a:Option Addr}{c:Nat}:cK X (.slice a 0 c) []:=
 ⟨λ_ _=>⟨a,c,rfl,zz6 _⟩,λ_ _=>by cases a with|none=>exact⟨rfl,rfl⟩|some p=>exact⟨rfl,rfl,λj v e=>by simp at e⟩⟩
def cK.sub{X:Μ}{a:Option Addr}{n c l h:Nat}{b:Φ}(hb:cK X (.slice a n c) b)(hn:n=b.length)(hc:n<=c)(h1:l<=h)(h2:h<=n):cK X (.slice (if c=l then a else a.map (·.add (l*1))) (h-l) (c-l)) ((b.drop l).take (h-l)):=by
 have hlen:((b.drop l).take (h-l)).length=h-l:=by rw[zzf,zzq];omega
 refine⟨λ_ _=>⟨_,_,by rw[hlen],by omega⟩,λhS m=>?_⟩;have hs:=hb.src hS m;rw[vvs];by_cases mR:c=l
 ·rw[zzc mR];have:(b.drop l).take (h-l)=[]:=zzl (by omega);rw[this];have e0:h-l=0:=by omega
  rw[e0];cases a with
  | none=>exact⟨rfl,rfl⟩
  | some p=>exact⟨rfl,rfl,λj v e=>by simp at e⟩
 rw[zzb mR];cases a with
 | none=>
  obtain⟨e1,e2⟩:=hs;have:b=[]:=by simpa using e2
  subst this;exact⟨hlen,by simp⟩
 | some p=>
  obtain⟨e1,e2,e3⟩:=hs;refine⟨hlen,by simp,λj v e=>?_⟩;rw[PW];refine e3 (l+j) v ?_;rw[List.map_take,uu0,vv2]at e
  split at e
  ·rw[vvk]at e;exact e
  cases e
section
variable {W w:Ζ} {l:Β} {X:Μ} {v:Ε} {b:Φ}
def cK.one(hb:cK X v b)(hS:SL W l w)(m:Has X l):v.oneCell'=true:=by
 obtain⟨a,c,rfl,_⟩:=hb.sl hS m;rfl
def yt{K:Ε->Prop}(hS:SL W l w)(m:Has X l)(hb:cK X v b)(k:K (Γ b.length)):zd v K:=by
 obtain⟨a,c,rfl,_⟩:=hb.sl hS m;exact yg k
def yX{j:Nat}{kk:IntKind}{K:Ε->Prop}(hS:SL W l w)(m:Has X l)(hb:cK X v b)(hj:j<b.length)(hK:K (bU b[j])):zl 1 v (.int kk (j:Int)) λp=>bu p w K:=by
 obtain⟨a,c,rfl,_⟩:=hb.sl hS m;have hs:=hb.src hS m;cases a with
 | none=>
  have:b=[]:=by simpa using hs.2
  subst this;simp at hj
 | some p=>
  refine⟨p,_,c,kk,j,rfl,rfl,hj,?_⟩;refine⟨_,_,rfl,(by rw[vvs];exact hs.2.2 j (bU b[j]) (by simp[hj])),?_⟩;exact hK
def WT{lo hi:Nat}{k1 k2:IntKind}{K:Ε->Prop}(hS:SL W l w)(m:Has X l)(hb:cK X v b)(h1:lo<=hi)(h2:hi<=b.length)(hK:∀u,cK X u ((b.drop lo).take (hi-lo))->K u):dQ 1 v (some (.int k1 (lo:Int))) (some (.int k2 (hi:Int))) none K:=by
 obtain⟨a,c,rfl,hc⟩:=hb.sl hS m;exact⟨a,_,c,lo,hi,c,rfl,rfl,⟨k2,rfl⟩,⟨k1,rfl⟩,h1,by omega,zzj _,hK _ (hb.sub rfl hc h1 h2)⟩
def WV{lo:Nat}{k1:IntKind}{K:Ε->Prop}(hS:SL W l w)(m:Has X l)(hb:cK X v b)(h1:lo<=b.length)(hK:∀u,cK X u (b.drop lo)->K u):dQ 1 v (some (.int k1 (lo:Int))) none none K:=by
 obtain⟨a,c,rfl,hc⟩:=hb.sl hS m;refine⟨a,_,c,lo,b.length,c,rfl,rfl,rfl,⟨k1,rfl⟩,h1,hc,zzj _,hK _ ?_⟩;have:=hb.sub rfl hc h1 (zzj _)
 rwa [show (b.drop lo).take (b.length-lo)=b.drop lo from zzz (by simp)]at this
def WU{hi:Nat}{k2:IntKind}{K:Ε->Prop}(hS:SL W l w)(m:Has X l)(hb:cK X v b)(h2:hi<=b.length)(hK:∀u,cK X u (b.take hi)->K u):dQ 1 v none (some (.int k2 (hi:Int))) none K:=by
 obtain⟨a,c,rfl,hc⟩:=hb.sl hS m;refine⟨a,_,c,0,hi,c,rfl,rfl,⟨k2,rfl⟩,rfl,zz6 _,by omega,zzj _,hK _ ?_⟩;have:=hb.sub rfl hc (zz6 hi) h2;simpa using this
def WY{a b:Int}{K:Ε->Prop}(h:K (.int .u32 (Bk a b))):zc .xor (.int .u32 a) (.int .u32 b) K:=⟨_,rfl,h⟩
def bwu{a b:Int}{K:Ε->Prop}(h:K (.int .u32 (P0 a b))):zc .and (.int .u32 a) (.int .u32 b) K:=⟨_,rfl,h⟩
def WN{a:Int}{K:Ε->Prop}(h:K (.int .u32 (D9 a))):Br (.int .u32 a) K:=⟨_,_,rfl,h⟩
def ZV{a:Int}{n:Nat}(hn:n<=32){K:Ε->Prop}(h:K (.int .u32 (a.fdiv (2 ^ n)))):zc .shr (.int .u32 a) (.int .u64 (n:Int)) K:=by
 refine⟨.int .u32 (a.fdiv (2 ^ n)),?_,h⟩;have h1:¬((n:Int)<0):=by omega
 simp only[iJ,h1,wwt];rw[show min (n:Int).toNat IntKind.u32.bits=n by simp only[IntKind.bits];omega]
end
def wrap_u32{n:Int}(h0:0<=n)(h1:n<4294967296):IntKind.u32.wrap n=n:=by
 simp only[IntKind.wrap,IntKind.bits,IntKind.signed];simp;omega
def bz6(c:Int)(x:Κ):SP 354 [.int .u32 c,bU x] [] (bA (.int .u32 (Kp c x)) []):=by
 refine Enzz λW F w hS=>?_;apply bIc;delta aI ai;refine zT ?_;rw[wrap_u32 (by omega) (by have:=x.toNat_lt;omega)];refine WY ?_;refine⟨λvs w=>∃i:Nat,i<=8/\vs=[.int .u32 (BO i (Bk c x.toNat)),Γ i]/\SL W F w,λvs _=>match vs with
  | [_,.int _ i]=>8-i.toNat
  | _=>0,⟨0,by omega,rfl,hS⟩,?_⟩
 rintro v1 v2 w1 ⟨i,hi,hv,hS⟩;cases hv;refine bj (λh=>?_) (λh=>?_)
 ·refine bwu ?_;refine WO ?_;refine ZV (n:=1) (by omega) ?_;have hb:BO (i+1) (Bk c x.toNat)=D4 (BO i (Bk c x.toNat)):=rfl;refine za (λh2=>?_) (λh2=>?_)
  ·refine WY ?_;refine Gp ?_;refine⟨⟨i+1,by omega,?_,hS⟩,?_⟩
   ·rw[hb,D4,zzc h2]
   simp only[zzw];omega
  refine Gp ?_;refine⟨⟨i+1,by omega,?_,hS⟩,?_⟩
  ·rw[hb,D4,zzb h2]
  simp only[zzw];omega
 obtain rfl:i=8:=by omega
 exact⟨_,⟨rfl,rfl⟩,hS⟩
def YF(X:Μ)(s:Int)(v:Ε)(b:Φ)(hb:cK X v b)(hN:b.length<=140737488355328):SP 347 [.int .u32 s,v] [X] (bA (.int .u32 (vB s b)) [X]):=by
 refine Enzz λW F w hS=>?_;apply bH8;delta aI ai;refine WN ?_;refine yt hS .hd hb ?_;refine⟨λvs w=>∃i:Nat,i<=b.length/\vs=[.int .u32 ((b.take i).foldl Kp (D9 s)),Γ i]/\SL W (X::F) w,λvs _=>match vs with
  | [_,.int _ i]=>b.length-i.toNat
  | _=>0,⟨0,by omega,rfl,hS⟩,?_⟩
 rintro v1 v2 w1 ⟨i,hi,hv,hS⟩;cases hv;refine bj (λh=>?_) (λh=>?_)
 ·have hi:i<b.length:=by omega
  refine yX hS .hd hb hi ?_;refine Cg (bz6 _ _) λw hS=>?_;refine⟨⟨i+1,by omega,?_,aR hS⟩,?_⟩
  ·rw[show b.take (i+1)=b.take i++[b[i]] by rw[wwx];simp[hi],wwe];rfl
  simp only[zzw];omega
 obtain rfl:i=b.length:=by omega
 refine WN ?_;rw[zz0];exact⟨_,⟨rfl,rfl⟩,hS⟩
def bAc(X Y:Μ)(v u:Ε)(b c:Φ)(hb:cK X v b)(hc:cK Y u c)(hN:b.length<=140737488355328)(hM:c.length<=140737488355328)(p:Nat)(t:Ι):
  SP 333 [.slice (some ⟨p,0,none⟩) 2 2] [.pt p [u,v] t,X,Y] (bA (.int .u32 (vB (vB 0 c) b)) [X,Y]):=by
 refine Enzz λW F w hS=>?_;apply bH4;delta aI ai;refine Gp ?_;refine⟨λvs w=>(vs=[.int .u32 0,Γ 0]\/vs=[.int .u32 (vB 0 c),Γ 1]\/vs=[.int .u32 (vB (vB 0 c) b),Γ 2])/\SL W (.pt p [u,v] t::X::Y::F) w,λvs _=>match vs with
  | [_,.int _ i]=>2-i.toNat
  | _=>0,⟨.inl rfl,hS⟩,?_⟩
 rintro v1 v2 w1 ⟨hv,hS⟩;rcases hv with hv|hv|hv<;>cases hv
 ·refine Gp ?_;refine za (λh=>?_) (λh=>by omega);refine zI (j:=0) (by omega) ?_;refine zV hS Xh rfl ?_;refine Cg (YF Y 0 u c hc hM) λw hS=>?_;exact⟨⟨.inr (.inl rfl),aR hS⟩,Nat.lt_succ_self _⟩
 ·refine Gp ?_;refine za (λh=>?_) (λh=>by omega);refine zI (j:=1) (by omega) ?_;refine zV hS Xh rfl ?_;refine Cg (YF X _ v b hb hN) λw hS=>?_;exact⟨⟨.inr (.inr rfl),aR hS⟩,Nat.lt_succ_self _⟩
 refine Gp ?_;refine za (λh=>by omega) (λh=>?_);(exact bw hS)

/- Part. -/
import Derived.Test.YtmkllimamejcgaaGreatJ4
import Derived.Test.YtmkllimamejcgaaGreatQVcR
import Derived.Lib.AppendZerosOnto
namespace Go.Proofs.YtmkllimamejcgaaGreat
set_option linter.all false
set_option maxRecDepth 100000
open Go.RowKit
def ttd:=@List.map_drop
def ww4:=@List.take_add_one
def xxt:=@Tryz.underlying205
def yyw:=@List.flatten_append
def xx6:=@List.flatten_nil
def vv0:=@BitVec.ofInt_natCast
def uue:=@BitVec.toNat_ofNat
def ttf:=@Nat.shiftLeft_eq
def Ra(a:Addr)(i j:Nat):(a.add i).add j=a.add (i+j):=by
 unfold Addr.add;by_cases hi:i=0
 ·subst hi;simp
 by_cases hj:j=0
 ·subst hj;simp[hi]
 rw[zzb hi,zzb hj,zzb (by omega)];simp[vvh]
structure dS(X:Μ)(v:Ε)(b:Φ):Prop where
 sl:∀{W w:Ζ} {l:Β},SL W l w->Has X l->∃a c,v= .slice a b.length c/\b.length<=c
 src:∀{W w:Ζ} {l:Β},SL W l w->Has X l->kJ w 1 v b.length (b.map cX)
def dS.own{v:Ε}{t:Ι}{b:Φ}:dS (.ob (bR v t 1 b.length (b.map cX))) v b:=
 ⟨λh m=>by
  obtain⟨l2,r⟩:=m.rem;rcases bR.open (h.perm r.perm) with ⟨⟨a',rfl⟩,h0,_,_⟩|⟨b',Ez,rest,rfl,hc,_⟩
  ·rw[h0];exact⟨a',0,rfl,zzj _⟩
  exact⟨_,_,rfl,hc⟩,λh m=>nk h m⟩
def dS.nil{X:Μ}{a:Option Addr}{c:Nat}:dS X (.slice a 0 c) []:=
 ⟨λ_ _=>⟨a,c,rfl,zz9 _⟩,λ_ _=>by cases a with|none=>exact⟨rfl,rfl⟩|some p=>exact⟨rfl,rfl,λj v e=>by simp at e⟩⟩
def dS.sub{X:Μ}{a:Option Addr}{n c l h:Nat}{b:Φ}(hb:dS X (.slice a n c) b)(hn:n=b.length)(hc:n<=c)(h1:l<=h)(h2:h<=n):dS X (.slice (if c=l then a else a.map (·.add (l*1))) (h-l) (c-l)) ((b.drop l).take (h-l)):=by
 have hlen:((b.drop l).take (h-l)).length=h-l:=by rw[zzg,zzq];omega
 refine⟨λ_ _=>⟨_,_,by rw[hlen],by omega⟩,λhS m=>?_⟩;have hs:=hb.src hS m;rw[vvw];by_cases mZ:c=l
 ·rw[zzd mZ];have:(b.drop l).take (h-l)=[]:=zzl (by omega);rw[this];have e0:h-l=0:=by omega
  rw[e0];cases a with
  | none=>exact⟨rfl,rfl⟩
  | some p=>exact⟨rfl,rfl,λj v e=>by simp at e⟩
 rw[zzb mZ];cases a with
 | none=>
  obtain⟨e1,e2⟩:=hs;have:b=[]:=by simpa using e2
  subst this;exact⟨hlen,by simp⟩
 | some p=>
  obtain⟨e1,e2,e3⟩:=hs;refine⟨hlen,by simp,λj v e=>?_⟩;rw[Ra];refine e3 (l+j) v ?_;rw[List.map_take,ttd,uud]at e
  split at e
  ·rw[wws]at e;exact e
  cases e
section
variable {W w:Ζ} {l:Β} {X:Μ} {v:Ε} {b:Φ}
def dS.one(hb:dS X v b)(hS:SL W l w)(m:Has X l):v.oneCell'=true:=by
 obtain⟨a,c,rfl,_⟩:=hb.sl hS m;rfl
def yp{K:Ε->Prop}(hS:SL W l w)(m:Has X l)(hb:dS X v b)(k:K (Γ b.length)):zd v K:=by
 obtain⟨a,c,rfl,_⟩:=hb.sl hS m;exact ye k
def yX{j:Nat}{kk:IntKind}{K:Ε->Prop}(hS:SL W l w)(m:Has X l)(hb:dS X v b)(hj:j<b.length)(hK:K (cX b[j])):zk 1 v (.int kk (j:Int)) λp=>cn p w K:=by
 obtain⟨a,c,rfl,_⟩:=hb.sl hS m;have hs:=hb.src hS m;cases a with
 | none=>
  have:b=[]:=by simpa using hs.2
  subst this;simp at hj
 | some p=>
  refine⟨p,_,c,kk,j,rfl,rfl,hj,?_⟩;refine⟨_,_,rfl,(by rw[vvw];exact hs.2.2 j (cX b[j]) (by simp[hj])),?_⟩;exact hK
def WR{lo hi:Nat}{k1 k2:IntKind}{K:Ε->Prop}(hS:SL W l w)(m:Has X l)(hb:dS X v b)(h1:lo<=hi)(h2:hi<=b.length)(hK:∀u,dS X u ((b.drop lo).take (hi-lo))->K u):fp 1 v (some (.int k1 (lo:Int))) (some (.int k2 (hi:Int))) none K:=by
 obtain⟨a,c,rfl,hc⟩:=hb.sl hS m;exact⟨a,_,c,lo,hi,c,rfl,rfl,⟨k2,rfl⟩,⟨k1,rfl⟩,h1,by omega,zzj _,hK _ (hb.sub rfl hc h1 h2)⟩
def WT{lo:Nat}{k1:IntKind}{K:Ε->Prop}(hS:SL W l w)(m:Has X l)(hb:dS X v b)(h1:lo<=b.length)(hK:∀u,dS X u (b.drop lo)->K u):fp 1 v (some (.int k1 (lo:Int))) none none K:=by
 obtain⟨a,c,rfl,hc⟩:=hb.sl hS m;refine⟨a,_,c,lo,b.length,c,rfl,rfl,rfl,⟨k1,rfl⟩,h1,hc,zzj _,hK _ ?_⟩;have:=hb.sub rfl hc h1 (zzj _)
 rwa [show (b.drop lo).take (b.length-lo)=b.drop lo from zz6 (by simp)]at this
def WS{hi:Nat}{k2:IntKind}{K:Ε->Prop}(hS:SL W l w)(m:Has X l)(hb:dS X v b)(h2:hi<=b.length)(hK:∀u,dS X u (b.take hi)->K u):fp 1 v none (some (.int k2 (hi:Int))) none K:=by
 obtain⟨a,c,rfl,hc⟩:=hb.sl hS m;refine⟨a,_,c,0,hi,c,rfl,rfl,⟨k2,rfl⟩,rfl,zz9 _,by omega,zzj _,hK _ ?_⟩;have:=hb.sub rfl hc (zz9 hi) h2;simpa using this
def WX{a b:Int}{K:Ε->Prop}(h:K (.int .u32 (BW a b))):zc .xor (.int .u32 a) (.int .u32 b) K:=⟨_,rfl,h⟩
def czv{a b:Int}{K:Ε->Prop}(h:K (.int .u32 (Rf a b))):zc .and (.int .u32 a) (.int .u32 b) K:=⟨_,rfl,h⟩
def WM{a:Int}{K:Ε->Prop}(h:K (.int .u32 (EE a))):B1 (.int .u32 a) K:=⟨_,_,rfl,h⟩
def ZR{a:Int}{n:Nat}(hn:n<=32){K:Ε->Prop}(h:K (.int .u32 (a.fdiv (2 ^ n)))):zc .shr (.int .u32 a) (.int .u64 (n:Int)) K:=by
 refine⟨.int .u32 (a.fdiv (2 ^ n)),?_,h⟩;have h1:¬((n:Int)<0):=by omega
 simp only[jA,h1,wwb];rw[show min (n:Int).toNat IntKind.u32.bits=n by simp only[IntKind.bits];omega]
end
def wrap_u32{n:Int}(h0:0<=n)(h1:n<4294967296):IntKind.u32.wrap n=n:=by
 simp only[IntKind.wrap,IntKind.bits,IntKind.signed];simp;omega
def cCc(c:Int)(x:Κ):SP 399 [.int .u32 c,cX x] [] (cE (.int .u32 (KL c x)) []):=by
 refine Enzz λW F w hS=>?_;apply cKr;delta Pf aI ai;refine zW ?_;rw[wrap_u32 (by omega) (by have:=x.toNat_lt;omega)];refine WX ?_;refine⟨λvs w=>∃i:Nat,i<=8/\vs=[.int .u32 (Cm i (BW c x.toNat)),Γ i]/\SL W F w,λvs _=>match vs with
  | [_,.int _ i]=>8-i.toNat
  | _=>0,⟨0,by omega,rfl,hS⟩,?_⟩
 rintro v1 v2 w1 ⟨i,hi,hv,hS⟩;cases hv;refine bZ (λh=>?_) (λh=>?_)
 ·refine czv ?_;refine WN ?_;refine ZR (n:=1) (by omega) ?_;have hb:Cm (i+1) (BW c x.toNat)=Ew (Cm i (BW c x.toNat)):=rfl;refine za (λh2=>?_) (λh2=>?_)
  ·refine WX ?_;refine Gp ?_;refine⟨⟨i+1,by omega,?_,hS⟩,?_⟩
   ·rw[hb,Ew,zzd h2]
   simp only[zzy];omega
  refine Gp ?_;refine⟨⟨i+1,by omega,?_,hS⟩,?_⟩
  ·rw[hb,Ew,zzb h2]
  simp only[zzy];omega
 obtain rfl:i=8:=by omega
 exact⟨_,⟨rfl,rfl⟩,hS⟩
def YF(X:Μ)(s:Int)(v:Ε)(b:Φ)(hb:dS X v b)(hN:b.length<=140737488355328):SP 394 [.int .u32 s,v] [X] (cE (.int .u32 (vV s b)) [X]):=by
 refine Enzz λW F w hS=>?_;apply cKq;delta Pe aI ai;refine WM ?_;refine yp hS .hd hb ?_;refine⟨λvs w=>∃i:Nat,i<=b.length/\vs=[.int .u32 ((b.take i).foldl KL (EE s)),Γ i]/\SL W (X::F) w,λvs _=>match vs with
  | [_,.int _ i]=>b.length-i.toNat
  | _=>0,⟨0,by omega,rfl,hS⟩,?_⟩
 rintro v1 v2 w1 ⟨i,hi,hv,hS⟩;cases hv;refine bZ (λh=>?_) (λh=>?_)
 ·have hi:i<b.length:=by omega
  refine yX hS .hd hb hi ?_;refine Cg (cCc _ _) λw hS=>?_;refine⟨⟨i+1,by omega,?_,aW hS⟩,?_⟩
  ·rw[show b.take (i+1)=b.take i++[b[i]] by rw[ww4];simp[hi],ww3];rfl
  simp only[zzy];omega
 obtain rfl:i=b.length:=by omega
 refine WM ?_;rw[zz4];exact⟨_,⟨rfl,rfl⟩,hS⟩
def cCj(X Y:Μ)(v u:Ε)(b c:Φ)(hb:dS X v b)(hc:dS Y u c)(hN:b.length<=140737488355328)(hM:c.length<=140737488355328)(p:Nat)(t:Ι):
  SP 380 [.slice (some ⟨p,0,none⟩) 2 2] [.pt p [u,v] t,X,Y] (cE (.int .u32 (vV (vV 0 c) b)) [X,Y]):=by
 refine Enzz λW F w hS=>?_;apply cKp;delta Pd aI ai;refine Gp ?_;refine⟨λvs w=>(vs=[.int .u32 0,Γ 0]\/vs=[.int .u32 (vV 0 c),Γ 1]\/vs=[.int .u32 (vV (vV 0 c) b),Γ 2])/\SL W (.pt p [u,v] t::X::Y::F) w,λvs _=>match vs with
  | [_,.int _ i]=>2-i.toNat
  | _=>0,⟨.inl rfl,hS⟩,?_⟩
 rintro v1 v2 w1 ⟨hv,hS⟩;rcases hv with hv|hv|hv<;>cases hv
 ·refine Gp ?_;refine za (λh=>?_) (λh=>by omega);refine zF (j:=0) (by omega) ?_;refine zV hS Xh rfl ?_;refine Cg (YF Y 0 u c hc hM) λw hS=>?_;exact⟨⟨.inr (.inl rfl),aW hS⟩,Nat.lt_succ_self _⟩
 ·refine Gp ?_;refine za (λh=>?_) (λh=>by omega);refine zF (j:=1) (by omega) ?_;refine zV hS Xh rfl ?_;refine Cg (YF X _ v b hb hN) λw hS=>?_;exact⟨⟨.inr (.inr rfl),aW hS⟩,Nat.lt_succ_self _⟩
 refine Gp ?_;refine za (λh=>by omega) (λh=>?_);(exact cC hS)
def WK{P:Program}{w:Ζ}{t e ty:Ι}{a:Option Addr}{n c:Nat}{K:Ε->Prop}(ht:P.underlying t=some (.slice e))(h:K (Γ c)):ff P (Builtin.cap_ #[t] ty #[.slice a n c]) w K:=by
 refine⟨_,?_,h⟩;simp[Builtin.cap_,zzz ht,Result.andThen,goInt]
def wrap_u8(n:Int):Value.int .u8 (IntKind.u8.wrap n)=cX (gW n):=(bZc n).symm
def wrap_u64{n:Int}(h0:0<=n)(h1:n<18446744073709551616):IntKind.u64.wrap n=n:=by
 simp only[IntKind.wrap,IntKind.bits,IntKind.signed];simp;omega
def Yx(x:Int):SP 379 [.int .u32 x] [] (λv post=>post=[.ob (bR v 5 1 4 ((four x).map cX))]):=by
 refine Enzz λW F w hS=>?_;apply cKn;unfold Pb;refine ZR (n:=24) (by omega) ?_;refine zW ?_;refine ZR (n:=16) (by omega) ?_;refine zW ?_;refine ZR (n:=8) (by omega) ?_;refine zW ?_;refine zW ?_;rw[wrap_u8,wrap_u8,wrap_u8,wrap_u8];refine zN (cells:=(four x).map cX) hS rfl ?_;intro b w' gE;exact⟨_,rfl,bR.full (n:=4) rfl gE⟩
def YQ(a:Option Addr)(n c:Nat)(hn:n<=1048576):SP 358 [.agg #[.slice a n c]] [] (λv post=>post=[.ob (bR v 5 1 4 ((four n).map cX))]):=by
 refine Enzz λW F w hS=>?_;apply cKc;delta O5 a_;refine⟨[.slice a n c],rfl,?_⟩;refine Gm λb w hS=>?_;refine zW ?_;rw[wrap_u32 (by omega) (by omega)];refine Cc (Yx n) ?_;clear hS;(rintro v post rfl w hS;(try simp only[app]at hS);(repeat (first|refine Gp ?_|refine Gw λw hS=>?_|refine Gb λb w hS=>?_)))
 exact⟨_,rfl,aW hS⟩
def VW(X:Μ)(v:Ε)(q:Φ)(hb:dS X v q)(hN:q.length<=1048576):SP 357 [v] [X] (λr post=>∃u,r= .agg #[v,u]/\post=[.ob (bR u 5 1 4 ((four (sumOf q)).map cX)),X]):=by
 refine Enzz λW F w hS=>?_;apply cKb;delta O4 bI;obtain⟨a,c,rfl,hc⟩:=hb.sl hS .hd;refine Gm λb w hS=>?_;refine Gm λb w hS=>?_;refine Cc (YQ a q.length c hN) ?_;clear hS;rintro v8 post rfl w hS;(try simp only[app]at hS);have h8:=hS.rL .hd;refine Gp ?_;refine zN (cells:=[v8,.slice a q.length c]) hS ?_ ?_
 ·obtain⟨a8,c8,e,_⟩:=bR.at hS .hd;subst e;rfl
 clear hS;intro p w hS;refine Gp ?_;refine Cg (cCj X (.ob (bR v8 5 1 4 ((four q.length).map cX))) (.slice a q.length c) v8 q (four q.length) hb (dS.own (b:=four q.length)) (by omega) (by rw[AR];omega) p _) λw hS=>?_;refine Cc (Yx (sumOf q)) ?_;clear hS;rintro v12 post rfl w hS;(try simp only[app]at hS);have dU:=hS.rL .hd;obtain⟨a12,Co,e,_⟩:=bR.at hS .hd;subst e;refine Gn λw hS=>?_;exact⟨_,⟨_,rfl,rfl⟩,aW hS⟩
def Qt(X Y:Μ)(v u:Ε)(b c:Φ)(hb:dS X v b)(hc:dS Y u c)(hN:b.length<=140737488355328):
  SP 368 [v,u] [X,Y] (cE (.bool (decide (b=c))) [X,Y]):=by
 refine Enzz λW F w hS=>?_;apply cKf;delta O8 aI bY ai;refine yp hS .hd hb ?_;refine yp hS Xh hc ?_;refine bZ (λh=>?_) (λh=>?_)
 ·rw[show decide (b=c)=false from zz2 (λe=>h (by rw[e]))];(exact cC hS)
 have hl:b.length=c.length:=by omega
 refine yp hS .hd hb ?_;refine⟨λvs w=>∃i:Nat,i<=b.length/\vs=[Γ i]/\b.take i=c.take i/\SL W (X::Y::F) w,λvs _=>match vs with
  | [.int _ i]=>b.length-i.toNat
  | _=>0,⟨0,by omega,rfl,by simp,hS⟩,?_⟩
 rintro v1 w1 ⟨i,hi,hv,he,hS⟩;cases hv;refine bZ (λh=>?_) (λh=>?_)
 ·have hi:i<b.length:=by omega
  have hj:i<c.length:=by omega
  refine Gn λw hS=>?_;refine yX hS .hd hb hi ?_;refine yX hS Xh hc hj ?_;refine BK ?_;refine za (λh2=>?_) (λh2=>?_)
  ·rw[show decide (b=c)=false from zz2 (λe=>h2 (by subst e;rfl))];(exact cC hS)
  refine Gp ?_;have e1:b[i]=c[i]:=by
   apply UInt8.toNat_inj.1;omega
  refine⟨⟨i+1,by omega,rfl,?_,hS⟩,?_⟩
  ·rw[ww4,ww4,he];simp[hi,hj,e1]
  simp only[zzy];omega
 obtain rfl:i=b.length:=by omega
 have e:b=c:=by
  rw[zz4]at he
  rw[he,hl,zz4]
 rw[show decide (b=c)=true from zzm e];(exact cC hS)
def Tryz.UQ:(Tryz.prog.info? 5).map (λi=>(i.zero,i.size,i.bytes))=some (some (.int .u8 0),1,1):=by kernel_rfl
def bRf(n:Nat)(hn:n<=140737488355328):SP 370 [Θ,Γ n] [] (λv post=>post=[.ob (bR v 5 1 0 [])]):=by
 intro W F w hS;apply cKh;delta O' aI ai;(try simp only[app]at hS);refine Gp ?_;refine za (λh=>by omega) (λh=>?_);refine WK xxt ?_;refine bZ (λh=>?_) (λh=>?_)
 ·refine WK xxt ?_;refine⟨none,0,0,0,0,0,rfl,rfl,⟨_,rfl⟩,rfl,zzj _,zzj _,zzj _,?_⟩;have hk:0<n:=by omega
  have e:(n:Int)-(((0:Nat):Int)-((0:Nat):Int))=((n:Nat):Int):=by omega
  rw[e];cases hi:Tryz.prog.info? 5 with
  | none=>have:=Tryz.UQ;rw[hi]at this;cases this
  | some i=>
   have hI:=Tryz.UQ;rw[hi]at hI
   simp only[yyh,tta,wwi]at hI;obtain⟨h1,h2,h3⟩:=hI;have pf:Builtin.nextslicecap (0+n) 0=n:=by
    unfold Builtin.nextslicecap;simp[hk]
   have xM:=Go.Lib.run_append_grow_zeros (P:=Tryz.prog) w 205 3 205 5 i (.int .u8 0) .i64 .i64 xxt yyc hi h1 none 0 0 [] (by rw[h2];exact run_firstCells_none w.drew 1 0 _ _) n hk (by omega) (by omega) (by omega) (by rw[h3];omega) (by rw[pf,h3];omega);refine⟨_,_,xM,?_⟩;generalize TA:grownCap w (0+n) 0 5=cp;have xx:n<=cp:=by
    have:=grownCap_ge w (0+n) 0 5;omega
   refine ye ?_;refine⟨_,_,_,0,0,cp,rfl,rfl,⟨_,rfl⟩,rfl,zzj _,zz9 _,zzj _,?_⟩;refine⟨_,rfl,?_⟩;have hb:(if cp=0 then (some (⟨w.heap.size,0,none⟩:Addr)) else (some (⟨w.heap.size,0,none⟩:Addr)).map (·.add (0*1)))=some ⟨w.heap.size,0,none⟩:=by
    split
    ·rfl
    simp[Addr.add]
   rw[hb,wwv,wwv];refine bR.mk (cells:=[]) (rest:=cK [.int .u8 0] n++cK [.int .u8 0] (cp-n)) (zz9 _) rfl ?_ ?_
   ·rw[zza,lV,lV];simp;omega
   have hz:∀k,Builtin.zeroCells (Value.cells (.int .u8 0)) k=(cK [.int .u8 0] k).toArray:=λk=>by
    rw[<- La (Value.cells (.int .u8 0)) [.int .u8 0] rfl k,Array.toArray_toList]
   rw[hz,hz,yye];have e2:([]:Ξ).toArray++(cK [Value.int .u8 0] n).toArray++(cK [Value.int .u8 0] (cp-n)).toArray=([]++(cK [Value.int .u8 0] n++cK [Value.int .u8 0] (cp-n))).toArray:=by simp
   rw[e2];exact SL.new hS.drew
 have:n=0:=by omega
 exact⟨_,rfl,bR.nil hS⟩
def Has.app{c:Μ}:∀{p F:Β},Has c p->Has c (app p F)
 | _::_,_,.hd=>.hd
 | _::_,_,.tl h=>.tl h.app
def SQ{α:Type}{bs:List (List α)}{i:Nat}(h:i<bs.length):(bs.take (i+1)).flatten=(bs.take i).flatten++bs[i]:=by
 rw[ww4,zzc h,yyw];simp only[Option.toList_some,zz8,xx6,zz1]
def ET{α:Type}(bs:List (List α))(i:Nat):(bs.take i).flatten.length<=bs.flatten.length:=by
 have:bs.flatten=(bs.take i).flatten++(bs.drop i).flatten:=by rw[<- yyw,yyk]
 rw[this,zza];omega
def ZC(p n:Nat)(t:Ι)(vs:Ξ)(bs:List Φ)(Xs:Β)(hn:vs.length=n)(hb:bs.length=n)(hx:∀i (h:i<n),∃X,Has X Xs/\dS X (vs[i]'(by omega)) (bs[i]'(by omega)))(hN:bs.flatten.length<=100000000)(xF:n<=100):
  SP 334 [.slice (some ⟨p,0,none⟩) n n] (.pt p vs t::Xs) (λv post=>post= .ob (bR v 5 1 bs.flatten.length (bs.flatten.map cX))::Xs):=by
 refine Enzz λW F w hS=>?_;apply cJw;delta OS aI ai bI;refine Gp ?_;refine⟨λus w=>∃i:Nat,i<=n/\us=[Γ ((bs.take i).flatten.length:Nat),Γ i]/\SL W (.pt p vs t::app Xs F) w,λus _=>match us with
  | [_,.int _ i]=>n-i.toNat
  | _=>0,⟨0,by omega,by simp,hS⟩,?_⟩
 rintro v1 v2 w1 ⟨i,hi,hv,hS⟩;cases hv;have hle:=ET bs i;refine bZ (λh=>?_) (λh=>?_)
 ·have hi:i<n:=by omega
  obtain⟨X,hX,hr⟩:=hx i hi;refine zF (j:=i) hi ?_;refine zV hS .hd (v:=vs[i]'(by omega)) (by rw[zzc (by omega)];congr 2;omega) ?_;refine yp hS (.tl hX.app) hr ?_;have e:=SQ (bs:=bs) (i:=i) (by omega);have bVr:=ET bs (i+1);have el:(bs.take (i+1)).flatten.length=(bs.take i).flatten.length+(bs[i]'(by omega)).length:=by rw[e,zza]
  refine Gp ?_;refine za (λh=>by omega) (λh=>?_);refine Gp ?_;refine⟨⟨i+1,by omega,?_,hS⟩,?_⟩
  ·rw[el]
  simp only[zzy];omega
 obtain rfl:i=n:=by omega
 have ef:bs.take i=bs:=zz6 (by omega);rw[ef];refine yH (F:=.pt p vs t::app Xs F) (bRf bs.flatten.length (by omega)) hS gC.nil ?_;clear hS;rintro v post rfl w hS;(try simp only[app]at hS);refine Gp ?_;refine⟨λus w=>∃(j:Nat) (u:Ε),j<=i/\us=[u,Γ j]/\SL W (.ob (bR u 5 1 (bs.take j).flatten.length ((bs.take j).flatten.map cX))::.pt p vs t::app Xs F) w,λus _=>match us with
  | [_,.int _ j]=>i-j.toNat
  | _=>0,⟨0,v,by omega,rfl,hS⟩,?_⟩
 rintro v1 v2 w2 ⟨j,u,hj,hv,hS⟩;cases hv;have hle:=ET bs j;refine bZ (λh=>?_) (λh=>?_)
 ·have hj:j<i:=by omega
  obtain⟨X,hX,hr⟩:=hx j hj;refine zF (j:=j) hj ?_;refine zV hS Xh (v:=vs[j]'(by omega)) (by rw[zzc (by omega)];congr 2;omega) ?_;have e:=SQ (bs:=bs) (i:=j) (by omega);have bVr:=ET bs (j+1);have el:(bs.take (j+1)).flatten.length=(bs.take j).flatten.length+(bs[j]'(by omega)).length:=by rw[e,zza]
  refine zI hS .hd (hr.src hS (.tl (.tl hX.app))) (by simp) rfl (uY _) (by omega) (by omega) ?_;clear hS;intro v' w hS;refine Gp ?_;refine⟨⟨j+1,v',by omega,rfl,?_⟩,?_⟩
  ·rw[el,e,zzt];exact hS
  simp only[zzy];omega
 obtain rfl:j=i:=by omega
 rw[ef]at hS
 exact⟨_,rfl,SL.b_ hS (.cons .hd (by
  have:jU (app Xs F) (.pt p vs t::app Xs F):=jU.drop .refl;exact this))⟩
def s4(X:Μ)(q:Φ)(r:Ε)(post:Β):Prop:=
 if 1048576<q.length then r= .tuple #[Θ,Γ 1]/\post=[X]
 else ∃u,r= .tuple #[u,Γ 0]/\post=[.ob (bR u 5 1 (da q).length ((da q).map cX)),X]
def s4.big{X:Μ}{q:Φ}(h:1048576<q.length):s4 X q (.tuple #[Θ,Γ 1]) [X]:=by
 unfold s4;rw[zzd h];exact⟨rfl,rfl⟩
def s4.ok{X:Μ}{q:Φ}(h:q.length<=1048576)(u:Ε):s4 X q (.tuple #[u,Γ 0]) [.ob (bR u 5 1 (da q).length ((da q).map cX)),X]:=by
 unfold s4;rw[zzb (wwr.2 h)];exact⟨u,rfl,rfl⟩
def Z8(X:Μ)(v:Ε)(q:Φ)(hq:dS X v q)(hN:q.length<=140737488355328):SP 310 [v] [X] (s4 X q):=by
 refine Enzz λW F w hS=>?_;apply cJf;delta OC aI aR ai bI;refine yp hS .hd hq ?_;refine bZ (λh=>?_) (λh=>?_)
 ·exact⟨_,.big (by omega),hS⟩
 obtain⟨a,c,rfl,hc⟩:=hq.sl hS .hd;refine Cc (VW X _ q hq (by omega)) ?_;clear hS;rintro v9 post ⟨u,rfl,rfl⟩ w hS;(try simp only[app]at hS);have hu:=hS.rL .hd;obtain⟨au,cu,e,_⟩:=bR.at hS .hd;subst e;refine Gm λb w hS=>?_;refine yG hS (vs:=[.slice a q.length c]) Xh rfl (λj v e=>?_) ?_
 ·match j,e with
  | 0,e=>exact e
 refine Gp ?_;refine Cc (YQ a q.length c (by omega)) ?_;clear hS;rintro v12 post rfl w hS;(try simp only[app]at hS);obtain⟨a12,Co,e,_⟩:=bR.at hS .hd;subst e;refine Gm λb w hS=>?_;refine yH (F:=_) (ZC _ 3 _ [_,_,_] [four q.length,four (sumOf q),q] [.ob (bR (.slice a12 4 Co) 5 1 4 ((four q.length).map cX)),.ob (bR (.slice au 4 cu) 5 1 4 ((four (sumOf q)).map cX)),X] rfl rfl ?_ ?_ (by omega)) hS Xp ?_
 ·intro i hi
  match i,hi with
  | 0,_=>exact⟨_,.hd,dS.own (b:=four q.length)⟩
  | 1,_=>exact⟨_,.tl .hd,dS.own (b:=four (sumOf q))⟩
  | 2,_=>exact⟨_,.tl (.tl .hd),hq⟩
 ·simp[AR];omega
 clear hS;rintro v post rfl w hS;(try simp only[app]at hS);have e:[four q.length,four (sumOf q),q].flatten=da q:=by simp[da]
 rw[e]at hS
 exact⟨_,.ok (by omega) v,aW hS⟩
def orW{a b:Nat}(ha:a<9223372036854775808)(hb:b<9223372036854775808):jA .or (Γ (a:Int)) (Γ (b:Int))=some (Γ ((a ||| b:Nat):Int)):=by
 have h:(a ||| b)<9223372036854775808:=Nat.or_lt_two_pow (n:=63) ha hb;simp only[jA,wwj];congr 2;have e1:(BitVec.ofInt IntKind.i64.bits (a:Int))=BitVec.ofNat 64 a:=vv0 64 a;have e2:(BitVec.ofInt IntKind.i64.bits (b:Int))=BitVec.ofNat 64 b:=vv0 64 b;rw[e1,e2];have e3:(BitVec.ofNat 64 a ||| BitVec.ofNat 64 b).toNat=a ||| b:=by
  rw[BitVec.toNat_or,uue,uue,wwp (by omega),wwp (by omega)]
 show IntKind.i64.wrap (((BitVec.ofNat 64 a ||| BitVec.ofNat 64 b).toNat:Nat):Int)=_;rw[e3,xxz _ (by omega)]
def Ky{a b k:Nat}{K:Ε->Prop}(ha:a*2 ^ k<9223372036854775808)(hb:b<2 ^ k)(o8:b<9223372036854775808)(h:K (Γ ((a*2 ^ k+b:Nat):Int))):zc .or (Γ ((a*2 ^ k:Nat):Int)) (Γ (b:Int)) K:=by
 refine⟨_,orW ha o8,?_⟩;have:a*2 ^ k ||| b=a*2 ^ k+b:=by rw[<- ttf,Nat.shiftLeft_add_eq_or_of_lt hb]
 rw[this];exact h
def Y6{a n:Nat}{K:Ε->Prop}(hn:n<=64)(ha:a*2 ^ n<9223372036854775808)(h:K (Γ ((a*2 ^ n:Nat):Int))):zc .shl (Γ (a:Int)) (.int .u64 (n:Int)) K:=by
 refine⟨Γ ((a*2 ^ n:Nat):Int),?_,h⟩;have h1:¬((n:Int)<0):=by omega
 simp only[jA,h1,wwb];rw[show min (n:Int).toNat IntKind.i64.bits=n by simp only[IntKind.bits];omega];congr 2;rw[show (a:Int)*2 ^ n=((a*2 ^ n:Nat):Int) by push_cast;rfl];exact xxz _ (by omega)
def tY(X:Μ)(q:Φ)(r:Ε)(post:Β):Prop:=match gY q with
 | .error e=>r= .tuple #[Θ,Γ 0,Γ e]/\post=[X]
 | .ok (p,n)=>∃u,r= .tuple #[u,Γ (n:Nat),Γ 0]/\post=[.ob (bR u 5 1 p.length (p.map cX)),X]
def tY.er{X:Μ}{q:Φ}{e:Int}(h:gY q= .error e):tY X q (.tuple #[Θ,Γ 0,Γ e]) [X]:=by
 unfold tY;rw[h];exact⟨rfl,rfl⟩
def tY.ok{X:Μ}{q p:Φ}{n:Nat}(h:gY q= .ok (p,n))(u:Ε):tY X q (.tuple #[u,Γ (n:Nat),Γ 0]) [.ob (bR u 5 1 p.length (p.map cX)),X]:=by
 unfold tY;rw[h];exact⟨u,rfl,rfl⟩
def cCy{q:Φ}(h:q.length<8):gY q= .error 2:=by unfold gY;rw[zzd h]
def cCz{q:Φ}(h:8<=q.length)(h2:1048576<jg q):gY q= .error 3:=by unfold gY;rw[zzb (wwr.2 h),zzd h2]
def cC0{q:Φ}(h:8<=q.length)(h2:jg q<=1048576)(h3:q.length<8+jg q):gY q= .error 2:=by unfold gY;rw[zzb (wwr.2 h),zzb (wwr.2 h2),zzd h3]
def cC1{q:Φ}(h:8<=q.length)(h2:jg q<=1048576)(h3:8+jg q<=q.length)(h4:four (sumOf ((q.drop 8).take (jg q)))≠(q.drop 4).take 4):gY q= .error 4:=by unfold gY;rw[zzb (wwr.2 h),zzb (wwr.2 h2),zzb (wwr.2 h3),zzd h4]
def cC3{q:Φ}(h:8<=q.length)(h2:jg q<=1048576)(h3:8+jg q<=q.length)(h4:four (sumOf ((q.drop 8).take (jg q)))=(q.drop 4).take 4):gY q= .ok ((q.drop 8).take (jg q),8+jg q):=by unfold gY;rw[zzb (wwr.2 h),zzb (wwr.2 h2),zzb (wwr.2 h3),zzb (not_not_intro h4)]
def YR(X:Μ)(v:Ε)(q:Φ)(hq:dS X v q)(hN:q.length<=140737488355328):SP 324 [v] [X] (tY X q):=by
 refine Enzz λW F w hS=>?_;apply cJl;delta OI aI a_ cL ai bI;refine yp hS .hd hq ?_;refine bZ (λh=>?_) (λh=>?_)
 ·exact⟨_,.er (cCy (by omega)),hS⟩
 have h8:8<=q.length:=by omega
 refine Gn λw hS=>?_;have g0:=q[0].toNat_lt;have g1:=q[1].toNat_lt;have g2:=q[2].toNat_lt;have g3:=q[3].toNat_lt;have hn:jg q=((q[0].toNat*2 ^ 24+q[1].toNat*2 ^ 16)+q[2].toNat*2 ^ 8)+q[3].toNat:=by
  unfold jg;have hd:∀i (h:i<q.length),q.getD i 0=q[i]:=λi h=>by simp[vva,h]
  rw[hd 0 (by omega),hd 1 (by omega),hd 2 (by omega),hd 3 (by omega)]
 refine yX (j:=0) hS .hd hq (by omega) ?_;refine yy (by omega) ?_;refine Y6 (n:=24) (by omega) (by omega) ?_;refine yX (j:=1) hS .hd hq (by omega) ?_;refine yy (by omega) ?_;refine Y6 (n:=16) (by omega) (by omega) ?_;refine Ky (k:=24) (by omega) (by omega) (by omega) ?_;refine yX (j:=2) hS .hd hq (by omega) ?_;refine yy (by omega) ?_;refine Y6 (n:=8) (by omega) (by omega) ?_;rw[show q[0].toNat*2 ^ 24+q[1].toNat*2 ^ 16=(q[0].toNat*2 ^ 8+q[1].toNat)*2 ^ 16 by omega];refine Ky (k:=16) (by omega) (by omega) (by omega) ?_;refine yX (j:=3) hS .hd hq (by omega) ?_;refine yy (by omega) ?_;rw[show (q[0].toNat*2 ^ 8+q[1].toNat)*2 ^ 16+q[2].toNat*2 ^ 8=((q[0].toNat*2 ^ 8+q[1].toNat)*2 ^ 8+q[2].toNat)*2 ^ 8 by omega];refine Ky (k:=8) (by omega) (by omega) (by omega) ?_;rw[show ((q[0].toNat*2 ^ 8+q[1].toNat)*2 ^ 8+q[2].toNat)*2 ^ 8+q[3].toNat=jg q by omega];clear hn g0 g1 g2 g3;have de:=b_4 q;generalize hk:jg q=k at *
 refine bZ (λh2=>?_) (λh2=>?_)
 ·exact⟨_,.er (cCz h8 (by omega)),hS⟩
 refine yp hS .hd hq ?_;refine Zy (a:=8) (b:=k) (by omega) ?_;refine bZ (λh3=>?_) (λh3=>?_)
 ·exact⟨_,.er (cC0 h8 (by omega) (by omega)),hS⟩
 refine Zy (a:=8) (b:=k) (by omega) ?_;refine WR (lo:=8) (hi:=8+k) hS .hd hq (by omega) (by omega) ?_;intro v44 E5;rw[show 8+k-8=k by omega]at E5
 have cOg:((q.drop 8).take k).length=k:=by rw[zzg,zzq];omega
 generalize hp:(q.drop 8).take k=p at *
 obtain⟨a,c,e,hc⟩:=E5.sl hS .hd;subst e;refine Cc (VW X _ p E5 (by omega)) ?_;clear hS;rintro v9 post ⟨u,rfl,rfl⟩ w hS;(try simp only[app]at hS);obtain⟨au,cu,e,_⟩:=bR.at hS .hd;subst e;refine Gm λb w hS=>?_;refine WR (lo:=4) (hi:=8) hS Xh hq (by omega) (by omega) ?_;intro v49 S9;rw[show 8-4=4 from rfl]at S9
 refine Cc (Qt (.ob (bR (.slice au 4 cu) 5 1 4 ((four (sumOf p)).map cX))) X _ v49 (four (sumOf p)) ((q.drop 4).take 4) (dS.own (b:=four (sumOf p))) S9 (by rw[AR];omega)) ?_;clear hS;rintro v post ⟨rfl,rfl⟩ w hS;(try simp only[app]at hS);refine z7 ?_;by_cases h4:four (sumOf p)=(q.drop 4).take 4
 ·rw[zzm h4];refine zp ?_;refine Gp ?_;refine Zn (cs:=p.map cX) hS (λw' c gE=>E5.src gE Xh) (by simp) (uY _) (by omega) ?_;clear hS;intro u' w hS _;refine Zy (a:=8) (b:=k) (by omega) ?_;have ht:=cC3 h8 (by omega) (by omega) (by rw[hk,hp];exact h4);rw[hk,hp]at ht
  exact⟨_,.ok ht u',aW hS⟩
 rw[zz2 h4];refine zq ?_;exact⟨_,.er (cC1 h8 (by omega) (by omega) (by rw[hk,hp];exact h4)),aW hS⟩

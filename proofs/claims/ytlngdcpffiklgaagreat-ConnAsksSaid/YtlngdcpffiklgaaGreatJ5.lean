/- Part. -/
import Derived.Test.YtlngdcpffiklgaaGreatJ4
import Derived.Lib.AppendZerosOnto
namespace Go.Proofs.YtlngdcpffiklgaaGreat
set_option linter.all false
set_option maxRecDepth 100000
open Go.RowKit Go.Proofs.Tryz
def ttg:=@List.map_drop
def ww7:=@List.take_add_one
def xxv:=@underlying198
def yyy:=@List.flatten_append
def xx8:=@List.flatten_nil
def vv2:=@BitVec.ofInt_natCast
def uuf:=@BitVec.toNat_ofNat
def tti:=@Nat.shiftLeft_eq
def RM(a:Addr)(i j:Nat):(a.add i).add j=a.add (i+j):=by
 unfold Addr.add;by_cases hi:i=0
 ·subst hi;simp
 by_cases hj:j=0
 ·subst hj;simp[hi]
 rw[zzb hi,zzb hj,zzb (by omega)];simp[vvk]
structure dX(X:Μ)(v:Ε)(b:Φ):Prop where
 sl:∀{W w:Ζ} {l:Β},SL W l w->Has X l->∃a c,v= .slice a b.length c/\b.length<=c
 src:∀{W w:Ζ} {l:Β},SL W l w->Has X l->kL w 1 v b.length (b.map dd)
def dX.own{v:Ε}{t:Ι}{b:Φ}:dX (.ob (bF v t 1 b.length (b.map dd))) v b:=
 ⟨λh m=>by
  obtain⟨l2,r⟩:=m.rem;rcases bF.open (h.perm r.perm) with ⟨⟨a',rfl⟩,h0,_,_⟩|⟨b',ES,rest,rfl,hc,_⟩
  ·rw[h0];exact⟨a',0,rfl,zzi _⟩
  exact⟨_,_,rfl,hc⟩,λh m=>nG h m⟩
def dX.nil{X:Μ}{a:Option Addr}{c:Nat}:dX X (.slice a 0 c) []:=
 ⟨λ_ _=>⟨a,c,rfl,zz4 _⟩,λ_ _=>by cases a with|none=>exact⟨rfl,rfl⟩|some p=>exact⟨rfl,rfl,λj v e=>by simp at e⟩⟩
def dX.sub{X:Μ}{a:Option Addr}{n c l h:Nat}{b:Φ}(hb:dX X (.slice a n c) b)(hn:n=b.length)(hc:n<=c)(h1:l<=h)(h2:h<=n):dX X (.slice (if c=l then a else a.map (·.add (l*1))) (h-l) (c-l)) ((b.drop l).take (h-l)):=by
 have hlen:((b.drop l).take (h-l)).length=h-l:=by rw[zzg,zzs];omega
 refine⟨λ_ _=>⟨_,_,by rw[hlen],by omega⟩,λhS m=>?_⟩;have hs:=hb.src hS m;rw[wwq];by_cases mP:c=l
 ·rw[zzd mP];have:(b.drop l).take (h-l)=[]:=zzl (by omega);rw[this];have e0:h-l=0:=by omega
  rw[e0];cases a with
  | none=>exact⟨rfl,rfl⟩
  | some p=>exact⟨rfl,rfl,λj v e=>by simp at e⟩
 rw[zzb mP];cases a with
 | none=>
  obtain⟨e1,e2⟩:=hs;have:b=[]:=by simpa using e2
  subst this;exact⟨hlen,by simp⟩
 | some p=>
  obtain⟨e1,e2,e3⟩:=hs;refine⟨hlen,by simp,λj v e=>?_⟩;rw[RM];refine e3 (l+j) v ?_;rw[List.map_take,ttg,uue]at e
  split at e
  ·rw[www]at e;exact e
  cases e
section
variable {W w:Ζ} {l:Β} {X:Μ} {v:Ε} {b:Φ}
def dX.one(hb:dX X v b)(hS:SL W l w)(m:Has X l):v.oneCell'=true:=by
 obtain⟨a,c,rfl,_⟩:=hb.sl hS m;rfl
def yq{K:Ε->Prop}(hS:SL W l w)(m:Has X l)(hb:dX X v b)(k:K (Γ b.length)):zd v K:=by
 obtain⟨a,c,rfl,_⟩:=hb.sl hS m;exact z7 k
def y0{j:Nat}{kk:IntKind}{K:Ε->Prop}(hS:SL W l w)(m:Has X l)(hb:dX X v b)(hj:j<b.length)(hK:K (dd b[j])):zk 1 v (.int kk (j:Int)) λp=>cC p w K:=by
 obtain⟨a,c,rfl,_⟩:=hb.sl hS m;have hs:=hb.src hS m;cases a with
 | none=>
  have:b=[]:=by simpa using hs.2
  subst this;simp at hj
 | some p=>
  refine⟨p,_,c,kk,j,rfl,rfl,hj,?_⟩;refine⟨_,_,rfl,(by rw[wwq];exact hs.2.2 j (dd b[j]) (by simp[hj])),?_⟩;exact hK
def XD{lo hi:Nat}{k1 k2:IntKind}{K:Ε->Prop}(hS:SL W l w)(m:Has X l)(hb:dX X v b)(h1:lo<=hi)(h2:hi<=b.length)(hK:∀u,dX X u ((b.drop lo).take (hi-lo))->K u):eT 1 v (some (.int k1 (lo:Int))) (some (.int k2 (hi:Int))) none K:=by
 obtain⟨a,c,rfl,hc⟩:=hb.sl hS m;exact⟨a,_,c,lo,hi,c,rfl,rfl,⟨k2,rfl⟩,⟨k1,rfl⟩,h1,by omega,zzi _,hK _ (hb.sub rfl hc h1 h2)⟩
def XF{lo:Nat}{k1:IntKind}{K:Ε->Prop}(hS:SL W l w)(m:Has X l)(hb:dX X v b)(h1:lo<=b.length)(hK:∀u,dX X u (b.drop lo)->K u):eT 1 v (some (.int k1 (lo:Int))) none none K:=by
 obtain⟨a,c,rfl,hc⟩:=hb.sl hS m;refine⟨a,_,c,lo,b.length,c,rfl,rfl,rfl,⟨k1,rfl⟩,h1,hc,zzi _,hK _ ?_⟩;have:=hb.sub rfl hc h1 (zzi _)
 rwa [show (b.drop lo).take (b.length-lo)=b.drop lo from zz7 (by simp)]at this
def XE{hi:Nat}{k2:IntKind}{K:Ε->Prop}(hS:SL W l w)(m:Has X l)(hb:dX X v b)(h2:hi<=b.length)(hK:∀u,dX X u (b.take hi)->K u):eT 1 v none (some (.int k2 (hi:Int))) none K:=by
 obtain⟨a,c,rfl,hc⟩:=hb.sl hS m;refine⟨a,_,c,0,hi,c,rfl,rfl,⟨k2,rfl⟩,rfl,zz4 _,by omega,zzi _,hK _ ?_⟩;have:=hb.sub rfl hc (zz4 hi) h2;simpa using this
def XJ{a b:Int}{K:Ε->Prop}(h:K (.int .u32 (B3 a b))):zc .xor (.int .u32 a) (.int .u32 b) K:=⟨_,rfl,h⟩
def cGc{a b:Int}{K:Ε->Prop}(h:K (.int .u32 (RQ a b))):zc .and (.int .u32 a) (.int .u32 b) K:=⟨_,rfl,h⟩
def Xy{a:Int}{K:Ε->Prop}(h:K (.int .u32 (EY a))):B8 (.int .u32 a) K:=⟨_,_,rfl,h⟩
def Z1{a:Int}{n:Nat}(hn:n<=32){K:Ε->Prop}(h:K (.int .u32 (a.fdiv (2 ^ n)))):zc .shr (.int .u32 a) (.int .u64 (n:Int)) K:=by
 refine⟨.int .u32 (a.fdiv (2 ^ n)),?_,h⟩;have h1:¬((n:Int)<0):=by omega
 simp only[jJ,h1,wwd];rw[show min (n:Int).toNat IntKind.u32.bits=n by simp only[IntKind.bits];omega]
end
def wrap_u32{n:Int}(h0:0<=n)(h1:n<4294967296):IntKind.u32.wrap n=n:=by
 simp only[IntKind.wrap,IntKind.bits,IntKind.signed];simp;omega
def cIz(c:Int)(x:Κ):SP 395 [.int .u32 c,dd x] [] (cE (.int .u32 (K8 c x)) []):=by
 refine Enzz λW F w hS=>?_;apply cR0;delta aI ai;refine zW ?_;rw[wrap_u32 (by omega) (by have:=x.toNat_lt;omega)];refine XJ ?_;refine⟨λvs w=>∃i:Nat,i<=8/\vs=[.int .u32 (Cw i (B3 c x.toNat)),Γ i]/\SL W F w,λvs _=>match vs with
  | [_,.int _ i]=>8-i.toNat
  | _=>0,⟨0,by omega,rfl,hS⟩,?_⟩
 rintro v1 v2 w1 ⟨i,hi,hv,hS⟩;cases hv;refine cA (λh=>?_) (λh=>?_)
 ·refine cGc ?_;refine Xz ?_;refine Z1 (n:=1) (by omega) ?_;have hb:Cw (i+1) (B3 c x.toNat)=EP (Cw i (B3 c x.toNat)):=rfl;refine za (λh2=>?_) (λh2=>?_)
  ·refine XJ ?_;refine Gp ?_;refine⟨⟨i+1,by omega,?_,hS⟩,?_⟩
   ·rw[hb,EP,zzd h2]
   simp only[zzz];omega
  refine Gp ?_;refine⟨⟨i+1,by omega,?_,hS⟩,?_⟩
  ·rw[hb,EP,zzb h2]
  simp only[zzz];omega
 obtain rfl:i=8:=by omega
 exact⟨_,⟨rfl,rfl⟩,hS⟩
def YR(X:Μ)(s:Int)(v:Ε)(b:Φ)(hb:dX X v b)(hN:b.length<=140737488355328):SP 390 [.int .u32 s,v] [X] (cE (.int .u32 (wj s b)) [X]):=by
 refine Enzz λW F w hS=>?_;apply cRz;delta aI ai;refine Xy ?_;refine yq hS .hd hb ?_;refine⟨λvs w=>∃i:Nat,i<=b.length/\vs=[.int .u32 ((b.take i).foldl K8 (EY s)),Γ i]/\SL W (X::F) w,λvs _=>match vs with
  | [_,.int _ i]=>b.length-i.toNat
  | _=>0,⟨0,by omega,rfl,hS⟩,?_⟩
 rintro v1 v2 w1 ⟨i,hi,hv,hS⟩;cases hv;refine cA (λh=>?_) (λh=>?_)
 ·have hi:i<b.length:=by omega
  refine y0 hS .hd hb hi ?_;refine Cg (cIz _ _) λw hS=>?_;refine⟨⟨i+1,by omega,?_,aR hS⟩,?_⟩
  ·rw[show b.take (i+1)=b.take i++[b[i]] by rw[ww7];simp[hi],ww6];rfl
  simp only[zzz];omega
 obtain rfl:i=b.length:=by omega
 refine Xy ?_;rw[zz0];exact⟨_,⟨rfl,rfl⟩,hS⟩
def cI6(X Y:Μ)(v u:Ε)(b c:Φ)(hb:dX X v b)(hc:dX Y u c)(hN:b.length<=140737488355328)(hM:c.length<=140737488355328)(p:Nat)(t:Ι):
  SP 376 [.slice (some ⟨p,0,none⟩) 2 2] [.pt p [u,v] t,X,Y] (cE (.int .u32 (wj (wj 0 c) b)) [X,Y]):=by
 refine Enzz λW F w hS=>?_;apply cRw;delta aI ai;refine Gp ?_;refine⟨λvs w=>(vs=[.int .u32 0,Γ 0]\/vs=[.int .u32 (wj 0 c),Γ 1]\/vs=[.int .u32 (wj (wj 0 c) b),Γ 2])/\SL W (.pt p [u,v] t::X::Y::F) w,λvs _=>match vs with
  | [_,.int _ i]=>2-i.toNat
  | _=>0,⟨.inl rfl,hS⟩,?_⟩
 rintro v1 v2 w1 ⟨hv,hS⟩;rcases hv with hv|hv|hv<;>cases hv
 ·refine Gp ?_;refine za (λh=>?_) (λh=>by omega);refine zG (j:=0) (by omega) ?_;refine zT hS Xh rfl ?_;refine Cg (YR Y 0 u c hc hM) λw hS=>?_;exact⟨⟨.inr (.inl rfl),aR hS⟩,Nat.lt_succ_self _⟩
 ·refine Gp ?_;refine za (λh=>?_) (λh=>by omega);refine zG (j:=1) (by omega) ?_;refine zT hS Xh rfl ?_;refine Cg (YR X _ v b hb hN) λw hS=>?_;exact⟨⟨.inr (.inr rfl),aR hS⟩,Nat.lt_succ_self _⟩
 refine Gp ?_;refine za (λh=>by omega) (λh=>?_);(exact cF hS)
def Xv{P:Program}{w:Ζ}{t e ty:Ι}{a:Option Addr}{n c:Nat}{K:Ε->Prop}(ht:P.underlying t=some (.slice e))(h:K (Γ c)):eS P (Builtin.cap_ #[t] ty #[.slice a n c]) w K:=by
 refine⟨_,?_,h⟩;simp[Builtin.cap_,zzy ht,Result.andThen,goInt]
def wrap_u8(n:Int):Value.int .u8 (IntKind.u8.wrap n)=dd (gY n):=(cAo n).symm
def wrap_u64{n:Int}(h0:0<=n)(h1:n<18446744073709551616):IntKind.u64.wrap n=n:=by
 simp only[IntKind.wrap,IntKind.bits,IntKind.signed];simp;omega
def YK(x:Int):SP 375 [.int .u32 x] [] (λv post=>post=[.ob (bF v 5 1 4 ((four x).map dd))]):=by
 refine Enzz λW F w hS=>?_;apply cRv;refine Z1 (n:=24) (by omega) ?_;refine zW ?_;refine Z1 (n:=16) (by omega) ?_;refine zW ?_;refine Z1 (n:=8) (by omega) ?_;refine zW ?_;refine zW ?_;rw[wrap_u8,wrap_u8,wrap_u8,wrap_u8];refine zM (cells:=(four x).map dd) hS rfl ?_;intro b w' fY;exact⟨_,rfl,bF.full (n:=4) rfl fY⟩
def Y2(a:Option Addr)(n c:Nat)(hn:n<=1048576):SP 354 [.agg #[.slice a n c]] [] (λv post=>post=[.ob (bF v 5 1 4 ((four n).map dd))]):=by
 refine Enzz λW F w hS=>?_;apply cRj;delta a_;refine⟨[.slice a n c],rfl,?_⟩;refine Gm λb w hS=>?_;refine zW ?_;rw[wrap_u32 (by omega) (by omega)];refine Cc (YK n) ?_;clear hS;(rintro v post rfl w hS;(try simp only[app]at hS);(repeat (first|refine Gp ?_|refine Gw λw hS=>?_|refine Gb λb w hS=>?_)))
 exact⟨_,rfl,aR hS⟩
def Wx(X:Μ)(v:Ε)(q:Φ)(hb:dX X v q)(hN:q.length<=1048576):SP 353 [v] [X] (λr post=>∃u,r= .agg #[v,u]/\post=[.ob (bF u 5 1 4 ((four (sumOf q)).map dd)),X]):=by
 refine Enzz λW F w hS=>?_;apply cRi;delta bR;obtain⟨a,c,rfl,hc⟩:=hb.sl hS .hd;refine Gm λb w hS=>?_;refine Gm λb w hS=>?_;refine Cc (Y2 a q.length c hN) ?_;clear hS;rintro v8 post rfl w hS;(try simp only[app]at hS);have h8:=hS.rQ .hd;refine Gp ?_;refine zM (cells:=[v8,.slice a q.length c]) hS ?_ ?_
 ·obtain⟨a8,c8,e,_⟩:=bF.at hS .hd;subst e;rfl
 clear hS;intro p w hS;refine Gp ?_;refine Cg (cI6 X (.ob (bF v8 5 1 4 ((four q.length).map dd))) (.slice a q.length c) v8 q (four q.length) hb (dX.own (b:=four q.length)) (by omega) (by rw[A1];omega) p _) λw hS=>?_;refine Cc (YK (sumOf q)) ?_;clear hS;rintro v12 post rfl w hS;(try simp only[app]at hS);have dF:=hS.rQ .hd;obtain⟨a12,Cy,e,_⟩:=bF.at hS .hd;subst e;refine Gn λw hS=>?_;exact⟨_,⟨_,rfl,rfl⟩,aR hS⟩
def QC(X Y:Μ)(v u:Ε)(b c:Φ)(hb:dX X v b)(hc:dX Y u c)(hN:b.length<=140737488355328):
  SP 364 [v,u] [X,Y] (cE (.bool (decide (b=c))) [X,Y]):=by
 refine Enzz λW F w hS=>?_;apply cRm;delta aI cz ai;refine yq hS .hd hb ?_;refine yq hS Xh hc ?_;refine cA (λh=>?_) (λh=>?_)
 ·rw[show decide (b=c)=false from zz3 (λe=>h (by rw[e]))];(exact cF hS)
 have hl:b.length=c.length:=by omega
 refine yq hS .hd hb ?_;refine⟨λvs w=>∃i:Nat,i<=b.length/\vs=[Γ i]/\b.take i=c.take i/\SL W (X::Y::F) w,λvs _=>match vs with
  | [.int _ i]=>b.length-i.toNat
  | _=>0,⟨0,by omega,rfl,by simp,hS⟩,?_⟩
 rintro v1 w1 ⟨i,hi,hv,he,hS⟩;cases hv;refine cA (λh=>?_) (λh=>?_)
 ·have hi:i<b.length:=by omega
  have hj:i<c.length:=by omega
  refine Gn λw hS=>?_;refine y0 hS .hd hb hi ?_;refine y0 hS Xh hc hj ?_;refine BR ?_;refine za (λh2=>?_) (λh2=>?_)
  ·rw[show decide (b=c)=false from zz3 (λe=>h2 (by subst e;rfl))];(exact cF hS)
  refine Gp ?_;have e1:b[i]=c[i]:=by
   apply UInt8.toNat_inj.1;omega
  refine⟨⟨i+1,by omega,rfl,?_,hS⟩,?_⟩
  ·rw[ww7,ww7,he];simp[hi,hj,e1]
  simp only[zzz];omega
 obtain rfl:i=b.length:=by omega
 have e:b=c:=by
  rw[zz0]at he
  rw[he,hl,zz0]
 rw[show decide (b=c)=true from zzo e];(exact cF hS)
def Tryz.Vp:(prog.info? 5).map (λi=>(i.zero,i.size,i.bytes))=some (some (.int .u8 0),1,1):=by kernel_rfl
def bWx(n:Nat)(hn:n<=140737488355328):SP 366 [Θ,Γ n] [] (λv post=>post=[.ob (bF v 5 1 0 [])]):=by
 refine Enzz λW F w hS=>?_;apply cRo;delta aI ai;refine Gp ?_;refine za (λh=>by omega) (λh=>?_);refine Xv xxv ?_;refine cA (λh=>?_) (λh=>?_)
 ·refine Xv xxv ?_;refine⟨none,0,0,0,0,0,rfl,rfl,⟨_,rfl⟩,rfl,zzi _,zzi _,zzi _,?_⟩;have hk:0<n:=by omega
  have e:(n:Int)-(((0:Nat):Int)-((0:Nat):Int))=((n:Nat):Int):=by omega
  rw[e];cases hi:prog.info? 5 with
  | none=>have:=Tryz.Vp;rw[hi]at this;cases this
  | some i=>
   have hI:=Tryz.Vp;rw[hi]at hI
   simp only[yyi,ttd,wwl]at hI;obtain⟨h1,h2,h3⟩:=hI;have px:Builtin.nextslicecap (0+n) 0=n:=by
    unfold Builtin.nextslicecap;simp[hk]
   have xW:=Go.Lib.run_append_grow_zeros (P:=prog) w 198 3 198 5 i (.int .u8 0) .i64 .i64 xxv yyd hi h1 none 0 0 [] (by rw[h2];exact run_firstCells_none w.drew 1 0 _ _) n hk (by omega) (by omega) (by omega) (by rw[h3];omega) (by rw[px,h3];omega);refine⟨_,_,xW,?_⟩;generalize T9:grownCap w (0+n) 0 5=cp;have xG:n<=cp:=by
    have:=grownCap_ge w (0+n) 0 5;omega
   refine z7 ?_;refine⟨_,_,_,0,0,cp,rfl,rfl,⟨_,rfl⟩,rfl,zzi _,zz4 _,zzi _,?_⟩;refine⟨_,rfl,?_⟩;have hb:(if cp=0 then (some (⟨w.heap.size,0,none⟩:Addr)) else (some (⟨w.heap.size,0,none⟩:Addr)).map (·.add (0*1)))=some ⟨w.heap.size,0,none⟩:=by
    split
    ·rfl
    simp[Addr.add]
   rw[hb,xxo,xxo];refine bF.mk (cells:=[]) (rest:=cQ [.int .u8 0] n++cQ [.int .u8 0] (cp-n)) (zz4 _) rfl ?_ ?_
   ·rw[zza,l7,l7];simp;omega
   have hz:∀k,Builtin.zeroCells (Value.cells (.int .u8 0)) k=(cQ [.int .u8 0] k).toArray:=λk=>by
    rw[<- Lw (Value.cells (.int .u8 0)) [.int .u8 0] rfl k,Array.toArray_toList]
   rw[hz,hz,yya];have e2:([]:Ξ).toArray++(cQ [Value.int .u8 0] n).toArray++(cQ [Value.int .u8 0] (cp-n)).toArray=([]++(cQ [Value.int .u8 0] n++cQ [Value.int .u8 0] (cp-n))).toArray:=by simp
   rw[e2];exact SL.new hS.drew
 have:n=0:=by omega
 exact⟨_,rfl,bF.nil hS⟩
def Has.app{c:Μ}:∀{p F:Β},Has c p->Has c (app p F)
 | _::_,_,.hd=>.hd
 | _::_,_,.tl h=>.tl h.app
def Tp{α:Type}{bs:List (List α)}{i:Nat}(h:i<bs.length):(bs.take (i+1)).flatten=(bs.take i).flatten++bs[i]:=by
 rw[ww7,zzc h,yyy];simp only[Option.toList_some,zz9,xx8,zz2]
def Fc{α:Type}(bs:List (List α))(i:Nat):(bs.take i).flatten.length<=bs.flatten.length:=by
 have:bs.flatten=(bs.take i).flatten++(bs.drop i).flatten:=by rw[<- yyy,yyk]
 rw[this,zza];omega
def ZK(p n:Nat)(t:Ι)(vs:Ξ)(bs:List Φ)(Xs:Β)(hn:vs.length=n)(hb:bs.length=n)(hx:∀i (h:i<n),∃X,Has X Xs/\dX X (vs[i]'(by omega)) (bs[i]'(by omega)))(hN:bs.flatten.length<=100000000)(xP:n<=100):
  SP 330 [.slice (some ⟨p,0,none⟩) n n] (.pt p vs t::Xs) (λv post=>post= .ob (bF v 5 1 bs.flatten.length (bs.flatten.map dd))::Xs):=by
 refine Enzz λW F w hS=>?_;apply cQ3;delta aI ai bR;refine Gp ?_;refine⟨λus w=>∃i:Nat,i<=n/\us=[Γ ((bs.take i).flatten.length:Nat),Γ i]/\SL W (.pt p vs t::app Xs F) w,λus _=>match us with
  | [_,.int _ i]=>n-i.toNat
  | _=>0,⟨0,by omega,by simp,hS⟩,?_⟩
 rintro v1 v2 w1 ⟨i,hi,hv,hS⟩;cases hv;have hle:=Fc bs i;refine cA (λh=>?_) (λh=>?_)
 ·have hi:i<n:=by omega
  obtain⟨X,hX,hr⟩:=hx i hi;refine zG (j:=i) hi ?_;refine zT hS .hd (v:=vs[i]'(by omega)) (by rw[zzc (by omega)];congr 2;omega) ?_;refine yq hS (.tl hX.app) hr ?_;have e:=Tp (bs:=bs) (i:=i) (by omega);have cn6:=Fc bs (i+1);have el:(bs.take (i+1)).flatten.length=(bs.take i).flatten.length+(bs[i]'(by omega)).length:=by rw[e,zza]
  refine Gp ?_;refine za (λh=>by omega) (λh=>?_);refine Gp ?_;refine⟨⟨i+1,by omega,?_,hS⟩,?_⟩
  ·rw[el]
  simp only[zzz];omega
 obtain rfl:i=n:=by omega
 have ef:bs.take i=bs:=zz7 (by omega);rw[ef];refine yK (F:=.pt p vs t::app Xs F) (bWx bs.flatten.length (by omega)) hS gE.nil ?_;clear hS;rintro v post rfl w hS;(try simp only[app]at hS);refine Gp ?_;refine⟨λus w=>∃(j:Nat) (u:Ε),j<=i/\us=[u,Γ j]/\SL W (.ob (bF u 5 1 (bs.take j).flatten.length ((bs.take j).flatten.map dd))::.pt p vs t::app Xs F) w,λus _=>match us with
  | [_,.int _ j]=>i-j.toNat
  | _=>0,⟨0,v,by omega,rfl,hS⟩,?_⟩
 rintro v1 v2 w2 ⟨j,u,hj,hv,hS⟩;cases hv;have hle:=Fc bs j;refine cA (λh=>?_) (λh=>?_)
 ·have hj:j<i:=by omega
  obtain⟨X,hX,hr⟩:=hx j hj;refine zG (j:=j) hj ?_;refine zT hS Xh (v:=vs[j]'(by omega)) (by rw[zzc (by omega)];congr 2;omega) ?_;have e:=Tp (bs:=bs) (i:=j) (by omega);have cn6:=Fc bs (j+1);have el:(bs.take (j+1)).flatten.length=(bs.take j).flatten.length+(bs[j]'(by omega)).length:=by rw[e,zza]
  refine zJ hS .hd (hr.src hS (.tl (.tl hX.app))) (by simp) rfl (vk _) (by omega) (by omega) ?_;clear hS;intro v' w hS;refine Gp ?_;refine⟨⟨j+1,v',by omega,rfl,?_⟩,?_⟩
  ·rw[el,e,zzt];exact hS
  simp only[zzz];omega
 obtain rfl:j=i:=by omega
 rw[ef]at hS
 exact⟨_,rfl,SL.cD hS (.cons .hd (by
  have:j_ (app Xs F) (.pt p vs t::app Xs F):=j_.drop .refl;exact this))⟩
def s7(X:Μ)(q:Φ)(r:Ε)(post:Β):Prop:=
 if 1048576<q.length then r= .tuple #[Θ,Γ 1]/\post=[X]
 else ∃u,r= .tuple #[u,Γ 0]/\post=[.ob (bF u 5 1 (dm q).length ((dm q).map dd)),X]
def s7.big{X:Μ}{q:Φ}(h:1048576<q.length):s7 X q (.tuple #[Θ,Γ 1]) [X]:=by
 unfold s7;rw[zzd h];exact⟨rfl,rfl⟩
def s7.ok{X:Μ}{q:Φ}(h:q.length<=1048576)(u:Ε):s7 X q (.tuple #[u,Γ 0]) [.ob (bF u 5 1 (dm q).length ((dm q).map dd)),X]:=by
 unfold s7;rw[zzb (wwv.2 h)];exact⟨u,rfl,rfl⟩
def Yj(X:Μ)(v:Ε)(q:Φ)(hq:dX X v q)(hN:q.length<=140737488355328):SP 304 [v] [X] (s7 X q):=by
 refine Enzz λW F w hS=>?_;apply cQi;delta aI aW ai bR;refine yq hS .hd hq ?_;refine cA (λh=>?_) (λh=>?_)
 ·exact⟨_,.big (by omega),hS⟩
 obtain⟨a,c,rfl,hc⟩:=hq.sl hS .hd;refine Cc (Wx X _ q hq (by omega)) ?_;clear hS;rintro v9 post ⟨u,rfl,rfl⟩ w hS;(try simp only[app]at hS);have hu:=hS.rQ .hd;obtain⟨au,cu,e,_⟩:=bF.at hS .hd;subst e;refine Gm λb w hS=>?_;refine yC hS (vs:=[.slice a q.length c]) Xh rfl (λj v e=>?_) ?_
 ·match j,e with
  | 0,e=>exact e
 refine Gp ?_;refine Cc (Y2 a q.length c (by omega)) ?_;clear hS;rintro v12 post rfl w hS;(try simp only[app]at hS);obtain⟨a12,Cy,e,_⟩:=bF.at hS .hd;subst e;refine Gm λb w hS=>?_;refine yK (F:=_) (ZK _ 3 _ [_,_,_] [four q.length,four (sumOf q),q] [.ob (bF (.slice a12 4 Cy) 5 1 4 ((four q.length).map dd)),.ob (bF (.slice au 4 cu) 5 1 4 ((four (sumOf q)).map dd)),X] rfl rfl ?_ ?_ (by omega)) hS Xp ?_
 ·intro i hi
  match i,hi with
  | 0,_=>exact⟨_,.hd,dX.own (b:=four q.length)⟩
  | 1,_=>exact⟨_,.tl .hd,dX.own (b:=four (sumOf q))⟩
  | 2,_=>exact⟨_,.tl (.tl .hd),hq⟩
 ·simp[A1];omega
 clear hS;rintro v post rfl w hS;(try simp only[app]at hS);have e:[four q.length,four (sumOf q),q].flatten=dm q:=by simp[dm]
 rw[e]at hS
 exact⟨_,.ok (by omega) v,aR hS⟩
def orW{a b:Nat}(ha:a<9223372036854775808)(hb:b<9223372036854775808):jJ .or (Γ (a:Int)) (Γ (b:Int))=some (Γ ((a ||| b:Nat):Int)):=by
 have h:(a ||| b)<9223372036854775808:=Nat.or_lt_two_pow (n:=63) ha hb;simp only[jJ,wwm];congr 2;have e1:(BitVec.ofInt IntKind.i64.bits (a:Int))=BitVec.ofNat 64 a:=vv2 64 a;have e2:(BitVec.ofInt IntKind.i64.bits (b:Int))=BitVec.ofNat 64 b:=vv2 64 b;rw[e1,e2];have e3:(BitVec.ofNat 64 a ||| BitVec.ofNat 64 b).toNat=a ||| b:=by
  rw[BitVec.toNat_or,uuf,uuf,wwt (by omega),wwt (by omega)]
 show IntKind.i64.wrap (((BitVec.ofNat 64 a ||| BitVec.ofNat 64 b).toNat:Nat):Int)=_;rw[e3,xx1 _ (by omega)]
def K0{a b k:Nat}{K:Ε->Prop}(ha:a*2 ^ k<9223372036854775808)(hb:b<2 ^ k)(rF:b<9223372036854775808)(h:K (Γ ((a*2 ^ k+b:Nat):Int))):zc .or (Γ ((a*2 ^ k:Nat):Int)) (Γ (b:Int)) K:=by
 refine⟨_,orW ha rF,?_⟩;have:a*2 ^ k ||| b=a*2 ^ k+b:=by rw[<- tti,Nat.shiftLeft_add_eq_or_of_lt hb]
 rw[this];exact h
def qi{a n:Nat}{K:Ε->Prop}(hn:n<=64)(ha:a*2 ^ n<9223372036854775808)(h:K (Γ ((a*2 ^ n:Nat):Int))):zc .shl (Γ (a:Int)) (.int .u64 (n:Int)) K:=by
 refine⟨Γ ((a*2 ^ n:Nat):Int),?_,h⟩;have h1:¬((n:Int)<0):=by omega
 simp only[jJ,h1,wwd];rw[show min (n:Int).toNat IntKind.i64.bits=n by simp only[IntKind.bits];omega];congr 2;rw[show (a:Int)*2 ^ n=((a*2 ^ n:Nat):Int) by push_cast;rfl];exact xx1 _ (by omega)
def uh(X:Μ)(q:Φ)(r:Ε)(post:Β):Prop:=match gZ q with
 | .error e=>r= .tuple #[Θ,Γ 0,Γ e]/\post=[X]
 | .ok (p,n)=>∃u,r= .tuple #[u,Γ (n:Nat),Γ 0]/\post=[.ob (bF u 5 1 p.length (p.map dd)),X]
def uh.er{X:Μ}{q:Φ}{e:Int}(h:gZ q= .error e):uh X q (.tuple #[Θ,Γ 0,Γ e]) [X]:=by
 unfold uh;rw[h];exact⟨rfl,rfl⟩
def uh.ok{X:Μ}{q p:Φ}{n:Nat}(h:gZ q= .ok (p,n))(u:Ε):uh X q (.tuple #[u,Γ (n:Nat),Γ 0]) [.ob (bF u 5 1 p.length (p.map dd)),X]:=by
 unfold uh;rw[h];exact⟨u,rfl,rfl⟩
def cJl{q:Φ}(h:q.length<8):gZ q= .error 2:=by unfold gZ;rw[zzd h]
def cJm{q:Φ}(h:8<=q.length)(h2:1048576<jq q):gZ q= .error 3:=by unfold gZ;rw[zzb (wwv.2 h),zzd h2]
def cJn{q:Φ}(h:8<=q.length)(h2:jq q<=1048576)(h3:q.length<8+jq q):gZ q= .error 2:=by unfold gZ;rw[zzb (wwv.2 h),zzb (wwv.2 h2),zzd h3]
def cJo{q:Φ}(h:8<=q.length)(h2:jq q<=1048576)(h3:8+jq q<=q.length)(h4:four (sumOf ((q.drop 8).take (jq q)))≠(q.drop 4).take 4):gZ q= .error 4:=by unfold gZ;rw[zzb (wwv.2 h),zzb (wwv.2 h2),zzb (wwv.2 h3),zzd h4]
def cJq{q:Φ}(h:8<=q.length)(h2:jq q<=1048576)(h3:8+jq q<=q.length)(h4:four (sumOf ((q.drop 8).take (jq q)))=(q.drop 4).take 4):gZ q= .ok ((q.drop 8).take (jq q),8+jq q):=by unfold gZ;rw[zzb (wwv.2 h),zzb (wwv.2 h2),zzb (wwv.2 h3),zzb (not_not_intro h4)]
def Y3(X:Μ)(v:Ε)(q:Φ)(hq:dX X v q)(hN:q.length<=140737488355328):SP 320 [v] [X] (uh X q):=by
 refine Enzz λW F w hS=>?_;apply cQs;delta aI a_ cP ai bR;refine yq hS .hd hq ?_;refine cA (λh=>?_) (λh=>?_)
 ·exact⟨_,.er (cJl (by omega)),hS⟩
 have h8:8<=q.length:=by omega
 refine Gn λw hS=>?_;have g0:=q[0].toNat_lt;have g1:=q[1].toNat_lt;have g2:=q[2].toNat_lt;have g3:=q[3].toNat_lt;have hn:jq q=((q[0].toNat*2 ^ 24+q[1].toNat*2 ^ 16)+q[2].toNat*2 ^ 8)+q[3].toNat:=by
  unfold jq;have hd:∀i (h:i<q.length),q.getD i 0=q[i]:=λi h=>by simp[vvd,h]
  rw[hd 0 (by omega),hd 1 (by omega),hd 2 (by omega),hd 3 (by omega)]
 refine y0 (j:=0) hS .hd hq (by omega) ?_;refine yA (by omega) ?_;refine qi (n:=24) (by omega) (by omega) ?_;refine y0 (j:=1) hS .hd hq (by omega) ?_;refine yA (by omega) ?_;refine qi (n:=16) (by omega) (by omega) ?_;refine K0 (k:=24) (by omega) (by omega) (by omega) ?_;refine y0 (j:=2) hS .hd hq (by omega) ?_;refine yA (by omega) ?_;refine qi (n:=8) (by omega) (by omega) ?_;rw[show q[0].toNat*2 ^ 24+q[1].toNat*2 ^ 16=(q[0].toNat*2 ^ 8+q[1].toNat)*2 ^ 16 by omega];refine K0 (k:=16) (by omega) (by omega) (by omega) ?_;refine y0 (j:=3) hS .hd hq (by omega) ?_;refine yA (by omega) ?_;rw[show (q[0].toNat*2 ^ 8+q[1].toNat)*2 ^ 16+q[2].toNat*2 ^ 8=((q[0].toNat*2 ^ 8+q[1].toNat)*2 ^ 8+q[2].toNat)*2 ^ 8 by omega];refine K0 (k:=8) (by omega) (by omega) (by omega) ?_;rw[show ((q[0].toNat*2 ^ 8+q[1].toNat)*2 ^ 8+q[2].toNat)*2 ^ 8+q[3].toNat=jq q by omega];clear hn g0 g1 g2 g3;have dj:=cCk q;generalize hk:jq q=k at *
 refine cA (λh2=>?_) (λh2=>?_)
 ·exact⟨_,.er (cJm h8 (by omega)),hS⟩
 refine yq hS .hd hq ?_;refine ZH (a:=8) (b:=k) (by omega) ?_;refine cA (λh3=>?_) (λh3=>?_)
 ·exact⟨_,.er (cJn h8 (by omega) (by omega)),hS⟩
 refine ZH (a:=8) (b:=k) (by omega) ?_;refine XD (lo:=8) (hi:=8+k) hS .hd hq (by omega) (by omega) ?_;intro v44 Fk;rw[show 8+k-8=k by omega]at Fk
 have cWv:((q.drop 8).take k).length=k:=by rw[zzg,zzs];omega
 generalize hp:(q.drop 8).take k=p at *
 obtain⟨a,c,e,hc⟩:=Fk.sl hS .hd;subst e;refine Cc (Wx X _ p Fk (by omega)) ?_;clear hS;rintro v9 post ⟨u,rfl,rfl⟩ w hS;(try simp only[app]at hS);obtain⟨au,cu,e,_⟩:=bF.at hS .hd;subst e;refine Gm λb w hS=>?_;refine XD (lo:=4) (hi:=8) hS Xh hq (by omega) (by omega) ?_;intro v49 TG;rw[show 8-4=4 from rfl]at TG
 refine Cc (QC (.ob (bF (.slice au 4 cu) 5 1 4 ((four (sumOf p)).map dd))) X _ v49 (four (sumOf p)) ((q.drop 4).take 4) (dX.own (b:=four (sumOf p))) TG (by rw[A1];omega)) ?_;clear hS;rintro v post ⟨rfl,rfl⟩ w hS;(try simp only[app]at hS);refine z8 ?_;by_cases h4:four (sumOf p)=(q.drop 4).take 4
 ·rw[zzo h4];refine zp ?_;refine Gp ?_;refine Zs (cs:=p.map dd) hS (λw' c fY=>Fk.src fY Xh) (by simp) (vk _) (by omega) ?_;clear hS;intro u' w hS _;refine ZH (a:=8) (b:=k) (by omega) ?_;have ht:=cJq h8 (by omega) (by omega) (by rw[hk,hp];exact h4);rw[hk,hp]at ht
  exact⟨_,.ok ht u',aR hS⟩
 rw[zz3 h4];refine zq ?_;exact⟨_,.er (cJo h8 (by omega) (by omega) (by rw[hk,hp];exact h4)),aR hS⟩

/- Part of the proof. -/
import Derived.Test.YtmkllimamejcgaaGreatJ4
import Derived.Test.YtmkllimamejcgaaGreatQVcR
import Derived.Lib.AppendZerosOnto
namespace Go.Proofs.YtmkllimamejcgaaGreat
set_option linter.all false
set_option maxRecDepth 100000
open Go.RowKit
def ttd:=@List.map_drop
def wwr:=@List.take_add_one
def xxm:=@Tryz.underlying205
def yys:=@List.flatten_append
def xxx:=@List.flatten_nil
def vvw:=@BitVec.ofInt_natCast
def uub:=@BitVec.toNat_ofNat
def ttf:=@Nat.shiftLeft_eq
def Td(a:Addr)(i j:Nat):(a.add i).add j=a.add (i+j):=by
 unfold Addr.add;by_cases hi:i=0
 ·subst hi;simp
 by_cases hj:j=0
 ·subst hj;simp[hi]
 rw[zzb hi,zzb hj,zzb (by omega)];simp[ww9]
structure iV(X:Η)(v:Ω)(b:Δ):Prop where
 sl:∀{W w:Α} {l:Ψ},SL W l w->Has X l->∃a c,v= .slice a b.length c/\b.length<=c
 src:∀{W w:Α} {l:Ψ},SL W l w->Has X l->oZ w 1 v b.length (b.map ic)
def iV.own{v:Ω}{t:Ε}{b:Δ}:iV (.ob (bR v t 1 b.length (b.map ic))) v b:=
 ⟨λh m=>by
  obtain⟨l2,r⟩:=m.rem;rcases bR.open (h.perm r.perm) with ⟨⟨a',rfl⟩,h0,_,_⟩|⟨b',G8,rest,rfl,hc,_⟩
  ·rw[h0];exact⟨a',0,rfl,zzi _⟩
  exact⟨_,_,rfl,hc⟩,λh m=>sC h m⟩
def iV.nil{X:Η}{a:Option Addr}{c:Nat}:iV X (.slice a 0 c) []:=
 ⟨λ_ _=>⟨a,c,rfl,zz8 _⟩,λ_ _=>by cases a with|none=>exact⟨rfl,rfl⟩|some p=>exact⟨rfl,rfl,λj v e=>by simp at e⟩⟩
def iV.sub{X:Η}{a:Option Addr}{n c l h:Nat}{b:Δ}(hb:iV X (.slice a n c) b)(hn:n=b.length)(hc:n<=c)(h1:l<=h)(h2:h<=n):iV X (.slice (if c=l then a else a.map (·.add (l*1))) (h-l) (c-l)) ((b.drop l).take (h-l)):=by
 have hlen:((b.drop l).take (h-l)).length=h-l:=by rw[zzf,zzq];omega
 refine⟨λ_ _=>⟨_,_,by rw[hlen],by omega⟩,λhS m=>?_⟩;have hs:=hb.src hS m;rw[vvr];by_cases sj:c=l
 ·rw[zzc sj];have:(b.drop l).take (h-l)=[]:=zzo (by omega);rw[this];have e0:h-l=0:=by omega
  rw[e0];cases a with
  | none=>exact⟨rfl,rfl⟩
  | some p=>exact⟨rfl,rfl,λj v e=>by simp at e⟩
 rw[zzb sj];cases a with
 | none=>
  obtain⟨e1,e2⟩:=hs;have:b=[]:=by simpa using e2
  subst this;exact⟨hlen,by simp⟩
 | some p=>
  obtain⟨e1,e2,e3⟩:=hs;refine⟨hlen,by simp,λj v e=>?_⟩;rw[Td];refine e3 (l+j) v ?_;rw[List.map_take,ttd,uua]at e
  split at e
  ·rw[wwi]at e;exact e
  cases e
section
variable {W w:Α} {l:Ψ} {X:Η} {v:Ω} {b:Δ}
def iV.one(hb:iV X v b)(hS:SL W l w)(m:Has X l):v.oneCell'=true:=by
 obtain⟨a,c,rfl,_⟩:=hb.sl hS m;rfl
def yo{K:Ω->Prop}(hS:SL W l w)(m:Has X l)(hb:iV X v b)(k:K (.int .i64 b.length)):zd v K:=by
 obtain⟨a,c,rfl,_⟩:=hb.sl hS m;exact yc k
def yV{j:Nat}{kk:IntKind}{K:Ω->Prop}(hS:SL W l w)(m:Has X l)(hb:iV X v b)(hj:j<b.length)(hK:K (ic b[j])):zl 1 v (.int kk (j:Int)) λp=>cI p w K:=by
 obtain⟨a,c,rfl,_⟩:=hb.sl hS m;have hs:=hb.src hS m;cases a with
 | none=>
  have:b=[]:=by simpa using hs.2
  subst this;simp at hj
 | some p=>
  refine⟨p,_,c,kk,j,rfl,rfl,hj,?_⟩;refine⟨_,_,rfl,(by rw[vvr];exact hs.2.2 j (ic b[j]) (by simp[hj])),?_⟩;exact hK
def awi{lo hi:Nat}{k1 k2:IntKind}{K:Ω->Prop}(hS:SL W l w)(m:Has X l)(hb:iV X v b)(h1:lo<=hi)(h2:hi<=b.length)(hK:∀u,iV X u ((b.drop lo).take (hi-lo))->K u):kh 1 v (some (.int k1 (lo:Int))) (some (.int k2 (hi:Int))) none K:=by
 obtain⟨a,c,rfl,hc⟩:=hb.sl hS m;exact⟨a,_,c,lo,hi,c,rfl,rfl,⟨k2,rfl⟩,⟨k1,rfl⟩,h1,by omega,zzi _,hK _ (hb.sub rfl hc h1 h2)⟩
def awk{lo:Nat}{k1:IntKind}{K:Ω->Prop}(hS:SL W l w)(m:Has X l)(hb:iV X v b)(h1:lo<=b.length)(hK:∀u,iV X u (b.drop lo)->K u):kh 1 v (some (.int k1 (lo:Int))) none none K:=by
 obtain⟨a,c,rfl,hc⟩:=hb.sl hS m;refine⟨a,_,c,lo,b.length,c,rfl,rfl,rfl,⟨k1,rfl⟩,h1,hc,zzi _,hK _ ?_⟩;have:=hb.sub rfl hc h1 (zzi _)
 rwa [show (b.drop lo).take (b.length-lo)=b.drop lo from zz2 (by simp)]at this
def awj{hi:Nat}{k2:IntKind}{K:Ω->Prop}(hS:SL W l w)(m:Has X l)(hb:iV X v b)(h2:hi<=b.length)(hK:∀u,iV X u (b.take hi)->K u):kh 1 v none (some (.int k2 (hi:Int))) none K:=by
 obtain⟨a,c,rfl,hc⟩:=hb.sl hS m;refine⟨a,_,c,0,hi,c,rfl,rfl,⟨k2,rfl⟩,rfl,zz8 _,by omega,zzi _,hK _ ?_⟩;have:=hb.sub rfl hc (zz8 hi) h2;simpa using this
def awo{a b:Int}{K:Ω->Prop}(h:K (.int .u32 (Ew a b))):zc .xor (.int .u32 a) (.int .u32 b) K:=⟨_,rfl,h⟩
def fR7{a b:Int}{K:Ω->Prop}(h:K (.int .u32 (Th a b))):zc .and (.int .u32 a) (.int .u32 b) K:=⟨_,rfl,h⟩
def awd{a:Int}{K:Ω->Prop}(h:K (.int .u32 (Ha a))):EC (.int .u32 a) K:=⟨_,_,rfl,h⟩
def ZR{a:Int}{n:Nat}(hn:n<=32){K:Ω->Prop}(h:K (.int .u32 (a.fdiv (2 ^ n)))):zc .shr (.int .u32 a) (.int .u64 (n:Int)) K:=by
 refine⟨.int .u32 (a.fdiv (2 ^ n)),?_,h⟩;have h1:¬((n:Int)<0):=by omega
 simp only[nH,h1,vvn];rw[show min (n:Int).toNat IntKind.u32.bits=n by simp only[IntKind.bits];omega]
end
def wrap_u32{n:Int}(h0:0<=n)(h1:n<4294967296):IntKind.u32.wrap n=n:=by
 simp only[IntKind.wrap,IntKind.bits,IntKind.signed];simp;omega
def gik(c:Int)(x:Ζ):SP 399 [.int .u32 c,ic x] [] (e_ (.int .u32 (MU c x)) []):=by
 refine Enzz λW F w hS=>?_;apply iau;delta Sj aI ai;refine zW ?_;rw[wrap_u32 (by omega) (by have:=x.toNat_lt;omega)];refine awo ?_;refine⟨λvs w=>∃i:Nat,i<=8/\vs=[.int .u32 (EV i (Ew c x.toNat)),.int .i64 i]/\SL W F w,λvs _=>match vs with
  | [_,.int _ i]=>8-i.toNat
  | _=>0,⟨0,by omega,rfl,hS⟩,?_⟩
 rintro v1 v2 w1 ⟨i,hi,hv,hS⟩;cases hv;refine cF (λh=>?_) (λh=>?_)
 ·refine fR7 ?_;refine awe ?_;refine ZR (n:=1) (by omega) ?_;have hb:EV (i+1) (Ew c x.toNat)=G6 (EV i (Ew c x.toNat)):=rfl;refine za (λh2=>?_) (λh2=>?_)
  ·refine awo ?_;refine Gp ?_;refine⟨⟨i+1,by omega,?_,hS⟩,?_⟩
   ·rw[hb,G6,zzc h2]
   simp only[zzv];omega
  refine Gp ?_;refine⟨⟨i+1,by omega,?_,hS⟩,?_⟩
  ·rw[hb,G6,zzb h2]
  simp only[zzv];omega
 obtain rfl:i=8:=by omega
 exact⟨_,⟨rfl,rfl⟩,hS⟩
def YB(X:Η)(s:Int)(v:Ω)(b:Δ)(hb:iV X v b)(hN:b.length<=140737488355328):SP 394 [.int .u32 s,v] [X] (e_ (.int .u32 (Be s b)) [X]):=by
 refine Enzz λW F w hS=>?_;apply iat;delta Si aI ai;refine awd ?_;refine yo hS .hd hb ?_;refine⟨λvs w=>∃i:Nat,i<=b.length/\vs=[.int .u32 ((b.take i).foldl MU (Ha s)),.int .i64 i]/\SL W (X::F) w,λvs _=>match vs with
  | [_,.int _ i]=>b.length-i.toNat
  | _=>0,⟨0,by omega,rfl,hS⟩,?_⟩
 rintro v1 v2 w1 ⟨i,hi,hv,hS⟩;cases hv;refine cF (λh=>?_) (λh=>?_)
 ·have hi:i<b.length:=by omega
  refine yV hS .hd hb hi ?_;refine Cg (gik _ _) λw hS=>?_;refine⟨⟨i+1,by omega,?_,aW hS⟩,?_⟩
  ·rw[show b.take (i+1)=b.take i++[b[i]] by rw[wwr];simp[hi],ww8];rfl
  simp only[zzv];omega
 obtain rfl:i=b.length:=by omega
 refine awd ?_;rw[zz1];exact⟨_,⟨rfl,rfl⟩,hS⟩
def gir(X Y:Η)(v u:Ω)(b c:Δ)(hb:iV X v b)(hc:iV Y u c)(hN:b.length<=140737488355328)(hM:c.length<=140737488355328)(p:Nat)(t:Ε):
  SP 380 [.slice (some ⟨p,0,none⟩) 2 2] [.pt p [u,v] t,X,Y] (e_ (.int .u32 (Be (Be 0 c) b)) [X,Y]):=by
 refine Enzz λW F w hS=>?_;apply ias;delta Sh aI ai;refine Gp ?_;refine⟨λvs w=>(vs=[.int .u32 0,.int .i64 0]\/vs=[.int .u32 (Be 0 c),.int .i64 1]\/vs=[.int .u32 (Be (Be 0 c) b),.int .i64 2])/\SL W (.pt p [u,v] t::X::Y::F) w,λvs _=>match vs with
  | [_,.int _ i]=>2-i.toNat
  | _=>0,⟨.inl rfl,hS⟩,?_⟩
 rintro v1 v2 w1 ⟨hv,hS⟩;rcases hv with hv|hv|hv<;>cases hv
 ·refine Gp ?_;refine za (λh=>?_) (λh=>by omega);refine zF (j:=0) (by omega) ?_;refine zV hS Xh rfl ?_;refine Cg (YB Y 0 u c hc hM) λw hS=>?_;exact⟨⟨.inr (.inl rfl),aW hS⟩,Nat.lt_succ_self _⟩
 ·refine Gp ?_;refine za (λh=>?_) (λh=>by omega);refine zF (j:=1) (by omega) ?_;refine zV hS Xh rfl ?_;refine Cg (YB X _ v b hb hN) λw hS=>?_;exact⟨⟨.inr (.inr rfl),aW hS⟩,Nat.lt_succ_self _⟩
 refine Gp ?_;refine za (λh=>by omega) (λh=>?_);(exact dW hS)
def awb{P:Program}{w:Α}{t e ty:Ε}{a:Option Addr}{n c:Nat}{K:Ω->Prop}(ht:P.underlying t=some (.slice e))(h:K (.int .i64 c)):jY P (Builtin.cap_ #[t] ty #[.slice a n c]) w K:=by
 refine⟨_,?_,h⟩;simp[Builtin.cap_,yym ht,Result.andThen,goInt]
def wrap_u8(n:Int):Value.int .u8 (IntKind.u8.wrap n)=ic (lX n):=(eWo n).symm
def wrap_u64{n:Int}(h0:0<=n)(h1:n<18446744073709551616):IntKind.u64.wrap n=n:=by
 simp only[IntKind.wrap,IntKind.bits,IntKind.signed];simp;omega
def Yv(x:Int):SP 379 [.int .u32 x] [] (λv post=>post=[.ob (bR v 5 1 4 ((four x).map ic))]):=by
 refine Enzz λW F w hS=>?_;apply iaq;unfold Sf;refine ZR (n:=24) (by omega) ?_;refine zW ?_;refine ZR (n:=16) (by omega) ?_;refine zW ?_;refine ZR (n:=8) (by omega) ?_;refine zW ?_;refine zW ?_;rw[wrap_u8,wrap_u8,wrap_u8,wrap_u8];refine zL (cells:=(four x).map ic) hS rfl ?_;intro b w' lL;exact⟨_,rfl,bR.full (n:=4) rfl lL⟩
def YM(a:Option Addr)(n c:Nat)(hn:n<=1048576):SP 358 [.agg #[.slice a n c]] [] (λv post=>post=[.ob (bR v 5 1 4 ((four n).map ic))]):=by
 refine Enzz λW F w hS=>?_;apply iaf;delta R8 a_;refine⟨[.slice a n c],rfl,?_⟩;refine Gm λb w hS=>?_;refine zW ?_;rw[wrap_u32 (by omega) (by omega)];refine Cc (Yv n) ?_;clear hS;(rintro v post rfl w hS;(try simp only[app]at hS);(repeat (first|refine Gp ?_|refine Gw λw hS=>?_|refine Gb λb w hS=>?_)))
 exact⟨_,rfl,aW hS⟩
def XP(X:Η)(v:Ω)(q:Δ)(hb:iV X v q)(hN:q.length<=1048576):SP 357 [v] [X] (λr post=>∃u,r= .agg #[v,u]/\post=[.ob (bR u 5 1 4 ((four (sumOf q)).map ic)),X]):=by
 refine Enzz λW F w hS=>?_;apply iae;delta R7 bI;obtain⟨a,c,rfl,hc⟩:=hb.sl hS .hd;refine Gm λb w hS=>?_;refine Gm λb w hS=>?_;refine Cc (YM a q.length c hN) ?_;clear hS;rintro v8 post rfl w hS;(try simp only[app]at hS);have h8:=hS.vB .hd;refine Gp ?_;refine zL (cells:=[v8,.slice a q.length c]) hS ?_ ?_
 ·obtain⟨a8,c8,e,_⟩:=bR.at hS .hd;subst e;rfl
 clear hS;intro p w hS;refine Gp ?_;refine Cg (gir X (.ob (bR v8 5 1 4 ((four q.length).map ic))) (.slice a q.length c) v8 q (four q.length) hb (iV.own (b:=four q.length)) (by omega) (by rw[Du];omega) p _) λw hS=>?_;refine Cc (Yv (sumOf q)) ?_;clear hS;rintro v12 post rfl w hS;(try simp only[app]at hS);have iW:=hS.vB .hd;obtain⟨a12,EX,e,_⟩:=bR.at hS .hd;subst e;refine Gn λw hS=>?_;exact⟨_,⟨_,rfl,rfl⟩,aW hS⟩
def Qm(X Y:Η)(v u:Ω)(b c:Δ)(hb:iV X v b)(hc:iV Y u c)(hN:b.length<=140737488355328):
  SP 368 [v,u] [X,Y] (e_ (.bool (decide (b=c))) [X,Y]):=by
 refine Enzz λW F w hS=>?_;apply iai;delta Sa aI cW ai;refine yo hS .hd hb ?_;refine yo hS Xh hc ?_;refine cF (λh=>?_) (λh=>?_)
 ·rw[show decide (b=c)=false from zzz (λe=>h (by rw[e]))];(exact dW hS)
 have hl:b.length=c.length:=by omega
 refine yo hS .hd hb ?_;refine⟨λvs w=>∃i:Nat,i<=b.length/\vs=[.int .i64 i]/\b.take i=c.take i/\SL W (X::Y::F) w,λvs _=>match vs with
  | [.int _ i]=>b.length-i.toNat
  | _=>0,⟨0,by omega,rfl,by simp,hS⟩,?_⟩
 rintro v1 w1 ⟨i,hi,hv,he,hS⟩;cases hv;refine cF (λh=>?_) (λh=>?_)
 ·have hi:i<b.length:=by omega
  have hj:i<c.length:=by omega
  refine Gn λw hS=>?_;refine yV hS .hd hb hi ?_;refine yV hS Xh hc hj ?_;refine Eh ?_;refine za (λh2=>?_) (λh2=>?_)
  ·rw[show decide (b=c)=false from zzz (λe=>h2 (by subst e;rfl))];(exact dW hS)
  refine Gp ?_;have e1:b[i]=c[i]:=by
   apply UInt8.toNat_inj.1;omega
  refine⟨⟨i+1,by omega,rfl,?_,hS⟩,?_⟩
  ·rw[wwr,wwr,he];simp[hi,hj,e1]
  simp only[zzv];omega
 obtain rfl:i=b.length:=by omega
 have e:b=c:=by
  rw[zz1]at he
  rw[he,hl,zz1]
 rw[show decide (b=c)=true from zzm e];(exact dW hS)
def Tryz.WE:(Tryz.prog.info? 5).map (λi=>(i.zero,i.size,i.bytes))=some (some (.int .u8 0),1,1):=by kernel_rfl
def cW6(n:Nat)(hn:n<=140737488355328):SP 370 [.slice none 0 0,.int .i64 n] [] (λv post=>post=[.ob (bR v 5 1 0 [])]):=by
 refine Enzz λW F w hS=>?_;apply iak;delta Sc aI ai;refine Gp ?_;refine za (λh=>by omega) (λh=>?_);refine awb xxm ?_;refine cF (λh=>?_) (λh=>?_)
 ·refine awb xxm ?_;refine⟨none,0,0,0,0,0,rfl,rfl,⟨_,rfl⟩,rfl,zzi _,zzi _,zzi _,?_⟩;have hk:0<n:=by omega
  have e:(n:Int)-(((0:Nat):Int)-((0:Nat):Int))=((n:Nat):Int):=by omega
  rw[e];cases hi:Tryz.prog.info? 5 with
  | none=>have:=Tryz.WE;rw[hi]at this;cases this
  | some i=>
   have hI:=Tryz.WE;rw[hi]at hI
   simp only[yyf,uu9,www]at hI;obtain⟨h1,h2,h3⟩:=hI;have ud:Builtin.nextslicecap (0+n) 0=n:=by
    unfold Builtin.nextslicecap;simp[hk]
   have Cx:=Go.Lib.run_append_grow_zeros (P:=Tryz.prog) w 205 3 205 5 i (.int .u8 0) .i64 .i64 xxm yye hi h1 none 0 0 [] (by rw[h2];exact run_firstCells_none w.drew 1 0 _ _) n hk (by omega) (by omega) (by omega) (by rw[h3];omega) (by rw[ud,h3];omega);refine⟨_,_,Cx,?_⟩;generalize Vn:grownCap w (0+n) 0 5=cp;have Ch:n<=cp:=by
    have:=grownCap_ge w (0+n) 0 5;omega
   refine yc ?_;refine⟨_,_,_,0,0,cp,rfl,rfl,⟨_,rfl⟩,rfl,zzi _,zz8 _,zzi _,?_⟩;refine⟨_,rfl,?_⟩;have hb:(if cp=0 then (some (⟨w.heap.size,0,none⟩:Addr)) else (some (⟨w.heap.size,0,none⟩:Addr)).map (·.add (0*1)))=some ⟨w.heap.size,0,none⟩:=by
    split
    ·rfl
    simp[Addr.add]
   rw[hb,wwu,wwu];refine bR.mk (cells:=[]) (rest:=fR [.int .u8 0] n++fR [.int .u8 0] (cp-n)) (zz8 _) rfl ?_ ?_
   ·rw[zza,p5,p5];simp;omega
   have hz:∀k,Builtin.zeroCells (Value.cells (.int .u8 0)) k=(fR [.int .u8 0] k).toArray:=λk=>by
    rw[<- Nj (Value.cells (.int .u8 0)) [.int .u8 0] rfl k,Array.toArray_toList]
   rw[hz,hz,yyd];have e2:([]:Γ).toArray++(fR [Value.int .u8 0] n).toArray++(fR [Value.int .u8 0] (cp-n)).toArray=([]++(fR [Value.int .u8 0] n++fR [Value.int .u8 0] (cp-n))).toArray:=by simp
   rw[e2];exact SL.new hS.drew
 have:n=0:=by omega
 exact⟨_,rfl,bR.nil hS⟩
def Has.app{c:Η}:∀{p F:Ψ},Has c p->Has c (app p F)
 | _::_,_,.hd=>.hd
 | _::_,_,.tl h=>.tl h.app
def UI{α:Type}{bs:List (List α)}{i:Nat}(h:i<bs.length):(bs.take (i+1)).flatten=(bs.take i).flatten++bs[i]:=by
 rw[wwr,zzd h,yys];simp only[Option.toList_some,zz4,xxx,zzw]
def Hm{α:Type}(bs:List (List α))(i:Nat):(bs.take i).flatten.length<=bs.flatten.length:=by
 have:bs.flatten=(bs.take i).flatten++(bs.drop i).flatten:=by rw[<- yys,yyl]
 rw[this,zza];omega
def ZC(p n:Nat)(t:Ε)(vs:Γ)(bs:List (Δ))(Xs:Ψ)(hn:vs.length=n)(hb:bs.length=n)(hx:∀i (h:i<n),∃X,Has X Xs/\iV X (vs[i]'(by omega)) (bs[i]'(by omega)))(hN:bs.flatten.length<=100000000)(Cq:n<=100):
  SP 334 [.slice (some ⟨p,0,none⟩) n n] (.pt p vs t::Xs) (λv post=>post= .ob (bR v 5 1 bs.flatten.length (bs.flatten.map ic))::Xs):=by
 refine Enzz λW F w hS=>?_;apply h_0;delta RU aI ai bI;refine Gp ?_;refine⟨λus w=>∃i:Nat,i<=n/\us=[.int .i64 ((bs.take i).flatten.length:Nat),.int .i64 i]/\SL W (.pt p vs t::app Xs F) w,λus _=>match us with
  | [_,.int _ i]=>n-i.toNat
  | _=>0,⟨0,by omega,by simp,hS⟩,?_⟩
 rintro v1 v2 w1 ⟨i,hi,hv,hS⟩;cases hv;have hle:=Hm bs i;refine cF (λh=>?_) (λh=>?_)
 ·have hi:i<n:=by omega
  obtain⟨X,hX,hr⟩:=hx i hi;refine zF (j:=i) hi ?_;refine zV hS .hd (v:=vs[i]'(by omega)) (by rw[zzd (by omega)];congr 2;omega) ?_;refine yo hS (.tl hX.app) hr ?_;have e:=UI (bs:=bs) (i:=i) (by omega);have dI0:=Hm bs (i+1);have el:(bs.take (i+1)).flatten.length=(bs.take i).flatten.length+(bs[i]'(by omega)).length:=by rw[e,zza]
  refine Gp ?_;refine za (λh=>by omega) (λh=>?_);refine Gp ?_;refine⟨⟨i+1,by omega,?_,hS⟩,?_⟩
  ·rw[el]
  simp only[zzv];omega
 obtain rfl:i=n:=by omega
 have ef:bs.take i=bs:=zz2 (by omega);rw[ef];refine yE (F:=.pt p vs t::app Xs F) (cW6 bs.flatten.length (by omega)) hS lJ.nil ?_;clear hS;rintro v post rfl w hS;(try simp only[app]at hS);refine Gp ?_;refine⟨λus w=>∃(j:Nat) (u:Ω),j<=i/\us=[u,.int .i64 j]/\SL W (.ob (bR u 5 1 (bs.take j).flatten.length ((bs.take j).flatten.map ic))::.pt p vs t::app Xs F) w,λus _=>match us with
  | [_,.int _ j]=>i-j.toNat
  | _=>0,⟨0,v,by omega,rfl,hS⟩,?_⟩
 rintro v1 v2 w2 ⟨j,u,hj,hv,hS⟩;cases hv;have hle:=Hm bs j;refine cF (λh=>?_) (λh=>?_)
 ·have hj:j<i:=by omega
  obtain⟨X,hX,hr⟩:=hx j hj;refine zF (j:=j) hj ?_;refine zV hS Xh (v:=vs[j]'(by omega)) (by rw[zzd (by omega)];congr 2;omega) ?_;have e:=UI (bs:=bs) (i:=j) (by omega);have dI0:=Hm bs (j+1);have el:(bs.take (j+1)).flatten.length=(bs.take j).flatten.length+(bs[j]'(by omega)).length:=by rw[e,zza]
  refine zI hS .hd (hr.src hS (.tl (.tl hX.app))) (by simp) rfl (Ay _) (by omega) (by omega) ?_;clear hS;intro v' w hS;refine Gp ?_;refine⟨⟨j+1,v',by omega,rfl,?_⟩,?_⟩
  ·rw[el,e,zzt];exact hS
  simp only[zzv];omega
 obtain rfl:j=i:=by omega
 rw[ef]at hS
 exact⟨_,rfl,SL.cR hS (.cons .hd (by
  have:oq (app Xs F) (.pt p vs t::app Xs F):=oq.drop .refl;exact this))⟩
def wN(X:Η)(q:Δ)(r:Ω)(post:Ψ):Prop:=
 if 1048576<q.length then r= .tuple #[.slice none 0 0,.int .i64 1]/\post=[X]
 else ∃u,r= .tuple #[u,.int .i64 0]/\post=[.ob (bR u 5 1 (ij q).length ((ij q).map ic)),X]
def wN.big{X:Η}{q:Δ}(h:1048576<q.length):wN X q (.tuple #[.slice none 0 0,.int .i64 1]) [X]:=by
 unfold wN;rw[zzc h];exact⟨rfl,rfl⟩
def wN.ok{X:Η}{q:Δ}(h:q.length<=1048576)(u:Ω):wN X q (.tuple #[u,.int .i64 0]) [.ob (bR u 5 1 (ij q).length ((ij q).map ic)),X]:=by
 unfold wN;rw[zzb (wwh.2 h)];exact⟨u,rfl,rfl⟩
def Z7(X:Η)(v:Ω)(q:Δ)(hq:iV X v q)(hN:q.length<=140737488355328):SP 310 [v] [X] (wN X q):=by
 refine Enzz λW F w hS=>?_;apply h_j;delta RB aI aR ai bI;refine yo hS .hd hq ?_;refine cF (λh=>?_) (λh=>?_)
 ·exact⟨_,.big (by omega),hS⟩
 obtain⟨a,c,rfl,hc⟩:=hq.sl hS .hd;refine Cc (XP X _ q hq (by omega)) ?_;clear hS;rintro v9 post ⟨u,rfl,rfl⟩ w hS;(try simp only[app]at hS);have hu:=hS.vB .hd;obtain⟨au,cu,e,_⟩:=bR.at hS .hd;subst e;refine Gm λb w hS=>?_;refine yD hS (vs:=[.slice a q.length c]) Xh rfl (λj v e=>?_) ?_
 ·match j,e with
  | 0,e=>exact e
 refine Gp ?_;refine Cc (YM a q.length c (by omega)) ?_;clear hS;rintro v12 post rfl w hS;(try simp only[app]at hS);obtain⟨a12,EX,e,_⟩:=bR.at hS .hd;subst e;refine Gm λb w hS=>?_;refine yE (F:=_) (ZC _ 3 _ [_,_,_] [four q.length,four (sumOf q),q] [.ob (bR (.slice a12 4 EX) 5 1 4 ((four q.length).map ic)),.ob (bR (.slice au 4 cu) 5 1 4 ((four (sumOf q)).map ic)),X] rfl rfl ?_ ?_ (by omega)) hS Xp ?_
 ·intro i hi
  match i,hi with
  | 0,_=>exact⟨_,.hd,iV.own (b:=four q.length)⟩
  | 1,_=>exact⟨_,.tl .hd,iV.own (b:=four (sumOf q))⟩
  | 2,_=>exact⟨_,.tl (.tl .hd),hq⟩
 ·simp[Du];omega
 clear hS;rintro v post rfl w hS;(try simp only[app]at hS);have e:[four q.length,four (sumOf q),q].flatten=ij q:=by simp[ij]
 rw[e]at hS
 exact⟨_,.ok (by omega) v,aW hS⟩
def orW{a b:Nat}(ha:a<9223372036854775808)(hb:b<9223372036854775808):nH .or (.int .i64 (a:Int)) (.int .i64 (b:Int))=some (.int .i64 ((a ||| b:Nat):Int)):=by
 have h:(a ||| b)<9223372036854775808:=Nat.or_lt_two_pow (n:=63) ha hb;simp only[nH,ww7];congr 2;have e1:(BitVec.ofInt IntKind.i64.bits (a:Int))=BitVec.ofNat 64 a:=vvw 64 a;have e2:(BitVec.ofInt IntKind.i64.bits (b:Int))=BitVec.ofNat 64 b:=vvw 64 b;rw[e1,e2];have e3:(BitVec.ofNat 64 a ||| BitVec.ofNat 64 b).toNat=a ||| b:=by
  rw[BitVec.toNat_or,uub,uub,wwz (by omega),wwz (by omega)]
 show IntKind.i64.wrap (((BitVec.ofNat 64 a ||| BitVec.ofNat 64 b).toNat:Nat):Int)=_;rw[e3,wwb _ (by omega)]
def MN{a b k:Nat}{K:Ω->Prop}(ha:a*2 ^ k<9223372036854775808)(hb:b<2 ^ k)(wg:b<9223372036854775808)(h:K (.int .i64 ((a*2 ^ k+b:Nat):Int))):zc .or (.int .i64 ((a*2 ^ k:Nat):Int)) (.int .i64 (b:Int)) K:=by
 refine⟨_,orW ha wg,?_⟩;have:a*2 ^ k ||| b=a*2 ^ k+b:=by rw[<- ttf,Nat.shiftLeft_add_eq_or_of_lt hb]
 rw[this];exact h
def Y2{a n:Nat}{K:Ω->Prop}(hn:n<=64)(ha:a*2 ^ n<9223372036854775808)(h:K (.int .i64 ((a*2 ^ n:Nat):Int))):zc .shl (.int .i64 (a:Int)) (.int .u64 (n:Int)) K:=by
 refine⟨.int .i64 ((a*2 ^ n:Nat):Int),?_,h⟩;have h1:¬((n:Int)<0):=by omega
 simp only[nH,h1,vvn];rw[show min (n:Int).toNat IntKind.i64.bits=n by simp only[IntKind.bits];omega];congr 2;rw[show (a:Int)*2 ^ n=((a*2 ^ n:Nat):Int) by push_cast;rfl];exact wwb _ (by omega)
def xI(X:Η)(q:Δ)(r:Ω)(post:Ψ):Prop:=match lY q with
 | .error e=>r= .tuple #[.slice none 0 0,.int .i64 0,.int .i64 e]/\post=[X]
 | .ok (p,n)=>∃u,r= .tuple #[u,.int .i64 (n:Nat),.int .i64 0]/\post=[.ob (bR u 5 1 p.length (p.map ic)),X]
def xI.er{X:Η}{q:Δ}{e:Int}(h:lY q= .error e):xI X q (.tuple #[.slice none 0 0,.int .i64 0,.int .i64 e]) [X]:=by
 unfold xI;rw[h];exact⟨rfl,rfl⟩
def xI.ok{X:Η}{q p:Δ}{n:Nat}(h:lY q= .ok (p,n))(u:Ω):xI X q (.tuple #[u,.int .i64 (n:Nat),.int .i64 0]) [.ob (bR u 5 1 p.length (p.map ic)),X]:=by
 unfold xI;rw[h];exact⟨u,rfl,rfl⟩
def gi6{q:Δ}(h:q.length<8):lY q= .error 2:=by unfold lY;rw[zzc h]
def gi7{q:Δ}(h:8<=q.length)(h2:1048576<ng q):lY q= .error 3:=by unfold lY;rw[zzb (wwh.2 h),zzc h2]
def gi8{q:Δ}(h:8<=q.length)(h2:ng q<=1048576)(h3:q.length<8+ng q):lY q= .error 2:=by unfold lY;rw[zzb (wwh.2 h),zzb (wwh.2 h2),zzc h3]
def gi9{q:Δ}(h:8<=q.length)(h2:ng q<=1048576)(h3:8+ng q<=q.length)(h4:four (sumOf ((q.drop 8).take (ng q)))≠(q.drop 4).take 4):lY q= .error 4:=by unfold lY;rw[zzb (wwh.2 h),zzb (wwh.2 h2),zzb (wwh.2 h3),zzc h4]
def gwb{q:Δ}(h:8<=q.length)(h2:ng q<=1048576)(h3:8+ng q<=q.length)(h4:four (sumOf ((q.drop 8).take (ng q)))=(q.drop 4).take 4):lY q= .ok ((q.drop 8).take (ng q),8+ng q):=by unfold lY;rw[zzb (wwh.2 h),zzb (wwh.2 h2),zzb (wwh.2 h3),zzb (not_not_intro h4)]
def YN(X:Η)(v:Ω)(q:Δ)(hq:iV X v q)(hN:q.length<=140737488355328):SP 324 [v] [X] (xI X q):=by
 refine Enzz λW F w hS=>?_;apply h_p;delta RI aI a_ gi ai bI;refine yo hS .hd hq ?_;refine cF (λh=>?_) (λh=>?_)
 ·exact⟨_,.er (gi6 (by omega)),hS⟩
 have h8:8<=q.length:=by omega
 refine Gn λw hS=>?_;have g0:=q[0].toNat_lt;have g1:=q[1].toNat_lt;have g2:=q[2].toNat_lt;have g3:=q[3].toNat_lt;have hn:ng q=((q[0].toNat*2 ^ 24+q[1].toNat*2 ^ 16)+q[2].toNat*2 ^ 8)+q[3].toNat:=by
  unfold ng;have hd:∀i (h:i<q.length),q.getD i 0=q[i]:=λi h=>by simp[vvu,h]
  rw[hd 0 (by omega),hd 1 (by omega),hd 2 (by omega),hd 3 (by omega)]
 refine yV (j:=0) hS .hd hq (by omega) ?_;refine yv (by omega) ?_;refine Y2 (n:=24) (by omega) (by omega) ?_;refine yV (j:=1) hS .hd hq (by omega) ?_;refine yv (by omega) ?_;refine Y2 (n:=16) (by omega) (by omega) ?_;refine MN (k:=24) (by omega) (by omega) (by omega) ?_;refine yV (j:=2) hS .hd hq (by omega) ?_;refine yv (by omega) ?_;refine Y2 (n:=8) (by omega) (by omega) ?_;rw[show q[0].toNat*2 ^ 24+q[1].toNat*2 ^ 16=(q[0].toNat*2 ^ 8+q[1].toNat)*2 ^ 16 by omega];refine MN (k:=16) (by omega) (by omega) (by omega) ?_;refine yV (j:=3) hS .hd hq (by omega) ?_;refine yv (by omega) ?_;rw[show (q[0].toNat*2 ^ 8+q[1].toNat)*2 ^ 16+q[2].toNat*2 ^ 8=((q[0].toNat*2 ^ 8+q[1].toNat)*2 ^ 8+q[2].toNat)*2 ^ 8 by omega];refine MN (k:=8) (by omega) (by omega) (by omega) ?_;rw[show ((q[0].toNat*2 ^ 8+q[1].toNat)*2 ^ 8+q[2].toNat)*2 ^ 8+q[3].toNat=ng q by omega];clear hn g0 g1 g2 g3;have iw:=fwg q;generalize hk:ng q=k at *
 refine cF (λh2=>?_) (λh2=>?_)
 ·exact⟨_,.er (gi7 h8 (by omega)),hS⟩
 refine yo hS .hd hq ?_;refine Zy (a:=8) (b:=k) (by omega) ?_;refine cF (λh3=>?_) (λh3=>?_)
 ·exact⟨_,.er (gi8 h8 (by omega) (by omega)),hS⟩
 refine Zy (a:=8) (b:=k) (by omega) ?_;refine awi (lo:=8) (hi:=8+k) hS .hd hq (by omega) (by omega) ?_;intro v44 Hu;rw[show 8+k-8=k by omega]at Hu
 have ie3:((q.drop 8).take k).length=k:=by rw[zzf,zzq];omega
 generalize hp:(q.drop 8).take k=p at *
 obtain⟨a,c,e,hc⟩:=Hu.sl hS .hd;subst e;refine Cc (XP X _ p Hu (by omega)) ?_;clear hS;rintro v9 post ⟨u,rfl,rfl⟩ w hS;(try simp only[app]at hS);obtain⟨au,cu,e,_⟩:=bR.at hS .hd;subst e;refine Gm λb w hS=>?_;refine awi (lo:=4) (hi:=8) hS Xh hq (by omega) (by omega) ?_;intro v49 UZ;rw[show 8-4=4 from rfl]at UZ
 refine Cc (Qm (.ob (bR (.slice au 4 cu) 5 1 4 ((four (sumOf p)).map ic))) X _ v49 (four (sumOf p)) ((q.drop 4).take 4) (iV.own (b:=four (sumOf p))) UZ (by rw[Du];omega)) ?_;clear hS;rintro v post ⟨rfl,rfl⟩ w hS;(try simp only[app]at hS);refine zZ ?_;by_cases h4:four (sumOf p)=(q.drop 4).take 4
 ·rw[zzm h4];refine zp ?_;refine Gp ?_;refine Zm (cs:=p.map ic) hS (λw' c lL=>Hu.src lL Xh) (by simp) (Ay _) (by omega) ?_;clear hS;intro u' w hS _;refine Zy (a:=8) (b:=k) (by omega) ?_;have ht:=gwb h8 (by omega) (by omega) (by rw[hk,hp];exact h4);rw[hk,hp]at ht
  exact⟨_,.ok ht u',aW hS⟩
 rw[zzz h4];refine zq ?_;exact⟨_,.er (gi9 h8 (by omega) (by omega) (by rw[hk,hp];exact h4)),aW hS⟩

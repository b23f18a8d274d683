/- Part of the proof. -/
import Derived.Test.YtmkllimamejcgaaGreatJ4
import Derived.Test.YtmkllimamejcgaaGreatQVcR
import Derived.Lib.AppendZerosOnto
namespace Go.Proofs.YtmkllimamejcgaaGreat
set_option linter.all false
set_option maxRecDepth 100000
open Go.RowKit
def tte:=@List.map_drop
def wwt:=@List.take_add_one
def xxm:=@Tryz.underlying205
def yys:=@List.flatten_append
def xxz:=@List.flatten_nil
def vvx:=@BitVec.ofInt_natCast
def uub:=@BitVec.toNat_ofNat
def ttg:=@Nat.shiftLeft_eq
def PS(a:Addr)(i j:Nat):(a.add i).add j=a.add (i+j):=by
 unfold Addr.add;by_cases hi:i=0
 ·subst hi;simp
 by_cases hj:j=0
 ·subst hj;simp[hi]
 rw[zzb hi,zzb hj,zzb (by omega)];simp[ww9]
structure dP(X:Μ)(v:Ε)(b:Φ):Prop where
 sl:∀{W w:Ζ} {l:Β},SL W l w->Has X l->∃a c,v= .slice a b.length c/\b.length<=c
 src:∀{W w:Ζ} {l:Β},SL W l w->Has X l->kE w 1 v b.length (b.map cX)
def dP.own{v:Ε}{t:Ι}{b:Φ}:dP (.ob (bI v t 1 b.length (b.map cX))) v b:=
 ⟨λh m=>by
  obtain⟨l2,r⟩:=m.rem;rcases bI.open (h.perm r.perm) with ⟨⟨a',rfl⟩,h0,_,_⟩|⟨b',Ej,rest,rfl,hc,_⟩
  ·rw[h0];exact⟨a',0,rfl,zzi _⟩
  exact⟨_,_,rfl,hc⟩,λh m=>mZ h m⟩
def dP.nil{X:Μ}{a:Option Addr}{c:Nat}:dP X (.slice a 0 c) []:=
 ⟨λ_ _=>⟨a,c,rfl,zz4 _⟩,λ_ _=>by cases a with|none=>exact⟨rfl,rfl⟩|some p=>exact⟨rfl,rfl,λj v e=>by simp at e⟩⟩
def dP.sub{X:Μ}{a:Option Addr}{n c l h:Nat}{b:Φ}(hb:dP X (.slice a n c) b)(hn:n=b.length)(hc:n<=c)(h1:l<=h)(h2:h<=n):dP X (.slice (if c=l then a else a.map (·.add (l*1))) (h-l) (c-l)) ((b.drop l).take (h-l)):=by
 have hlen:((b.drop l).take (h-l)).length=h-l:=by rw[zzf,zzr];omega
 refine⟨λ_ _=>⟨_,_,by rw[hlen],by omega⟩,λhS m=>?_⟩;have hs:=hb.src hS m;rw[vvs];by_cases oV:c=l
 ·rw[zzc oV];have:(b.drop l).take (h-l)=[]:=zzp (by omega);rw[this];have e0:h-l=0:=by omega
  rw[e0];cases a with
  | none=>exact⟨rfl,rfl⟩
  | some p=>exact⟨rfl,rfl,λj v e=>by simp at e⟩
 rw[zzb oV];cases a with
 | none=>
  obtain⟨e1,e2⟩:=hs;have:b=[]:=by simpa using e2
  subst this;exact⟨hlen,by simp⟩
 | some p=>
  obtain⟨e1,e2,e3⟩:=hs;refine⟨hlen,by simp,λj v e=>?_⟩;rw[PS];refine e3 (l+j) v ?_;rw[List.map_take,tte,uua]at e
  split at e
  ·rw[wwj]at e;exact e
  cases e
section
variable {W w:Ζ} {l:Β} {X:Μ} {v:Ε} {b:Φ}
def dP.one(hb:dP X v b)(hS:SL W l w)(m:Has X l):v.oneCell'=true:=by
 obtain⟨a,c,rfl,_⟩:=hb.sl hS m;rfl
def yp{K:Ε->Prop}(hS:SL W l w)(m:Has X l)(hb:dP X v b)(k:K (Γ b.length)):zd v K:=by
 obtain⟨a,c,rfl,_⟩:=hb.sl hS m;exact yc k
def yY{j:Nat}{kk:IntKind}{K:Ε->Prop}(hS:SL W l w)(m:Has X l)(hb:dP X v b)(hj:j<b.length)(hK:K (cX b[j])):zk 1 v (.int kk (j:Int)) λp=>cn p w K:=by
 obtain⟨a,c,rfl,_⟩:=hb.sl hS m;have hs:=hb.src hS m;cases a with
 | none=>
  have:b=[]:=by simpa using hs.2
  subst this;simp at hj
 | some p=>
  refine⟨p,_,c,kk,j,rfl,rfl,hj,?_⟩;refine⟨_,_,rfl,(by rw[vvs];exact hs.2.2 j (cX b[j]) (by simp[hj])),?_⟩;exact hK
def WG{lo hi:Nat}{k1 k2:IntKind}{K:Ε->Prop}(hS:SL W l w)(m:Has X l)(hb:dP X v b)(h1:lo<=hi)(h2:hi<=b.length)(hK:∀u,dP X u ((b.drop lo).take (hi-lo))->K u):fh 1 v (some (.int k1 (lo:Int))) (some (.int k2 (hi:Int))) none K:=by
 obtain⟨a,c,rfl,hc⟩:=hb.sl hS m;exact⟨a,_,c,lo,hi,c,rfl,rfl,⟨k2,rfl⟩,⟨k1,rfl⟩,h1,by omega,zzi _,hK _ (hb.sub rfl hc h1 h2)⟩
def WI{lo:Nat}{k1:IntKind}{K:Ε->Prop}(hS:SL W l w)(m:Has X l)(hb:dP X v b)(h1:lo<=b.length)(hK:∀u,dP X u (b.drop lo)->K u):fh 1 v (some (.int k1 (lo:Int))) none none K:=by
 obtain⟨a,c,rfl,hc⟩:=hb.sl hS m;refine⟨a,_,c,lo,b.length,c,rfl,rfl,rfl,⟨k1,rfl⟩,h1,hc,zzi _,hK _ ?_⟩;have:=hb.sub rfl hc h1 (zzi _)
 rwa [show (b.drop lo).take (b.length-lo)=b.drop lo from zz2 (by simp)]at this
def WH{hi:Nat}{k2:IntKind}{K:Ε->Prop}(hS:SL W l w)(m:Has X l)(hb:dP X v b)(h2:hi<=b.length)(hK:∀u,dP X u (b.take hi)->K u):fh 1 v none (some (.int k2 (hi:Int))) none K:=by
 obtain⟨a,c,rfl,hc⟩:=hb.sl hS m;refine⟨a,_,c,0,hi,c,rfl,rfl,⟨k2,rfl⟩,rfl,zz4 _,by omega,zzi _,hK _ ?_⟩;have:=hb.sub rfl hc (zz4 hi) h2;simpa using this
def WM{a b:Int}{K:Ε->Prop}(h:K (.int .u32 (BE a b))):zc .xor (.int .u32 a) (.int .u32 b) K:=⟨_,rfl,h⟩
def cxh{a b:Int}{K:Ε->Prop}(h:K (.int .u32 (PW a b))):zc .and (.int .u32 a) (.int .u32 b) K:=⟨_,rfl,h⟩
def WB{a:Int}{K:Ε->Prop}(h:K (.int .u32 (Eo a))):BK (.int .u32 a) K:=⟨_,_,rfl,h⟩
def ZS{a:Int}{n:Nat}(hn:n<=32){K:Ε->Prop}(h:K (.int .u32 (a.fdiv (2 ^ n)))):zc .shr (.int .u32 a) (.int .u64 (n:Int)) K:=by
 refine⟨.int .u32 (a.fdiv (2 ^ n)),?_,h⟩;have h1:¬((n:Int)<0):=by omega
 simp only[jw,h1,vvo];rw[show min (n:Int).toNat IntKind.u32.bits=n by simp only[IntKind.bits];omega]
end
def wrap_u32{n:Int}(h0:0<=n)(h1:n<4294967296):IntKind.u32.wrap n=n:=by
 simp only[IntKind.wrap,IntKind.bits,IntKind.signed];simp;omega
def cAu(c:Int)(x:Κ):SP 399 [.int .u32 c,cX x] [] (cC (.int .u32 (Kr c x)) []):=by
 refine Enzz λW F w hS=>?_;apply cJg;delta OX aI ai;refine zW ?_;rw[wrap_u32 (by omega) (by have:=x.toNat_lt;omega)];refine WM ?_;refine⟨λvs w=>∃i:Nat,i<=8/\vs=[.int .u32 (B5 i (BE c x.toNat)),Γ i]/\SL W F w,λvs _=>match vs with
  | [_,.int _ i]=>8-i.toNat
  | _=>0,⟨0,by omega,rfl,hS⟩,?_⟩
 rintro v1 v2 w1 ⟨i,hi,hv,hS⟩;cases hv;refine bY (λh=>?_) (λh=>?_)
 ·refine cxh ?_;refine WC ?_;refine ZS (n:=1) (by omega) ?_;have hb:B5 (i+1) (BE c x.toNat)=Eh (B5 i (BE c x.toNat)):=rfl;refine za (λh2=>?_) (λh2=>?_)
  ·refine WM ?_;refine Gp ?_;refine⟨⟨i+1,by omega,?_,hS⟩,?_⟩
   ·rw[hb,Eh,zzc h2]
   simp only[zzw];omega
  refine Gp ?_;refine⟨⟨i+1,by omega,?_,hS⟩,?_⟩
  ·rw[hb,Eh,zzb h2]
  simp only[zzw];omega
 obtain rfl:i=8:=by omega
 exact⟨_,⟨rfl,rfl⟩,hS⟩
def YD(X:Μ)(s:Int)(v:Ε)(b:Φ)(hb:dP X v b)(hN:b.length<=140737488355328):SP 394 [.int .u32 s,v] [X] (cC (.int .u32 (vJ s b)) [X]):=by
 refine Enzz λW F w hS=>?_;apply cJf;delta OW aI ai;refine WB ?_;refine yp hS .hd hb ?_;refine⟨λvs w=>∃i:Nat,i<=b.length/\vs=[.int .u32 ((b.take i).foldl Kr (Eo s)),Γ i]/\SL W (X::F) w,λvs _=>match vs with
  | [_,.int _ i]=>b.length-i.toNat
  | _=>0,⟨0,by omega,rfl,hS⟩,?_⟩
 rintro v1 v2 w1 ⟨i,hi,hv,hS⟩;cases hv;refine bY (λh=>?_) (λh=>?_)
 ·have hi:i<b.length:=by omega
  refine yY hS .hd hb hi ?_;refine Cg (cAu _ _) λw hS=>?_;refine⟨⟨i+1,by omega,?_,aW hS⟩,?_⟩
  ·rw[show b.take (i+1)=b.take i++[b[i]] by rw[wwt];simp[hi],wws];rfl
  simp only[zzw];omega
 obtain rfl:i=b.length:=by omega
 refine WB ?_;rw[zz0];exact⟨_,⟨rfl,rfl⟩,hS⟩
def cA6(X Y:Μ)(v u:Ε)(b c:Φ)(hb:dP X v b)(hc:dP Y u c)(hN:b.length<=140737488355328)(hM:c.length<=140737488355328)(p:Nat)(t:Ι):
  SP 380 [.slice (some ⟨p,0,none⟩) 2 2] [.pt p [u,v] t,X,Y] (cC (.int .u32 (vJ (vJ 0 c) b)) [X,Y]):=by
 refine Enzz λW F w hS=>?_;apply cJe;delta OV aI ai;refine Gp ?_;refine⟨λvs w=>(vs=[.int .u32 0,Γ 0]\/vs=[.int .u32 (vJ 0 c),Γ 1]\/vs=[.int .u32 (vJ (vJ 0 c) b),Γ 2])/\SL W (.pt p [u,v] t::X::Y::F) w,λvs _=>match vs with
  | [_,.int _ i]=>2-i.toNat
  | _=>0,⟨.inl rfl,hS⟩,?_⟩
 rintro v1 v2 w1 ⟨hv,hS⟩;rcases hv with hv|hv|hv<;>cases hv
 ·refine Gp ?_;refine za (λh=>?_) (λh=>by omega);refine zG (j:=0) (by omega) ?_;refine zV hS Xh rfl ?_;refine Cg (YD Y 0 u c hc hM) λw hS=>?_;exact⟨⟨.inr (.inl rfl),aW hS⟩,Nat.lt_succ_self _⟩
 ·refine Gp ?_;refine za (λh=>?_) (λh=>by omega);refine zG (j:=1) (by omega) ?_;refine zV hS Xh rfl ?_;refine Cg (YD X _ v b hb hN) λw hS=>?_;exact⟨⟨.inr (.inr rfl),aW hS⟩,Nat.lt_succ_self _⟩
 refine Gp ?_;refine za (λh=>by omega) (λh=>?_);(exact cA hS)
def Wz{P:Program}{w:Ζ}{t e ty:Ι}{a:Option Addr}{n c:Nat}{K:Ε->Prop}(ht:P.underlying t=some (.slice e))(h:K (Γ c)):eW P (Builtin.cap_ #[t] ty #[.slice a n c]) w K:=by
 refine⟨_,?_,h⟩;simp[Builtin.cap_,yyn ht,Result.andThen,goInt]
def wrap_u8(n:Int):Value.int .u8 (IntKind.u8.wrap n)=cX (gO n):=(bXw n).symm
def wrap_u64{n:Int}(h0:0<=n)(h1:n<18446744073709551616):IntKind.u64.wrap n=n:=by
 simp only[IntKind.wrap,IntKind.bits,IntKind.signed];simp;omega
def Yw(x:Int):SP 379 [.int .u32 x] [] (λv post=>post=[.ob (bI v 5 1 4 ((four x).map cX))]):=by
 refine Enzz λW F w hS=>?_;apply cJc;unfold OT;refine ZS (n:=24) (by omega) ?_;refine zW ?_;refine ZS (n:=16) (by omega) ?_;refine zW ?_;refine ZS (n:=8) (by omega) ?_;refine zW ?_;refine zW ?_;rw[wrap_u8,wrap_u8,wrap_u8,wrap_u8];refine zN (cells:=(four x).map cX) hS rfl ?_;intro b w' gA;exact⟨_,rfl,bI.full (n:=4) rfl gA⟩
def YO(a:Option Addr)(n c:Nat)(hn:n<=1048576):SP 358 [.agg #[.slice a n c]] [] (λv post=>post=[.ob (bI v 5 1 4 ((four n).map cX))]):=by
 refine Enzz λW F w hS=>?_;apply cI1;delta OL a_;refine⟨[.slice a n c],rfl,?_⟩;refine Gm λb w hS=>?_;refine zW ?_;rw[wrap_u32 (by omega) (by omega)];refine Cc (Yw n) ?_;clear hS;(rintro v post rfl w hS;(try simp only[app]at hS);(repeat (first|refine Gp ?_|refine Gw λw hS=>?_|refine Gb λb w hS=>?_)))
 exact⟨_,rfl,aW hS⟩
def VM(X:Μ)(v:Ε)(q:Φ)(hb:dP X v q)(hN:q.length<=1048576):SP 357 [v] [X] (λr post=>∃u,r= .agg #[v,u]/\post=[.ob (bI u 5 1 4 ((four (sumOf q)).map cX)),X]):=by
 refine Enzz λW F w hS=>?_;apply cI0;delta OK bR;obtain⟨a,c,rfl,hc⟩:=hb.sl hS .hd;refine Gm λb w hS=>?_;refine Gm λb w hS=>?_;refine Cc (YO a q.length c hN) ?_;clear hS;rintro v8 post rfl w hS;(try simp only[app]at hS);have h8:=hS.rD .hd;refine Gp ?_;refine zN (cells:=[v8,.slice a q.length c]) hS ?_ ?_
 ·obtain⟨a8,c8,e,_⟩:=bI.at hS .hd;subst e;rfl
 clear hS;intro p w hS;refine Gp ?_;refine Cg (cA6 X (.ob (bI v8 5 1 4 ((four q.length).map cX))) (.slice a q.length c) v8 q (four q.length) hb (dP.own (b:=four q.length)) (by omega) (by rw[Az];omega) p _) λw hS=>?_;refine Cc (Yw (sumOf q)) ?_;clear hS;rintro v12 post rfl w hS;(try simp only[app]at hS);have dQ:=hS.rD .hd;obtain⟨a12,B7,e,_⟩:=bI.at hS .hd;subst e;refine Gn λw hS=>?_;exact⟨_,⟨_,rfl,rfl⟩,aW hS⟩
def Qr(X Y:Μ)(v u:Ε)(b c:Φ)(hb:dP X v b)(hc:dP Y u c)(hN:b.length<=140737488355328):
  SP 368 [v,u] [X,Y] (cC (.bool (decide (b=c))) [X,Y]):=by
 refine Enzz λW F w hS=>?_;apply cI4;delta OO aI cw ai;refine yp hS .hd hb ?_;refine yp hS Xh hc ?_;refine bY (λh=>?_) (λh=>?_)
 ·rw[show decide (b=c)=false from zzz (λe=>h (by rw[e]))];(exact cA hS)
 have hl:b.length=c.length:=by omega
 refine yp hS .hd hb ?_;refine⟨λvs w=>∃i:Nat,i<=b.length/\vs=[Γ i]/\b.take i=c.take i/\SL W (X::Y::F) w,λvs _=>match vs with
  | [.int _ i]=>b.length-i.toNat
  | _=>0,⟨0,by omega,rfl,by simp,hS⟩,?_⟩
 rintro v1 w1 ⟨i,hi,hv,he,hS⟩;cases hv;refine bY (λh=>?_) (λh=>?_)
 ·have hi:i<b.length:=by omega
  have hj:i<c.length:=by omega
  refine Gn λw hS=>?_;refine yY hS .hd hb hi ?_;refine yY hS Xh hc hj ?_;refine Br ?_;refine za (λh2=>?_) (λh2=>?_)
  ·rw[show decide (b=c)=false from zzz (λe=>h2 (by subst e;rfl))];(exact cA hS)
  refine Gp ?_;have e1:b[i]=c[i]:=by
   apply UInt8.toNat_inj.1;omega
  refine⟨⟨i+1,by omega,rfl,?_,hS⟩,?_⟩
  ·rw[wwt,wwt,he];simp[hi,hj,e1]
  simp only[zzw];omega
 obtain rfl:i=b.length:=by omega
 have e:b=c:=by
  rw[zz0]at he
  rw[he,hl,zz0]
 rw[show decide (b=c)=true from zzl e];(exact cA hS)
def Tryz.UG:(Tryz.prog.info? 5).map (λi=>(i.zero,i.size,i.bytes))=some (some (.int .u8 0),1,1):=by kernel_rfl
def bF7(n:Nat)(hn:n<=140737488355328):SP 370 [Θ,Γ n] [] (λv post=>post=[.ob (bI v 5 1 0 [])]):=by
 refine Enzz λW F w hS=>?_;apply cI6;delta OQ aI ai;refine Gp ?_;refine za (λh=>by omega) (λh=>?_);refine Wz xxm ?_;refine bY (λh=>?_) (λh=>?_)
 ·refine Wz xxm ?_;refine⟨none,0,0,0,0,0,rfl,rfl,⟨_,rfl⟩,rfl,zzi _,zzi _,zzi _,?_⟩;have hk:0<n:=by omega
  have e:(n:Int)-(((0:Nat):Int)-((0:Nat):Int))=((n:Nat):Int):=by omega
  rw[e];cases hi:Tryz.prog.info? 5 with
  | none=>have:=Tryz.UG;rw[hi]at this;cases this
  | some i=>
   have hI:=Tryz.UG;rw[hi]at hI
   simp only[yyf,uu9,wwy]at hI;obtain⟨h1,h2,h3⟩:=hI;have o8:Builtin.nextslicecap (0+n) 0=n:=by
    unfold Builtin.nextslicecap;simp[hk]
   have xz:=Go.Lib.run_append_grow_zeros (P:=Tryz.prog) w 205 3 205 5 i (.int .u8 0) .i64 .i64 xxm yyc hi h1 none 0 0 [] (by rw[h2];exact run_firstCells_none w.drew 1 0 _ _) n hk (by omega) (by omega) (by omega) (by rw[h3];omega) (by rw[o8,h3];omega);refine⟨_,_,xz,?_⟩;generalize Tj:grownCap w (0+n) 0 5=cp;have xd:n<=cp:=by
    have:=grownCap_ge w (0+n) 0 5;omega
   refine yc ?_;refine⟨_,_,_,0,0,cp,rfl,rfl,⟨_,rfl⟩,rfl,zzi _,zz4 _,zzi _,?_⟩;refine⟨_,rfl,?_⟩;have hb:(if cp=0 then (some (⟨w.heap.size,0,none⟩:Addr)) else (some (⟨w.heap.size,0,none⟩:Addr)).map (·.add (0*1)))=some ⟨w.heap.size,0,none⟩:=by
    split
    ·rfl
    simp[Addr.add]
   rw[hb,www,www];refine bI.mk (cells:=[]) (rest:=cK [.int .u8 0] n++cK [.int .u8 0] (cp-n)) (zz4 _) rfl ?_ ?_
   ·rw[zza,lQ,lQ];simp;omega
   have hz:∀k,Builtin.zeroCells (Value.cells (.int .u8 0)) k=(cK [.int .u8 0] k).toArray:=λk=>by
    rw[<- KS (Value.cells (.int .u8 0)) [.int .u8 0] rfl k,Array.toArray_toList]
   rw[hz,hz,yye];have e2:([]:Ξ).toArray++(cK [Value.int .u8 0] n).toArray++(cK [Value.int .u8 0] (cp-n)).toArray=([]++(cK [Value.int .u8 0] n++cK [Value.int .u8 0] (cp-n))).toArray:=by simp
   rw[e2];exact SL.new hS.drew
 have:n=0:=by omega
 exact⟨_,rfl,bI.nil hS⟩
def Has.app{c:Μ}:∀{p F:Β},Has c p->Has c (app p F)
 | _::_,_,.hd=>.hd
 | _::_,_,.tl h=>.tl h.app
def Sx{α:Type}{bs:List (List α)}{i:Nat}(h:i<bs.length):(bs.take (i+1)).flatten=(bs.take i).flatten++bs[i]:=by
 rw[wwt,zzd h,yys];simp only[Option.toList_some,zz5,xxz,zzx]
def ED{α:Type}(bs:List (List α))(i:Nat):(bs.take i).flatten.length<=bs.flatten.length:=by
 have:bs.flatten=(bs.take i).flatten++(bs.drop i).flatten:=by rw[<- yys,yyl]
 rw[this,zza];omega
def ZD(p n:Nat)(t:Ι)(vs:Ξ)(bs:List (Φ))(Xs:Β)(hn:vs.length=n)(hb:bs.length=n)(hx:∀i (h:i<n),∃X,Has X Xs/\dP X (vs[i]'(by omega)) (bs[i]'(by omega)))(hN:bs.flatten.length<=100000000)(xq:n<=100):
  SP 334 [.slice (some ⟨p,0,none⟩) n n] (.pt p vs t::Xs) (λv post=>post= .ob (bI v 5 1 bs.flatten.length (bs.flatten.map cX))::Xs):=by
 refine Enzz λW F w hS=>?_;apply cIl;delta Oy aI ai bR;refine Gp ?_;refine⟨λus w=>∃i:Nat,i<=n/\us=[Γ ((bs.take i).flatten.length:Nat),Γ i]/\SL W (.pt p vs t::app Xs F) w,λus _=>match us with
  | [_,.int _ i]=>n-i.toNat
  | _=>0,⟨0,by omega,by simp,hS⟩,?_⟩
 rintro v1 v2 w1 ⟨i,hi,hv,hS⟩;cases hv;have hle:=ED bs i;refine bY (λh=>?_) (λh=>?_)
 ·have hi:i<n:=by omega
  obtain⟨X,hX,hr⟩:=hx i hi;refine zG (j:=i) hi ?_;refine zV hS .hd (v:=vs[i]'(by omega)) (by rw[zzd (by omega)];congr 2;omega) ?_;refine yp hS (.tl hX.app) hr ?_;have e:=Sx (bs:=bs) (i:=i) (by omega);have bUc:=ED bs (i+1);have el:(bs.take (i+1)).flatten.length=(bs.take i).flatten.length+(bs[i]'(by omega)).length:=by rw[e,zza]
  refine Gp ?_;refine za (λh=>by omega) (λh=>?_);refine Gp ?_;refine⟨⟨i+1,by omega,?_,hS⟩,?_⟩
  ·rw[el]
  simp only[zzw];omega
 obtain rfl:i=n:=by omega
 have ef:bs.take i=bs:=zz2 (by omega);rw[ef];refine yI (F:=.pt p vs t::app Xs F) (bF7 bs.flatten.length (by omega)) hS gx.nil ?_;clear hS;rintro v post rfl w hS;(try simp only[app]at hS);refine Gp ?_;refine⟨λus w=>∃(j:Nat) (u:Ε),j<=i/\us=[u,Γ j]/\SL W (.ob (bI u 5 1 (bs.take j).flatten.length ((bs.take j).flatten.map cX))::.pt p vs t::app Xs F) w,λus _=>match us with
  | [_,.int _ j]=>i-j.toNat
  | _=>0,⟨0,v,by omega,rfl,hS⟩,?_⟩
 rintro v1 v2 w2 ⟨j,u,hj,hv,hS⟩;cases hv;have hle:=ED bs j;refine bY (λh=>?_) (λh=>?_)
 ·have hj:j<i:=by omega
  obtain⟨X,hX,hr⟩:=hx j hj;refine zG (j:=j) hj ?_;refine zV hS Xh (v:=vs[j]'(by omega)) (by rw[zzd (by omega)];congr 2;omega) ?_;have e:=Sx (bs:=bs) (i:=j) (by omega);have bUc:=ED bs (j+1);have el:(bs.take (j+1)).flatten.length=(bs.take j).flatten.length+(bs[j]'(by omega)).length:=by rw[e,zza]
  refine zJ hS .hd (hr.src hS (.tl (.tl hX.app))) (by simp) rfl (uQ _) (by omega) (by omega) ?_;clear hS;intro v' w hS;refine Gp ?_;refine⟨⟨j+1,v',by omega,rfl,?_⟩,?_⟩
  ·rw[el,e,zzs];exact hS
  simp only[zzw];omega
 obtain rfl:j=i:=by omega
 rw[ef]at hS
 exact⟨_,rfl,SL.bZ hS (.cons .hd (by
  have:jS (app Xs F) (.pt p vs t::app Xs F):=jS.drop .refl;exact this))⟩
def sQ(X:Μ)(q:Φ)(r:Ε)(post:Β):Prop:=
 if 1048576<q.length then r= .tuple #[Θ,Γ 1]/\post=[X]
 else ∃u,r= .tuple #[u,Γ 0]/\post=[.ob (bI u 5 1 (cZ q).length ((cZ q).map cX)),X]
def sQ.big{X:Μ}{q:Φ}(h:1048576<q.length):sQ X q (.tuple #[Θ,Γ 1]) [X]:=by
 unfold sQ;rw[zzc h];exact⟨rfl,rfl⟩
def sQ.ok{X:Μ}{q:Φ}(h:q.length<=1048576)(u:Ε):sQ X q (.tuple #[u,Γ 0]) [.ob (bI u 5 1 (cZ q).length ((cZ q).map cX)),X]:=by
 unfold sQ;rw[zzb (wwi.2 h)];exact⟨u,rfl,rfl⟩
def Z9(X:Μ)(v:Ε)(q:Φ)(hq:dP X v q)(hN:q.length<=140737488355328):SP 310 [v] [X] (sQ X q):=by
 refine Enzz λW F w hS=>?_;apply cH4;delta Oe aI aR ai bR;refine yp hS .hd hq ?_;refine bY (λh=>?_) (λh=>?_)
 ·exact⟨_,.big (by omega),hS⟩
 obtain⟨a,c,rfl,hc⟩:=hq.sl hS .hd;refine Cc (VM X _ q hq (by omega)) ?_;clear hS;rintro v9 post ⟨u,rfl,rfl⟩ w hS;(try simp only[app]at hS);have hu:=hS.rD .hd;obtain⟨au,cu,e,_⟩:=bI.at hS .hd;subst e;refine Gm λb w hS=>?_;refine yH hS (vs:=[.slice a q.length c]) Xh rfl (λj v e=>?_) ?_
 ·match j,e with
  | 0,e=>exact e
 refine Gp ?_;refine Cc (YO a q.length c (by omega)) ?_;clear hS;rintro v12 post rfl w hS;(try simp only[app]at hS);obtain⟨a12,B7,e,_⟩:=bI.at hS .hd;subst e;refine Gm λb w hS=>?_;refine yI (F:=_) (ZD _ 3 _ [_,_,_] [four q.length,four (sumOf q),q] [.ob (bI (.slice a12 4 B7) 5 1 4 ((four q.length).map cX)),.ob (bI (.slice au 4 cu) 5 1 4 ((four (sumOf q)).map cX)),X] rfl rfl ?_ ?_ (by omega)) hS Xp ?_
 ·intro i hi
  match i,hi with
  | 0,_=>exact⟨_,.hd,dP.own (b:=four q.length)⟩
  | 1,_=>exact⟨_,.tl .hd,dP.own (b:=four (sumOf q))⟩
  | 2,_=>exact⟨_,.tl (.tl .hd),hq⟩
 ·simp[Az];omega
 clear hS;rintro v post rfl w hS;(try simp only[app]at hS);have e:[four q.length,four (sumOf q),q].flatten=cZ q:=by simp[cZ]
 rw[e]at hS
 exact⟨_,.ok (by omega) v,aW hS⟩
def orW{a b:Nat}(ha:a<9223372036854775808)(hb:b<9223372036854775808):jw .or (Γ (a:Int)) (Γ (b:Int))=some (Γ ((a ||| b:Nat):Int)):=by
 have h:(a ||| b)<9223372036854775808:=Nat.or_lt_two_pow (n:=63) ha hb;simp only[jw,ww8];congr 2;have e1:(BitVec.ofInt IntKind.i64.bits (a:Int))=BitVec.ofNat 64 a:=vvx 64 a;have e2:(BitVec.ofInt IntKind.i64.bits (b:Int))=BitVec.ofNat 64 b:=vvx 64 b;rw[e1,e2];have e3:(BitVec.ofNat 64 a ||| BitVec.ofNat 64 b).toNat=a ||| b:=by
  rw[BitVec.toNat_or,uub,uub,ww1 (by omega),ww1 (by omega)]
 show IntKind.i64.wrap (((BitVec.ofNat 64 a ||| BitVec.ofNat 64 b).toNat:Nat):Int)=_;rw[e3,wwe _ (by omega)]
def Kk{a b k:Nat}{K:Ε->Prop}(ha:a*2 ^ k<9223372036854775808)(hb:b<2 ^ k)(q_:b<9223372036854775808)(h:K (Γ ((a*2 ^ k+b:Nat):Int))):zc .or (Γ ((a*2 ^ k:Nat):Int)) (Γ (b:Int)) K:=by
 refine⟨_,orW ha q_,?_⟩;have:a*2 ^ k ||| b=a*2 ^ k+b:=by rw[<- ttg,Nat.shiftLeft_add_eq_or_of_lt hb]
 rw[this];exact h
def Y5{a n:Nat}{K:Ε->Prop}(hn:n<=64)(ha:a*2 ^ n<9223372036854775808)(h:K (Γ ((a*2 ^ n:Nat):Int))):zc .shl (Γ (a:Int)) (.int .u64 (n:Int)) K:=by
 refine⟨Γ ((a*2 ^ n:Nat):Int),?_,h⟩;have h1:¬((n:Int)<0):=by omega
 simp only[jw,h1,vvo];rw[show min (n:Int).toNat IntKind.i64.bits=n by simp only[IntKind.bits];omega];congr 2;rw[show (a:Int)*2 ^ n=((a*2 ^ n:Nat):Int) by push_cast;rfl];exact wwe _ (by omega)
def tR(X:Μ)(q:Φ)(r:Ε)(post:Β):Prop:=match gQ q with
 | .error e=>r= .tuple #[Θ,Γ 0,Γ e]/\post=[X]
 | .ok (p,n)=>∃u,r= .tuple #[u,Γ (n:Nat),Γ 0]/\post=[.ob (bI u 5 1 p.length (p.map cX)),X]
def tR.er{X:Μ}{q:Φ}{e:Int}(h:gQ q= .error e):tR X q (.tuple #[Θ,Γ 0,Γ e]) [X]:=by
 unfold tR;rw[h];exact⟨rfl,rfl⟩
def tR.ok{X:Μ}{q p:Φ}{n:Nat}(h:gQ q= .ok (p,n))(u:Ε):tR X q (.tuple #[u,Γ (n:Nat),Γ 0]) [.ob (bI u 5 1 p.length (p.map cX)),X]:=by
 unfold tR;rw[h];exact⟨u,rfl,rfl⟩
def cBl{q:Φ}(h:q.length<8):gQ q= .error 2:=by unfold gQ;rw[zzc h]
def cBm{q:Φ}(h:8<=q.length)(h2:1048576<ja q):gQ q= .error 3:=by unfold gQ;rw[zzb (wwi.2 h),zzc h2]
def cBn{q:Φ}(h:8<=q.length)(h2:ja q<=1048576)(h3:q.length<8+ja q):gQ q= .error 2:=by unfold gQ;rw[zzb (wwi.2 h),zzb (wwi.2 h2),zzc h3]
def cBo{q:Φ}(h:8<=q.length)(h2:ja q<=1048576)(h3:8+ja q<=q.length)(h4:four (sumOf ((q.drop 8).take (ja q)))≠(q.drop 4).take 4):gQ q= .error 4:=by unfold gQ;rw[zzb (wwi.2 h),zzb (wwi.2 h2),zzb (wwi.2 h3),zzc h4]
def cBq{q:Φ}(h:8<=q.length)(h2:ja q<=1048576)(h3:8+ja q<=q.length)(h4:four (sumOf ((q.drop 8).take (ja q)))=(q.drop 4).take 4):gQ q= .ok ((q.drop 8).take (ja q),8+ja q):=by unfold gQ;rw[zzb (wwi.2 h),zzb (wwi.2 h2),zzb (wwi.2 h3),zzb (not_not_intro h4)]
def YP(X:Μ)(v:Ε)(q:Φ)(hq:dP X v q)(hN:q.length<=140737488355328):SP 324 [v] [X] (tR X q):=by
 refine Enzz λW F w hS=>?_;apply cIa;delta Ol aI a_ cL ai bR;refine yp hS .hd hq ?_;refine bY (λh=>?_) (λh=>?_)
 ·exact⟨_,.er (cBl (by omega)),hS⟩
 have h8:8<=q.length:=by omega
 refine Gn λw hS=>?_;have g0:=q[0].toNat_lt;have g1:=q[1].toNat_lt;have g2:=q[2].toNat_lt;have g3:=q[3].toNat_lt;have hn:ja q=((q[0].toNat*2 ^ 24+q[1].toNat*2 ^ 16)+q[2].toNat*2 ^ 8)+q[3].toNat:=by
  unfold ja;have hd:∀i (h:i<q.length),q.getD i 0=q[i]:=λi h=>by simp[vvv,h]
  rw[hd 0 (by omega),hd 1 (by omega),hd 2 (by omega),hd 3 (by omega)]
 refine yY (j:=0) hS .hd hq (by omega) ?_;refine yz (by omega) ?_;refine Y5 (n:=24) (by omega) (by omega) ?_;refine yY (j:=1) hS .hd hq (by omega) ?_;refine yz (by omega) ?_;refine Y5 (n:=16) (by omega) (by omega) ?_;refine Kk (k:=24) (by omega) (by omega) (by omega) ?_;refine yY (j:=2) hS .hd hq (by omega) ?_;refine yz (by omega) ?_;refine Y5 (n:=8) (by omega) (by omega) ?_;rw[show q[0].toNat*2 ^ 24+q[1].toNat*2 ^ 16=(q[0].toNat*2 ^ 8+q[1].toNat)*2 ^ 16 by omega];refine Kk (k:=16) (by omega) (by omega) (by omega) ?_;refine yY (j:=3) hS .hd hq (by omega) ?_;refine yz (by omega) ?_;rw[show (q[0].toNat*2 ^ 8+q[1].toNat)*2 ^ 16+q[2].toNat*2 ^ 8=((q[0].toNat*2 ^ 8+q[1].toNat)*2 ^ 8+q[2].toNat)*2 ^ 8 by omega];refine Kk (k:=8) (by omega) (by omega) (by omega) ?_;rw[show ((q[0].toNat*2 ^ 8+q[1].toNat)*2 ^ 8+q[2].toNat)*2 ^ 8+q[3].toNat=ja q by omega];clear hn g0 g1 g2 g3;have dd:=bZn q;generalize hk:ja q=k at *
 refine bY (λh2=>?_) (λh2=>?_)
 ·exact⟨_,.er (cBm h8 (by omega)),hS⟩
 refine yp hS .hd hq ?_;refine Zz (a:=8) (b:=k) (by omega) ?_;refine bY (λh3=>?_) (λh3=>?_)
 ·exact⟨_,.er (cBn h8 (by omega) (by omega)),hS⟩
 refine Zz (a:=8) (b:=k) (by omega) ?_;refine WG (lo:=8) (hi:=8+k) hS .hd hq (by omega) (by omega) ?_;intro v44 EL;rw[show 8+k-8=k by omega]at EL
 have cMw:((q.drop 8).take k).length=k:=by rw[zzf,zzr];omega
 generalize hp:(q.drop 8).take k=p at *
 obtain⟨a,c,e,hc⟩:=EL.sl hS .hd;subst e;refine Cc (VM X _ p EL (by omega)) ?_;clear hS;rintro v9 post ⟨u,rfl,rfl⟩ w hS;(try simp only[app]at hS);obtain⟨au,cu,e,_⟩:=bI.at hS .hd;subst e;refine Gm λb w hS=>?_;refine WG (lo:=4) (hi:=8) hS Xh hq (by omega) (by omega) ?_;intro v49 SQ;rw[show 8-4=4 from rfl]at SQ
 refine Cc (Qr (.ob (bI (.slice au 4 cu) 5 1 4 ((four (sumOf p)).map cX))) X _ v49 (four (sumOf p)) ((q.drop 4).take 4) (dP.own (b:=four (sumOf p))) SQ (by rw[Az];omega)) ?_;clear hS;rintro v post ⟨rfl,rfl⟩ w hS;(try simp only[app]at hS);refine z7 ?_;by_cases h4:four (sumOf p)=(q.drop 4).take 4
 ·rw[zzl h4];refine zp ?_;refine Gp ?_;refine Zn (cs:=p.map cX) hS (λw' c gA=>EL.src gA Xh) (by simp) (uQ _) (by omega) ?_;clear hS;intro u' w hS _;refine Zz (a:=8) (b:=k) (by omega) ?_;have ht:=cBq h8 (by omega) (by omega) (by rw[hk,hp];exact h4);rw[hk,hp]at ht
  exact⟨_,.ok ht u',aW hS⟩
 rw[zzz h4];refine zq ?_;exact⟨_,.er (cBo h8 (by omega) (by omega) (by rw[hk,hp];exact h4)),aW hS⟩

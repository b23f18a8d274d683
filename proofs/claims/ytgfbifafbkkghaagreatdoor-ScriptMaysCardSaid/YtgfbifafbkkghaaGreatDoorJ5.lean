/- Part. -/
import Derived.Test.YtgfbifafbkkghaaGreatDoorJ4
import Derived.Lib.AppendZerosOnto
namespace Go.Proofs.YtgfbifafbkkghaaGreatDoor
set_option linter.all false
set_option maxRecDepth 100000
open Go.RowKit Go.Proofs.Tryz
def xxb:=@List.take_of_length_le
def xx4:=@List.take_add_one
def yyw:=@underlying34
def yy1:=@List.flatten_append
def xxs:=@List.flatten_nil
def vvl:=@BitVec.ofInt_natCast
def vvz:=@BitVec.toNat_ofNat
def vvq:=@Nat.shiftLeft_eq
def vva:=@Nat.shiftLeft_add_eq_or_of_lt
def BF(a:Addr)(i j:Nat):(a.add i).add j=a.add (i+j):=by
 unfold Addr.add;by_cases hi:i=0
 ·subst hi;simp
 by_cases hj:j=0
 ·subst hj;simp[hi]
 rw[zzb hi,zzb hj,zzb (by omega)];simp[ww3]
structure bN(X:Μ)(v:Ε)(b:Φ):Prop where
 sl:∀{W w:Ζ} {l:Β},SL W l w->Has X l->∃a c,v= .slice a b.length c/\b.length<=c
 src:∀{W w:Ζ} {l:Β},SL W l w->Has X l->il w 1 v b.length (b.map bo)
def bN.own{v:Ε}{t:Ι}{b:Φ}:bN (.ob (aY v t 1 b.length (b.map bo))) v b:=
 ⟨λh m=>by
  obtain⟨l2,r⟩:=m.rem;rcases aY.open (h.perm r.perm) with ⟨⟨a',rfl⟩,h0,_,_⟩|⟨b',Jq,rest,rfl,hc,_⟩
  ·rw[h0];exact⟨a',0,rfl,zzz _⟩
  exact⟨_,_,rfl,hc⟩,λh m=>iG h m⟩
def bN.rd{H:aX}{v:Ε}{b:Φ}(h:bK H 1 v b.length (b.map bo)):bN (.mem H) v b:=
 ⟨λ_ _=>by obtain⟨_,a,cap,e,hc,_⟩:=h;exact⟨a,cap,e,hc⟩,λhS m=>sh hS m h⟩
def bN.nil{X:Μ}{a:Option Addr}{c:Nat}:bN X (.slice a 0 c) []:=
 ⟨λ_ _=>⟨a,c,rfl,yye _⟩,λ_ _=>by cases a with|none=>exact⟨rfl,rfl⟩|some p=>exact⟨rfl,rfl,λj v e=>by simp at e⟩⟩
def bN.sub{X:Μ}{a:Option Addr}{n c l h:Nat}{b:Φ}(hb:bN X (.slice a n c) b)(hn:n=b.length)(hc:n<=c)(h1:l<=h)(h2:h<=n):bN X (.slice (if c=l then a else a.map (·.add (l*1))) (h-l) (c-l)) ((b.drop l).take (h-l)):=by
 have hlen:((b.drop l).take (h-l)).length=h-l:=by rw[zzn,zz0];omega
 refine⟨λ_ _=>⟨_,_,by rw[hlen],by omega⟩,λhS m=>?_⟩;have hs:=hb.src hS m;rw[wwl];by_cases na:c=l
 ·rw[zzd na];have:(b.drop l).take (h-l)=[]:=zzm (by omega);rw[this];have e0:h-l=0:=by omega
  rw[e0];cases a with
  | none=>exact⟨rfl,rfl⟩
  | some p=>exact⟨rfl,rfl,λj v e=>by simp at e⟩
 rw[zzb na];cases a with
 | none=>
  obtain⟨e1,e2⟩:=hs;have:b=[]:=by simpa using e2
  subst this;exact⟨hlen,by simp⟩
 | some p=>
  obtain⟨e1,e2,e3⟩:=hs;refine⟨hlen,by simp,λj v e=>?_⟩;rw[BF];refine e3 (l+j) v ?_;rw[List.map_take,List.map_drop,List.getElem?_take]at e
  split at e
  ·rw[List.getElem?_drop]at e;exact e
  cases e
section
variable {W w:Ζ} {l:Β} {X:Μ} {v:Ε} {b:Φ}
def bN.one(hb:bN X v b)(hS:SL W l w)(m:Has X l):v.oneCell'=true:=by
 obtain⟨a,c,rfl,_⟩:=hb.sl hS m;rfl
def zN{K:Ε->Prop}(hS:SL W l w)(m:Has X l)(hb:bN X v b)(k:K (Γ b.length)):zd v K:=by
 obtain⟨a,c,rfl,_⟩:=hb.sl hS m;exact zY k
def yA{j:Nat}{kk:IntKind}{K:Ε->Prop}(hS:SL W l w)(m:Has X l)(hb:bN X v b)(hj:j<b.length)(hK:K (bo b[j])):zj 1 v (.int kk (j:Int)) λp=>bx p w K:=by
 obtain⟨a,c,rfl,_⟩:=hb.sl hS m;have hs:=hb.src hS m;cases a with
 | none=>
  have:b=[]:=by simpa using hs.2
  subst this;simp at hj
 | some p=>
  refine⟨p,_,c,kk,j,rfl,rfl,hj,?_⟩;refine⟨_,_,rfl,(by rw[wwl];exact hs.2.2 j (bo b[j]) (by simp[hj])),?_⟩;exact hK
def qd{lo hi:Nat}{k1 k2:IntKind}{K:Ε->Prop}(hS:SL W l w)(m:Has X l)(hb:bN X v b)(h1:lo<=hi)(h2:hi<=b.length)(hK:∀u,bN X u ((b.drop lo).take (hi-lo))->K u):dD 1 v (some (.int k1 (lo:Int))) (some (.int k2 (hi:Int))) none K:=by
 obtain⟨a,c,rfl,hc⟩:=hb.sl hS m;exact⟨a,_,c,lo,hi,c,rfl,rfl,⟨k2,rfl⟩,⟨k1,rfl⟩,h1,by omega,zzz _,hK _ (hb.sub rfl hc h1 h2)⟩
def Ql{lo:Nat}{k1:IntKind}{K:Ε->Prop}(hS:SL W l w)(m:Has X l)(hb:bN X v b)(h1:lo<=b.length)(hK:∀u,bN X u (b.drop lo)->K u):dD 1 v (some (.int k1 (lo:Int))) none none K:=by
 obtain⟨a,c,rfl,hc⟩:=hb.sl hS m;refine⟨a,_,c,lo,b.length,c,rfl,rfl,rfl,⟨k1,rfl⟩,h1,hc,zzz _,hK _ ?_⟩;have:=hb.sub rfl hc h1 (zzz _)
 rwa [show (b.drop lo).take (b.length-lo)=b.drop lo from xxb (by simp)]at this
def Qk{hi:Nat}{k2:IntKind}{K:Ε->Prop}(hS:SL W l w)(m:Has X l)(hb:bN X v b)(h2:hi<=b.length)(hK:∀u,bN X u (b.take hi)->K u):dD 1 v none (some (.int k2 (hi:Int))) none K:=by
 obtain⟨a,c,rfl,hc⟩:=hb.sl hS m;refine⟨a,_,c,0,hi,c,rfl,rfl,⟨k2,rfl⟩,rfl,yye _,by omega,zzz _,hK _ ?_⟩;have:=hb.sub rfl hc (yye hi) h2;simpa using this
def Qn{a b:Int}{K:Ε->Prop}(h:K (.int .u32 (ue a b))):zc .xor (.int .u32 a) (.int .u32 b) K:=⟨_,rfl,h⟩
def aih{a b:Int}{K:Ε->Prop}(h:K (.int .u32 (I9 a b))):zc .and (.int .u32 a) (.int .u32 b) K:=⟨_,rfl,h⟩
def q9{a:Int}{K:Ε->Prop}(h:K (.int .u32 (xe a))):QZ (.int .u32 a) K:=⟨_,_,rfl,h⟩
def ZA{a:Int}{n:Nat}(hn:n<=32){K:Ε->Prop}(h:K (.int .u32 (a.fdiv (2 ^ n)))):zc .shr (.int .u32 a) (.int .u64 (n:Int)) K:=by
 refine⟨.int .u32 (a.fdiv (2 ^ n)),?_,h⟩;have h1:¬((n:Int)<0):=by omega
 simp only[gv,h1,wwq];rw[show min (n:Int).toNat IntKind.u32.bits=n by simp only[IntKind.bits];omega]
end
def wrap_u32{n:Int}(h0:0<=n)(h1:n<4294967296):IntKind.u32.wrap n=n:=by
 simp only[IntKind.wrap,IntKind.bits,IntKind.signed];simp;omega
def QW(c:Int)(x:Κ):SP 391 [.int .u32 c,bo x] [] (bj (.int .u32 (El c x)) []):=by
 refine Enzz λW F w hS=>?_;apply aZq;delta aF ai;refine zK ?_;rw[wrap_u32 (by omega) (by have:=x.toNat_lt;omega)];refine Qn ?_;refine⟨λvs w=>∃i:Nat,i<=8/\vs=[.int .u32 (uH i (ue c x.toNat)),Γ i]/\SL W F w,λvs _=>match vs with
  | [_,.int _ i]=>8-i.toNat
  | _=>0,⟨0,by omega,rfl,hS⟩,?_⟩
 rintro v1 v2 w1 ⟨i,hi,hv,hS⟩;cases hv;refine bw (λh=>?_) (λh=>?_)
 ·refine aih ?_;refine NZ ?_;refine ZA (n:=1) (by omega) ?_;have hb:uH (i+1) (ue c x.toNat)=w8 (uH i (ue c x.toNat)):=rfl;refine za (λh2=>?_) (λh2=>?_)
  ·refine Qn ?_;refine Gp ?_;refine⟨⟨i+1,by omega,?_,hS⟩,?_⟩
   ·rw[hb,w8,zzd h2]
   simp only[zzy];omega
  refine Gp ?_;refine⟨⟨i+1,by omega,?_,hS⟩,?_⟩
  ·rw[hb,w8,zzb h2]
  simp only[zzy];omega
 obtain rfl:i=8:=by omega
 exact⟨_,⟨rfl,rfl⟩,hS⟩
def Z9(X:Μ)(s:Int)(v:Ε)(b:Φ)(hb:bN X v b)(hN:b.length<=140737488355328):SP 384 [.int .u32 s,v] [X] (bj (.int .u32 (pV s b)) [X]):=by
 refine Enzz λW F w hS=>?_;apply aZo;delta aF ai;refine q9 ?_;refine zN hS .hd hb ?_;refine⟨λvs w=>∃i:Nat,i<=b.length/\vs=[.int .u32 ((b.take i).foldl El (xe s)),Γ i]/\SL W (X::F) w,λvs _=>match vs with
  | [_,.int _ i]=>b.length-i.toNat
  | _=>0,⟨0,by omega,rfl,hS⟩,?_⟩
 rintro v1 v2 w1 ⟨i,hi,hv,hS⟩;cases hv;refine bw (λh=>?_) (λh=>?_)
 ·have hi:i<b.length:=by omega
  refine yA hS .hd hb hi ?_;refine Cg (QW _ _) λw hS=>?_;refine⟨⟨i+1,by omega,?_,aI hS⟩,?_⟩
  ·rw[show b.take (i+1)=b.take i++[b[i]] by rw[xx4];simp[hi],wwz];rfl
  simp only[zzy];omega
 obtain rfl:i=b.length:=by omega
 refine q9 ?_;rw[zz6];exact⟨_,⟨rfl,rfl⟩,hS⟩
def aFs(X Y:Μ)(v u:Ε)(b c:Φ)(hb:bN X v b)(hc:bN Y u c)(hN:b.length<=140737488355328)(hM:c.length<=140737488355328)(p:Nat)(t:Ι):
  SP 370 [.slice (some ⟨p,0,none⟩) 2 2] [.pt p [u,v] t,X,Y] (bj (.int .u32 (pV (pV 0 c) b)) [X,Y]):=by
 refine Enzz λW F w hS=>?_;apply aZm;delta aF ai;refine Gp ?_;refine⟨λvs w=>(vs=[.int .u32 0,Γ 0]\/vs=[.int .u32 (pV 0 c),Γ 1]\/vs=[.int .u32 (pV (pV 0 c) b),Γ 2])/\SL W (.pt p [u,v] t::X::Y::F) w,λvs _=>match vs with
  | [_,.int _ i]=>2-i.toNat
  | _=>0,⟨.inl rfl,hS⟩,?_⟩
 rintro v1 v2 w1 ⟨hv,hS⟩;rcases hv with hv|hv|hv<;>cases hv
 ·refine Gp ?_;refine za (λh=>?_) (λh=>by omega);refine zM (j:=0) (by omega) ?_;refine zT hS Xh rfl ?_;refine Cg (Z9 Y 0 u c hc hM) λw hS=>?_;exact⟨⟨.inr (.inl rfl),aI hS⟩,Nat.lt_succ_self _⟩
 ·refine Gp ?_;refine za (λh=>?_) (λh=>by omega);refine zM (j:=1) (by omega) ?_;refine zT hS Xh rfl ?_;refine Cg (Z9 X _ v b hb hN) λw hS=>?_;exact⟨⟨.inr (.inr rfl),aI hS⟩,Nat.lt_succ_self _⟩
 refine Gp ?_;refine za (λh=>by omega) (λh=>?_);(exact bt hS)
def NY{P:Program}{w:Ζ}{t e ty:Ι}{a:Option Addr}{n c:Nat}{K:Ε->Prop}(ht:P.underlying t=some (.slice e))(h:K (Γ c)):dC P (Builtin.cap_ #[t] ty #[.slice a n c]) w K:=by
 refine⟨_,?_,h⟩;simp[Builtin.cap_,zzu ht,Result.andThen,goInt]
def wrap_u8(n:Int):Value.int .u8 (IntKind.u8.wrap n)=bo (cO n):=(V4 n).symm
def wrap_u64{n:Int}(h0:0<=n)(h1:n<18446744073709551616):IntKind.u64.wrap n=n:=by
 simp only[IntKind.wrap,IntKind.bits,IntKind.signed];simp;omega
def Z4(x:Int):SP 369 [.int .u32 x] [] (λv post=>post=[.ob (aY v 5 1 4 ((four x).map bo))]):=by
 refine Enzz λW F w hS=>?_;apply aZk;refine ZA (n:=24) (by omega) ?_;refine zK ?_;refine ZA (n:=16) (by omega) ?_;refine zK ?_;refine ZA (n:=8) (by omega) ?_;refine zK ?_;refine zK ?_;rw[wrap_u8,wrap_u8,wrap_u8,wrap_u8];refine zA (cells:=(four x).map bo) hS rfl ?_;intro b w' eF;exact⟨_,rfl,aY.full (n:=4) rfl eF⟩
def Yf(a:Option Addr)(n c:Nat)(hn:n<=1048576):SP 347 [.agg #[.slice a n c]] [] (λv post=>post=[.ob (aY v 5 1 4 ((four n).map bo))]):=by
 refine Enzz λW F w hS=>?_;apply aZd;delta aW;refine⟨[.slice a n c],rfl,?_⟩;refine Gm λb w hS=>?_;refine zK ?_;rw[wrap_u32 (by omega) (by omega)];refine Cc (Z4 n) ?_;clear hS;(rintro v post rfl w hS;(try simp only[app]at hS);(repeat (first|refine Gp ?_|refine Gw λw hS=>?_|refine Gb λb w hS=>?_)))
 exact⟨_,rfl,aI hS⟩
def q7(X:Μ)(v:Ε)(q:Φ)(hb:bN X v q)(hN:q.length<=1048576):SP 346 [v] [X] (λr post=>∃u,r= .agg #[v,u]/\post=[.ob (aY u 5 1 4 ((four (sumOf q)).map bo)),X]):=by
 refine Enzz λW F w hS=>?_;apply aZc;delta aZ;obtain⟨a,c,rfl,hc⟩:=hb.sl hS .hd;refine Gm λb w hS=>?_;refine Gm λb w hS=>?_;refine Cc (Yf a q.length c hN) ?_;clear hS;rintro v8 post rfl w hS;(try simp only[app]at hS);have h8:=hS.ml .hd;refine Gp ?_;refine zA (cells:=[v8,.slice a q.length c]) hS ?_ ?_
 ·obtain⟨a8,c8,e,_⟩:=aY.at hS .hd;subst e;rfl
 clear hS;intro p w hS;refine Gp ?_;refine Cg (aFs X (.ob (aY v8 5 1 4 ((four q.length).map bo))) (.slice a q.length c) v8 q (four q.length) hb (bN.own (b:=four q.length)) (by omega) (by rw[s3];omega) p _) λw hS=>?_;refine Cc (Z4 (sumOf q)) ?_;clear hS;rintro v12 post rfl w hS;(try simp only[app]at hS);have cT:=hS.ml .hd;obtain⟨a12,w_,e,_⟩:=aY.at hS .hd;subst e;refine Gn λw hS=>?_;exact⟨_,⟨_,rfl,rfl⟩,aI hS⟩
def qs(X Y:Μ)(v u:Ε)(b c:Φ)(hb:bN X v b)(hc:bN Y u c)(hN:b.length<=140737488355328):
  SP 352 [v,u] [X,Y] (bj (.bool (decide (b=c))) [X,Y]):=by
 refine Enzz λW F w hS=>?_;apply aZf;delta aF bc ai;refine zN hS .hd hb ?_;refine zN hS Xh hc ?_;refine bw (λh=>?_) (λh=>?_)
 ·rw[show decide (b=c)=false from zz5 (λe=>h (by rw[e]))];(exact bt hS)
 have hl:b.length=c.length:=by omega
 refine zN hS .hd hb ?_;refine⟨λvs w=>∃i:Nat,i<=b.length/\vs=[Γ i]/\b.take i=c.take i/\SL W (X::Y::F) w,λvs _=>match vs with
  | [.int _ i]=>b.length-i.toNat
  | _=>0,⟨0,by omega,rfl,by simp,hS⟩,?_⟩
 rintro v1 w1 ⟨i,hi,hv,he,hS⟩;cases hv;refine bw (λh=>?_) (λh=>?_)
 ·have hi:i<b.length:=by omega
  have hj:i<c.length:=by omega
  refine Gn λw hS=>?_;refine yA hS .hd hb hi ?_;refine yA hS Xh hc hj ?_;refine QS ?_;refine za (λh2=>?_) (λh2=>?_)
  ·rw[show decide (b=c)=false from zz5 (λe=>h2 (by subst e;rfl))];(exact bt hS)
  refine Gp ?_;have e1:b[i]=c[i]:=by
   apply UInt8.toNat_inj.1;omega
  refine⟨⟨i+1,by omega,rfl,?_,hS⟩,?_⟩
  ·rw[xx4,xx4,he];simp[hi,hj,e1]
  simp only[zzy];omega
 obtain rfl:i=b.length:=by omega
 have e:b=c:=by
  rw[zz6]at he
  rw[he,hl,zz6]
 rw[show decide (b=c)=true from zzr e];(exact bt hS)
def Tryz.LQ:(prog.info? 5).map (λi=>(i.zero,i.size,i.bytes))=some (some (.int .u8 0),1,1):=by kernel_rfl
def Qz(n:Nat)(hn:n<=140737488355328):SP 355 [Θ,Γ n] [] (λv post=>post=[.ob (aY v 5 1 0 [])]):=by
 refine Enzz λW F w hS=>?_;apply aZi;delta aF ai;refine Gp ?_;refine za (λh=>by omega) (λh=>?_);refine NY yyw ?_;refine bw (λh=>?_) (λh=>?_)
 ·refine NY yyw ?_;refine⟨none,0,0,0,0,0,rfl,rfl,⟨_,rfl⟩,rfl,zzz _,zzz _,zzz _,?_⟩;have hk:0<n:=by omega
  have e:(n:Int)-(((0:Nat):Int)-((0:Nat):Int))=((n:Nat):Int):=by omega
  rw[e];cases hi:prog.info? 5 with
  | none=>have:=Tryz.LQ;rw[hi]at this;cases this
  | some i=>
   have hI:=Tryz.LQ;rw[hi]at hI
   simp only[yyn,uuv,xxv]at hI;obtain⟨h1,h2,h3⟩:=hI;have pF:Builtin.nextslicecap (0+n) 0=n:=by
    unfold Builtin.nextslicecap;simp[hk]
   have Aa:=Go.Lib.run_append_grow_zeros (P:=prog) w 34 3 34 5 i (.int .u8 0) .i64 .i64 yyw zz9 hi h1 none 0 0 [] (by rw[h2];exact run_firstCells_none w.drew 1 0 _ _) n hk (by omega) (by omega) (by omega) (by rw[h3];omega) (by rw[pF,h3];omega);refine⟨_,_,Aa,?_⟩;generalize TN:grownCap w (0+n) 0 5=cp;have vt:n<=cp:=by
    have:=grownCap_ge w (0+n) 0 5;omega
   refine zY ?_;refine⟨_,_,_,0,0,cp,rfl,rfl,⟨_,rfl⟩,rfl,zzz _,yye _,zzz _,?_⟩;refine⟨_,rfl,?_⟩;have hb:(if cp=0 then (some (⟨w.heap.size,0,none⟩:Addr)) else (some (⟨w.heap.size,0,none⟩:Addr)).map (·.add (0*1)))=some ⟨w.heap.size,0,none⟩:=by
    split
    ·rfl
    simp[Addr.add]
   rw[hb,wwx,wwx];refine aY.mk (cells:=[]) (rest:=bq [.int .u8 0] n++bq [.int .u8 0] (cp-n)) (yye _) rfl ?_ ?_
   ·rw[zza,jS,jS];simp;omega
   have hz:∀k,Builtin.zeroCells (Value.cells (.int .u8 0)) k=(bq [.int .u8 0] k).toArray:=λk=>by
    rw[<- EG (Value.cells (.int .u8 0)) [.int .u8 0] rfl k,Array.toArray_toList]
   rw[hz,hz,zz2];have e2:([]:Ξ).toArray++(bq [Value.int .u8 0] n).toArray++(bq [Value.int .u8 0] (cp-n)).toArray=([]++(bq [Value.int .u8 0] n++bq [Value.int .u8 0] (cp-n))).toArray:=by simp
   rw[e2];exact SL.new hS.drew
 have:n=0:=by omega
 exact⟨_,rfl,aY.nil hS⟩
def Has.app{c:Μ}:∀{p F:Β},Has c p->Has c (app p F)
 | _::_,_,.hd=>.hd
 | _::_,_,.tl h=>.tl h.app
def Kc{α:Type}{bs:List (List α)}{i:Nat}(h:i<bs.length):(bs.take (i+1)).flatten=(bs.take i).flatten++bs[i]:=by
 rw[xx4,zzc h,yy1];simp only[Option.toList_some,zzt,xxs,zz4]
def xx{α:Type}(bs:List (List α))(i:Nat):(bs.take i).flatten.length<=bs.flatten.length:=by
 have:bs.flatten=(bs.take i).flatten++(bs.drop i).flatten:=by rw[<- yy1,yyk]
 rw[this,zza];omega
def Zs(p n:Nat)(t:Ι)(vs:Ξ)(bs:List Φ)(Xs:Β)(hn:vs.length=n)(hb:bs.length=n)(hx:∀i (h:i<n),∃X,Has X Xs/\bN X (vs[i]'(by omega)) (bs[i]'(by omega)))(hN:bs.flatten.length<=100000000)(kZ:n<=100):
  SP 321 [.slice (some ⟨p,0,none⟩) n n] (.pt p vs t::Xs) (λv post=>post= .ob (aY v 5 1 bs.flatten.length (bs.flatten.map bo))::Xs):=by
 refine Enzz λW F w hS=>?_;apply aY4;delta aF ai aZ;refine Gp ?_;refine⟨λus w=>∃i:Nat,i<=n/\us=[Γ ((bs.take i).flatten.length:Nat),Γ i]/\SL W (.pt p vs t::app Xs F) w,λus _=>match us with
  | [_,.int _ i]=>n-i.toNat
  | _=>0,⟨0,by omega,by simp,hS⟩,?_⟩
 rintro v1 v2 w1 ⟨i,hi,hv,hS⟩;cases hv;have hle:=xx bs i;refine bw (λh=>?_) (λh=>?_)
 ·have hi:i<n:=by omega
  obtain⟨X,hX,hr⟩:=hx i hi;refine zM (j:=i) hi ?_;refine zT hS .hd (v:=vs[i]'(by omega)) (by rw[zzc (by omega)];congr 2;omega) ?_;refine zN hS (.tl hX.app) hr ?_;have e:=Kc (bs:=bs) (i:=i) (by omega);have La:=xx bs (i+1);have el:(bs.take (i+1)).flatten.length=(bs.take i).flatten.length+(bs[i]'(by omega)).length:=by rw[e,zza]
  refine Gp ?_;refine za (λh=>by omega) (λh=>?_);refine Gp ?_;refine⟨⟨i+1,by omega,?_,hS⟩,?_⟩
  ·rw[el]
  simp only[zzy];omega
 obtain rfl:i=n:=by omega
 have ef:bs.take i=bs:=xxb (by omega);rw[ef];refine yJ (F:=.pt p vs t::app Xs F) (Qz bs.flatten.length (by omega)) hS eQ.nil ?_;clear hS;rintro v post rfl w hS;(try simp only[app]at hS);refine Gp ?_;refine⟨λus w=>∃(j:Nat) (u:Ε),j<=i/\us=[u,Γ j]/\SL W (.ob (aY u 5 1 (bs.take j).flatten.length ((bs.take j).flatten.map bo))::.pt p vs t::app Xs F) w,λus _=>match us with
  | [_,.int _ j]=>i-j.toNat
  | _=>0,⟨0,v,by omega,rfl,hS⟩,?_⟩
 rintro v1 v2 w2 ⟨j,u,hj,hv,hS⟩;cases hv;have hle:=xx bs j;refine bw (λh=>?_) (λh=>?_)
 ·have hj:j<i:=by omega
  obtain⟨X,hX,hr⟩:=hx j hj;refine zM (j:=j) hj ?_;refine zT hS Xh (v:=vs[j]'(by omega)) (by rw[zzc (by omega)];congr 2;omega) ?_;have e:=Kc (bs:=bs) (i:=j) (by omega);have La:=xx bs (j+1);have el:(bs.take (j+1)).flatten.length=(bs.take j).flatten.length+(bs[j]'(by omega)).length:=by rw[e,zza]
  refine zx hS .hd (hr.src hS (.tl (.tl hX.app))) (by simp) rfl (mB _) (by omega) (by omega) ?_;clear hS;intro v' w hS;refine Gp ?_;refine⟨⟨j+1,v',by omega,rfl,?_⟩,?_⟩
  ·rw[el,e,zzx];exact hS
  simp only[zzy];omega
 obtain rfl:j=i:=by omega
 rw[ef]at hS
 exact⟨_,rfl,SL.bA hS (.cons .hd (by
  have:gN (app Xs F) (.pt p vs t::app Xs F):=gN.drop .refl;exact this))⟩
def oA(X:Μ)(q:Φ)(r:Ε)(post:Β):Prop:=
 if 1048576<q.length then r= .tuple #[Θ,Γ 1]/\post=[X]
 else ∃u,r= .tuple #[u,Γ 0]/\post=[.ob (aY u 5 1 (cD q).length ((cD q).map bo)),X]
def oA.PY{X:Μ}{q:Φ}(h:1048576<q.length):oA X q (.tuple #[Θ,Γ 1]) [X]:=by
 unfold oA;rw[zzd h];exact⟨rfl,rfl⟩
def oA.ok{X:Μ}{q:Φ}(h:q.length<=1048576)(u:Ε):oA X q (.tuple #[u,Γ 0]) [.ob (aY u 5 1 (cD q).length ((cD q).map bo)),X]:=by
 unfold oA;rw[zzb (wwa.2 h)];exact⟨u,rfl,rfl⟩
def YZ(X:Μ)(v:Ε)(q:Φ)(hq:bN X v q)(hN:q.length<=140737488355328):SP 302 [v] [X] (oA X q):=by
 refine Enzz λW F w hS=>?_;apply aYo;delta aF ba ai aZ;refine zN hS .hd hq ?_;refine bw (λh=>?_) (λh=>?_)
 ·exact⟨_,.PY (by omega),hS⟩
 obtain⟨a,c,rfl,hc⟩:=hq.sl hS .hd;refine Cc (q7 X _ q hq (by omega)) ?_;clear hS;rintro v9 post ⟨u,rfl,rfl⟩ w hS;(try simp only[app]at hS);have hu:=hS.ml .hd;obtain⟨au,cu,e,_⟩:=aY.at hS .hd;subst e;refine Gm λb w hS=>?_;refine yl hS (vs:=[.slice a q.length c]) Xh rfl (λj v e=>?_) ?_
 ·match j,e with
  | 0,e=>exact e
 refine Gp ?_;refine Cc (Yf a q.length c (by omega)) ?_;clear hS;rintro v12 post rfl w hS;(try simp only[app]at hS);obtain⟨a12,w_,e,_⟩:=aY.at hS .hd;subst e;refine Gm λb w hS=>?_;refine yJ (F:=_) (Zs _ 3 _ [_,_,_] [four q.length,four (sumOf q),q] [.ob (aY (.slice a12 4 w_) 5 1 4 ((four q.length).map bo)),.ob (aY (.slice au 4 cu) 5 1 4 ((four (sumOf q)).map bo)),X] rfl rfl ?_ ?_ (by omega)) hS Xp ?_
 ·intro i hi
  match i,hi with
  | 0,_=>exact⟨_,.hd,bN.own (b:=four q.length)⟩
  | 1,_=>exact⟨_,.tl .hd,bN.own (b:=four (sumOf q))⟩
  | 2,_=>exact⟨_,.tl (.tl .hd),hq⟩
 ·simp[s3];omega
 clear hS;rintro v post rfl w hS;(try simp only[app]at hS);have e:[four q.length,four (sumOf q),q].flatten=cD q:=by simp[cD]
 rw[e]at hS
 exact⟨_,.ok (by omega) v,aI hS⟩
def Xx{a b:Nat}(ha:a<9223372036854775808)(hb:b<9223372036854775808):gv .or (Γ (a:Int)) (Γ (b:Int))=some (Γ ((a ||| b:Nat):Int)):=by
 have h:(a ||| b)<9223372036854775808:=Nat.or_lt_two_pow (n:=63) ha hb;simp only[gv,vvj];congr 2;have e1:(BitVec.ofInt IntKind.i64.bits (a:Int))=BitVec.ofNat 64 a:=vvl 64 a;have e2:(BitVec.ofInt IntKind.i64.bits (b:Int))=BitVec.ofNat 64 b:=vvl 64 b;rw[e1,e2];have e3:(BitVec.ofNat 64 a ||| BitVec.ofNat 64 b).toNat=a ||| b:=by
  rw[BitVec.toNat_or,vvz,vvz,wwm (by omega),wwm (by omega)]
 show IntKind.i64.wrap (((BitVec.ofNat 64 a ||| BitVec.ofNat 64 b).toNat:Nat):Int)=_;rw[e3,xxu _ (by omega)]
def Eb{a b k:Nat}{K:Ε->Prop}(ha:a*2 ^ k<9223372036854775808)(hb:b<2 ^ k)(j1:b<9223372036854775808)(h:K (Γ ((a*2 ^ k+b:Nat):Int))):zc .or (Γ ((a*2 ^ k:Nat):Int)) (Γ (b:Int)) K:=by
 refine⟨_,Xx ha j1,?_⟩;have:a*2 ^ k ||| b=a*2 ^ k+b:=by rw[<- vvq,vva hb]
 rw[this];exact h
def Yw{a n:Nat}{K:Ε->Prop}(hn:n<=64)(ha:a*2 ^ n<9223372036854775808)(h:K (Γ ((a*2 ^ n:Nat):Int))):zc .shl (Γ (a:Int)) (.int .u64 (n:Int)) K:=by
 refine⟨Γ ((a*2 ^ n:Nat):Int),?_,h⟩;have h1:¬((n:Int)<0):=by omega
 simp only[gv,h1,wwq];rw[show min (n:Int).toNat IntKind.i64.bits=n by simp only[IntKind.bits];omega];congr 2;rw[show (a:Int)*2 ^ n=((a*2 ^ n:Nat):Int) by push_cast;rfl];exact xxu _ (by omega)
def oB(X:Μ)(q:Φ)(r:Ε)(post:Β):Prop:=match fg q with
 | .error e=>r= .tuple #[Θ,Γ 0,Γ e]/\post=[X]
 | .ok (p,n)=>∃u,r= .tuple #[u,Γ (n:Nat),Γ 0]/\post=[.ob (aY u 5 1 p.length (p.map bo)),X]
def oB.er{X:Μ}{q:Φ}{e:Int}(h:fg q= .error e):oB X q (.tuple #[Θ,Γ 0,Γ e]) [X]:=by
 unfold oB;rw[h];exact⟨rfl,rfl⟩
def oB.ok{X:Μ}{q p:Φ}{n:Nat}(h:fg q= .ok (p,n))(u:Ε):oB X q (.tuple #[u,Γ (n:Nat),Γ 0]) [.ob (aY u 5 1 p.length (p.map bo)),X]:=by
 unfold oB;rw[h];exact⟨u,rfl,rfl⟩
def aF6{q:Φ}(h:q.length<8):fg q= .error 2:=by unfold fg;rw[zzd h]
def aF7{q:Φ}(h:8<=q.length)(h2:1048576<gq q):fg q= .error 3:=by unfold fg;rw[zzb (wwa.2 h),zzd h2]
def aF8{q:Φ}(h:8<=q.length)(h2:gq q<=1048576)(h3:q.length<8+gq q):fg q= .error 2:=by unfold fg;rw[zzb (wwa.2 h),zzb (wwa.2 h2),zzd h3]
def aF9{q:Φ}(h:8<=q.length)(h2:gq q<=1048576)(h3:8+gq q<=q.length)(h4:four (sumOf ((q.drop 8).take (gq q)))≠(q.drop 4).take 4):fg q= .error 4:=by unfold fg;rw[zzb (wwa.2 h),zzb (wwa.2 h2),zzb (wwa.2 h3),zzd h4]
def aIa{q:Φ}(h:8<=q.length)(h2:gq q<=1048576)(h3:8+gq q<=q.length)(h4:four (sumOf ((q.drop 8).take (gq q)))=(q.drop 4).take 4):fg q= .ok ((q.drop 8).take (gq q),8+gq q):=by unfold fg;rw[zzb (wwa.2 h),zzb (wwa.2 h2),zzb (wwa.2 h3),zzb (not_not_intro h4)]
def Yh(X:Μ)(v:Ε)(q:Φ)(hq:bN X v q)(hN:q.length<=140737488355328):SP 311 [v] [X] (oB X q):=by
 refine Enzz λW F w hS=>?_;apply aYt;delta aF aW bD ai aZ;refine zN hS .hd hq ?_;refine bw (λh=>?_) (λh=>?_)
 ·exact⟨_,.er (aF6 (by omega)),hS⟩
 have h8:8<=q.length:=by omega
 refine Gn λw hS=>?_;have g0:=q[0].toNat_lt;have g1:=q[1].toNat_lt;have g2:=q[2].toNat_lt;have g3:=q[3].toNat_lt;have hn:gq q=((q[0].toNat*2 ^ 24+q[1].toNat*2 ^ 16)+q[2].toNat*2 ^ 8)+q[3].toNat:=by
  unfold gq;have hd:∀i (h:i<q.length),q.getD i 0=q[i]:=λi h=>by simp[List.getD_eq_getElem?_getD,h]
  rw[hd 0 (by omega),hd 1 (by omega),hd 2 (by omega),hd 3 (by omega)]
 refine yA (j:=0) hS .hd hq (by omega) ?_;refine ya (by omega) ?_;refine Yw (n:=24) (by omega) (by omega) ?_;refine yA (j:=1) hS .hd hq (by omega) ?_;refine ya (by omega) ?_;refine Yw (n:=16) (by omega) (by omega) ?_;refine Eb (k:=24) (by omega) (by omega) (by omega) ?_;refine yA (j:=2) hS .hd hq (by omega) ?_;refine ya (by omega) ?_;refine Yw (n:=8) (by omega) (by omega) ?_;rw[show q[0].toNat*2 ^ 24+q[1].toNat*2 ^ 16=(q[0].toNat*2 ^ 8+q[1].toNat)*2 ^ 16 by omega];refine Eb (k:=16) (by omega) (by omega) (by omega) ?_;refine yA (j:=3) hS .hd hq (by omega) ?_;refine ya (by omega) ?_;rw[show (q[0].toNat*2 ^ 8+q[1].toNat)*2 ^ 16+q[2].toNat*2 ^ 8=((q[0].toNat*2 ^ 8+q[1].toNat)*2 ^ 8+q[2].toNat)*2 ^ 8 by omega];refine Eb (k:=8) (by omega) (by omega) (by omega) ?_;rw[show ((q[0].toNat*2 ^ 8+q[1].toNat)*2 ^ 8+q[2].toNat)*2 ^ 8+q[3].toNat=gq q by omega];clear hn g0 g1 g2 g3;have cA:=WV q;generalize hk:gq q=k at *
 refine bw (λh2=>?_) (λh2=>?_)
 ·exact⟨_,.er (aF7 h8 (by omega)),hS⟩
 refine zN hS .hd hq ?_;refine yk (a:=8) (b:=k) (by omega) ?_;refine bw (λh3=>?_) (λh3=>?_)
 ·exact⟨_,.er (aF8 h8 (by omega) (by omega)),hS⟩
 refine yk (a:=8) (b:=k) (by omega) ?_;refine qd (lo:=8) (hi:=8+k) hS .hd hq (by omega) (by omega) ?_;intro v44 xH;rw[show 8+k-8=k by omega]at xH
 have bcu:((q.drop 8).take k).length=k:=by rw[zzn,zz0];omega
 generalize hp:(q.drop 8).take k=p at *
 obtain⟨a,c,e,hc⟩:=xH.sl hS .hd;subst e;refine Cc (q7 X _ p xH (by omega)) ?_;clear hS;rintro v9 post ⟨u,rfl,rfl⟩ w hS;(try simp only[app]at hS);obtain⟨au,cu,e,_⟩:=aY.at hS .hd;subst e;refine Gm λb w hS=>?_;refine qd (lo:=4) (hi:=8) hS Xh hq (by omega) (by omega) ?_;intro v49 Ks;rw[show 8-4=4 from rfl]at Ks
 refine Cc (qs (.ob (aY (.slice au 4 cu) 5 1 4 ((four (sumOf p)).map bo))) X _ v49 (four (sumOf p)) ((q.drop 4).take 4) (bN.own (b:=four (sumOf p))) Ks (by rw[s3];omega)) ?_;clear hS;rintro v post ⟨rfl,rfl⟩ w hS;(try simp only[app]at hS);refine yb ?_;by_cases h4:four (sumOf p)=(q.drop 4).take 4
 ·rw[zzr h4];refine zs ?_;refine Gp ?_;refine Zb (cs:=p.map bo) hS (λw' c eF=>xH.src eF Xh) (by simp) (mB _) (by omega) ?_;clear hS;intro u' w hS _;refine yk (a:=8) (b:=k) (by omega) ?_;have ht:=aIa h8 (by omega) (by omega) (by rw[hk,hp];exact h4);rw[hk,hp]at ht
  exact⟨_,.ok ht u',aI hS⟩
 rw[zz5 h4];refine zt ?_;exact⟨_,.er (aF9 h8 (by omega) (by omega) (by rw[hk,hp];exact h4)),aI hS⟩

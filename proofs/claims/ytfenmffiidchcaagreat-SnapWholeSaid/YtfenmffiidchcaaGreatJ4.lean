/-
  Texts of the proof, joined: RecS.
-/
import Derived.Test.YtfenmffiidchcaaGreatJ3
import Derived.Test.YtfenmffiidchcaaGreatQVcR
import Derived.Lib.AppendZerosOnto
namespace Go.Proofs.YtfenmffiidchcaaGreat
set_option linter.unusedVariables false
set_option maxRecDepth 100000
open Go.RowKit
theorem Fx(a:Addr)(i j:Nat):(a.add i).add j=a.add (i+j):=by
 unfold Addr.add
 by_cases hi:i=0
 ·subst hi;simp
 ·by_cases hj:j=0
  ·subst hj;simp[hi]
  ·rw[if_neg hi,if_neg hj,if_neg (by omega)];simp[Nat.add_assoc]
structure ie(X:Chunk)(v:Value)(b:List UInt8):Prop where
 sl:∀{W w:World} {l:List Chunk},SL W l w->Has X l->∃a c,v= .slice a b.length c/\b.length<=c
 src:∀{W w:World} {l:List Chunk},SL W l w->Has X l->mN w 1 v b.length (b.map cR)
theorem ie.own{v:Value}{t:TypeId}{b:List UInt8}:ie (.ob (a_ v t 1 b.length (b.map cR))) v b:=
 ⟨λh m=>by
  obtain⟨l2,r⟩:=m.rem
  rcases a_.open (h.perm r.perm) with ⟨⟨a',rfl⟩,h0,_,_⟩|⟨b',uS,rest,rfl,hc,_⟩
  ·rw[h0];exact⟨a',0,rfl,Nat.le_refl _⟩
  ·exact⟨_,_,rfl,hc⟩,λh m=>pW h m⟩
theorem ie.rd{H:bw}{v:Value}{b:List UInt8}(h:gi H 1 v b.length (b.map cR)):ie (.mem H) v b:=
 ⟨λ_ _=>by obtain⟨_,a,cap,e,hc,_⟩:=h;exact⟨a,cap,e,hc⟩,λhS m=>si hS m h⟩
theorem ie.nil{X:Chunk}{a:Option Addr}{c:Nat}:ie X (.slice a 0 c) []:=
 ⟨λ_ _=>⟨a,c,rfl,Nat.zero_le _⟩,λ_ _=>by cases a with|none=>exact⟨rfl,rfl⟩|some p=>exact⟨rfl,rfl,λj v e=>by simp at e⟩⟩
theorem ie.sub{X:Chunk}{a:Option Addr}{n c l h:Nat}{b:List UInt8}(hb:ie X (.slice a n c) b)(hn:n=b.length)(hc:n<=c)(h1:l<=h)(h2:h<=n):ie X (.slice (if c=l then a else a.map (·.add (l*1))) (h-l) (c-l)) ((b.drop l).take (h-l)):=by
 have hlen:((b.drop l).take (h-l)).length=h-l:=by rw[List.length_take,List.length_drop];omega
 refine⟨λ_ _=>⟨_,_,by rw[hlen],by omega⟩,λhS m=>?_⟩
 have hs:=hb.src hS m
 rw[Nat.mul_one]
 by_cases kH:c=l
 ·rw[if_pos kH]
  have:(b.drop l).take (h-l)=[]:=List.eq_nil_of_length_eq_zero (by omega)
  rw[this]
  have e0:h-l=0:=by omega
  rw[e0]
  cases a with
  | none=>exact⟨rfl,rfl⟩
  | some p=>exact⟨rfl,rfl,λj v e=>by simp at e⟩
 ·rw[if_neg kH]
  cases a with
  | none=>
   obtain⟨e1,e2⟩:=hs
   have:b=[]:=by simpa using e2
   subst this
   exact⟨hlen,by simp⟩
  | some p=>
   obtain⟨e1,e2,e3⟩:=hs
   refine⟨hlen,by simp,λj v e=>?_⟩
   rw[Fx]
   refine e3 (l+j) v ?_
   rw[List.map_take,List.map_drop,List.getElem?_take]at e
   split at e
   ·rw[List.getElem?_drop]at e;exact e
   ·cases e
section
variable {W w:World} {l:List Chunk} {X:Chunk} {v:Value} {b:List UInt8}
theorem ie.one(hb:ie X v b)(hS:SL W l w)(m:Has X l):v.oneCell'=true:=by
 obtain⟨a,c,rfl,_⟩:=hb.sl hS m;rfl
theorem zI{K:Value->Prop}(hS:SL W l w)(m:Has X l)(hb:ie X v b)(k:K (.int .i64 b.length)):zd v K:=by
 obtain⟨a,c,rfl,_⟩:=hb.sl hS m
 exact yo k
theorem yF{j:Nat}{kk:IntKind}{K:Value->Prop}(hS:SL W l w)(m:Has X l)(hb:ie X v b)(hj:j<b.length)(hK:K (cR b[j])):ze 1 v (.int kk (j:Int)) λp=>b6 p w K:=by
 obtain⟨a,c,rfl,_⟩:=hb.sl hS m
 have hs:=hb.src hS m
 cases a with
 | none=>
  have:b=[]:=by simpa using hs.2
  subst this;simp at hj
 | some p=>
  refine⟨p,_,c,kk,j,rfl,rfl,hj,?_⟩
  refine⟨_,_,rfl,(by rw[Nat.mul_one];exact hs.2.2 j (cR b[j]) (by simp[hj])),?_⟩
  exact hK
theorem Z4{lo hi:Nat}{k1 k2:IntKind}{K:Value->Prop}(hS:SL W l w)(m:Has X l)(hb:ie X v b)(h1:lo<=hi)(h2:hi<=b.length)(hK:∀u,ie X u ((b.drop lo).take (hi-lo))->K u):iL 1 v (some (.int k1 (lo:Int))) (some (.int k2 (hi:Int))) none K:=by
 obtain⟨a,c,rfl,hc⟩:=hb.sl hS m
 exact⟨a,_,c,lo,hi,c,rfl,rfl,⟨k2,rfl⟩,⟨k1,rfl⟩,h1,by omega,Nat.le_refl _,hK _ (hb.sub rfl hc h1 h2)⟩
theorem YS{lo:Nat}{k1:IntKind}{K:Value->Prop}(hS:SL W l w)(m:Has X l)(hb:ie X v b)(h1:lo<=b.length)(hK:∀u,ie X u (b.drop lo)->K u):iL 1 v (some (.int k1 (lo:Int))) none none K:=by
 obtain⟨a,c,rfl,hc⟩:=hb.sl hS m
 refine⟨a,_,c,lo,b.length,c,rfl,rfl,rfl,⟨k1,rfl⟩,h1,hc,Nat.le_refl _,hK _ ?_⟩
 have:=hb.sub rfl hc h1 (Nat.le_refl _)
 rwa [show (b.drop lo).take (b.length-lo)=b.drop lo from List.take_of_length_le (by simp)]at this
theorem ZO{hi:Nat}{k2:IntKind}{K:Value->Prop}(hS:SL W l w)(m:Has X l)(hb:ie X v b)(h2:hi<=b.length)(hK:∀u,ie X u (b.take hi)->K u):iL 1 v none (some (.int k2 (hi:Int))) none K:=by
 obtain⟨a,c,rfl,hc⟩:=hb.sl hS m
 refine⟨a,_,c,0,hi,c,rfl,rfl,⟨k2,rfl⟩,rfl,Nat.zero_le _,by omega,Nat.le_refl _,hK _ ?_⟩
 have:=hb.sub rfl hc (Nat.zero_le hi) h2
 simpa using this
theorem ZP{a b:Int}{K:Value->Prop}(h:K (.int .u32 (xX a b))):zc .xor (.int .u32 a) (.int .u32 b) K:=⟨_,rfl,h⟩
theorem QC{a b:Int}{K:Value->Prop}(h:K (.int .u32 (NK a b))):zc .and (.int .u32 a) (.int .u32 b) K:=⟨_,rfl,h⟩
theorem ZN{a:Int}{K:Value->Prop}(h:K (.int .u32 (Ag a))):qD (.int .u32 a) K:=⟨_,_,rfl,h⟩
theorem Zt{a:Int}{n:Nat}(hn:n<=32){K:Value->Prop}(h:K (.int .u32 (a.fdiv (2 ^ n)))):zc .shr (.int .u32 a) (.int .u64 (n:Int)) K:=by
 refine⟨.int .u32 (a.fdiv (2 ^ n)),?_,h⟩
 have h1:¬((n:Int)<0):=by omega
 simp only[mr,h1,if_false]
 rw[show min (n:Int).toNat IntKind.u32.bits=n by simp only[IntKind.bits];omega]
end
theorem wrap_u32{n:Int}(h0:0<=n)(h1:n<4294967296):IntKind.u32.wrap n=n:=by
 simp only[IntKind.wrap,IntKind.bits,IntKind.signed]
 simp
 omega
theorem bRu(c:Int)(x:UInt8):SP 372 [.int .u32 c,cR x] [] (dW (.int .u32 (CZ c x)) []):=by
 intro W F w hS;apply b8d;delta MF aF ai;(try simp only[app]at hS)
 refine zL ?_
 rw[wrap_u32 (by omega) (by have:=x.toNat_lt;omega)]
 refine ZP ?_
 refine⟨λvs w=>∃i:Nat,i<=8/\vs=[.int .u32 (vL i (xX c x.toNat)),.int .i64 i]/\SL W F w,λvs _=>match vs with
  | [_,.int _ i]=>8-i.toNat
  | _=>0,⟨0,by omega,rfl,hS⟩,?_⟩
 rintro v1 v2 w1 ⟨i,hi,hv,hS⟩
 cases hv
 refine bW (λh=>?_) (λh=>?_)
 ·refine QC ?_
  refine IN ?_
  refine Zt (n:=1) (by omega) ?_
  have hb:vL (i+1) (xX c x.toNat)=wS (vL i (xX c x.toNat)):=rfl
  refine za (λh2=>?_) (λh2=>?_)
  ·refine ZP ?_
   refine Gp ?_
   refine⟨⟨i+1,by omega,?_,hS⟩,?_⟩
   ·rw[hb,wS,if_pos h2]
   ·simp only[Int.toNat_natCast];omega
  ·refine Gp ?_
   refine⟨⟨i+1,by omega,?_,hS⟩,?_⟩
   ·rw[hb,wS,if_neg h2]
   ·simp only[Int.toNat_natCast];omega
 ·obtain rfl:i=8:=by omega
  exact⟨_,⟨rfl,rfl⟩,hS⟩
theorem Yl(X:Chunk)(s:Int)(v:Value)(b:List UInt8)(hb:ie X v b)(hN:b.length<=140737488355328):SP 359 [.int .u32 s,v] [X] (dW (.int .u32 (l_ s b)) [X]):=by
 intro W F w hS;apply b8a;delta MC aF ai;(try simp only[app]at hS)
 refine ZN ?_
 refine zI hS .hd hb ?_
 refine⟨λvs w=>∃i:Nat,i<=b.length/\vs=[.int .u32 ((b.take i).foldl CZ (Ag s)),.int .i64 i]/\SL W (X::F) w,λvs _=>match vs with
  | [_,.int _ i]=>b.length-i.toNat
  | _=>0,⟨0,by omega,rfl,hS⟩,?_⟩
 rintro v1 v2 w1 ⟨i,hi,hv,hS⟩
 cases hv
 refine bW (λh=>?_) (λh=>?_)
 ·have hi:i<b.length:=by omega
  refine yF hS .hd hb hi ?_
  refine Cg (bRu _ _) λw hS=>?_
  refine⟨⟨i+1,by omega,?_,aR hS⟩,?_⟩
  ·rw[show b.take (i+1)=b.take i++[b[i]] by rw[List.take_add_one];simp[hi],List.foldl_append];rfl
  ·simp only[Int.toNat_natCast];omega
 ·obtain rfl:i=b.length:=by omega
  refine ZN ?_
  rw[List.take_length]
  exact⟨_,⟨rfl,rfl⟩,hS⟩
theorem bR0(X Y:Chunk)(v u:Value)(b c:List UInt8)(hb:ie X v b)(hc:ie Y u c)(hN:b.length<=140737488355328)(hM:c.length<=140737488355328)(p:Nat)(t:TypeId):
  SP 330 [.slice (some ⟨p,0,none⟩) 2 2] [.pt p [u,v] t,X,Y] (dW (.int .u32 (l_ (l_ 0 c) b)) [X,Y]):=by
 intro W F w hS;apply b70;delta Mt aF ai;(try simp only[app]at hS)
 refine Gp ?_
 refine⟨λvs w=>(vs=[.int .u32 0,.int .i64 0]\/vs=[.int .u32 (l_ 0 c),.int .i64 1]\/vs=[.int .u32 (l_ (l_ 0 c) b),.int .i64 2])/\SL W (.pt p [u,v] t::X::Y::F) w,λvs _=>match vs with
  | [_,.int _ i]=>2-i.toNat
  | _=>0,⟨.inl rfl,hS⟩,?_⟩
 rintro v1 v2 w1 ⟨hv,hS⟩
 rcases hv with hv|hv|hv<;>cases hv
 ·refine Gp ?_
  refine za (λh=>?_) (λh=>by omega)
  refine zB (j:=0) (by omega) ?_
  refine zX hS Xh rfl ?_
  refine Cg (Yl Y 0 u c hc hM) λw hS=>?_
  exact⟨⟨.inr (.inl rfl),aR hS⟩,Nat.lt_succ_self _⟩
 ·refine Gp ?_
  refine za (λh=>?_) (λh=>by omega)
  refine zB (j:=1) (by omega) ?_
  refine zX hS Xh rfl ?_
  refine Cg (Yl X _ v b hb hN) λw hS=>?_
  exact⟨⟨.inr (.inr rfl),aR hS⟩,Nat.lt_succ_self _⟩
 ·refine Gp ?_
  refine za (λh=>by omega) (λh=>?_)
  (exact eF hS)
end Go.Proofs.YtfenmffiidchcaaGreat

/-
  Texts of the proof, joined: RecS.
-/
import Derived.Test.YtfenmffiidchcaaGreatJ3
import Derived.Test.YtfenmffiidchcaaGreatQVcR
import Derived.Lib.AppendZerosOnto
namespace Go.Proofs.YtfenmffiidchcaaGreat
set_option linter.unusedVariables false
set_option maxRecDepth 100000
open Go.RowKit
theorem Dv(a:Addr)(i j:Nat):(a.add i).add j=a.add (i+j):=by
 unfold Addr.add
 by_cases hi:i=0
 ·subst hi;simp
 ·by_cases hj:j=0
  ·subst hj;simp[hi]
  ·rw[if_neg hi,if_neg hj,if_neg (by omega)];simp[Nat.add_assoc]
structure dN(X:Chunk)(v:Value)(b:List UInt8):Prop where
 sl:∀{W w:World} {l:List Chunk},SL W l w->Has X l->∃a c,v= .slice a b.length c/\b.length<=c
 src:∀{W w:World} {l:List Chunk},SL W l w->Has X l->jy w 1 v b.length (b.map cI)
theorem dN.own{v:Value}{t:TypeId}{b:List UInt8}:dN (.ob (a7 v t 1 b.length (b.map cI))) v b:=
 ⟨λh m=>by
  obtain⟨l2,r⟩:=m.rem
  rcases a7.open (h.perm r.perm) with ⟨⟨a',rfl⟩,h0,_,_⟩|⟨b',pM,rest,rfl,hc,_⟩
  ·rw[h0];exact⟨a',0,rfl,Nat.le_refl _⟩
  ·exact⟨_,_,rfl,hc⟩,λh m=>nc h m⟩
theorem dN.rd{H:aW}{v:Value}{b:List UInt8}(h:dy H 1 v b.length (b.map cI)):dN (.mem H) v b:=
 ⟨λ_ _=>by obtain⟨_,a,cap,e,hc,_⟩:=h;exact⟨a,cap,e,hc⟩,λhS m=>nQ hS m h⟩
theorem dN.nil{X:Chunk}{a:Option Addr}{c:Nat}:dN X (.slice a 0 c) []:=
 ⟨λ_ _=>⟨a,c,rfl,Nat.zero_le _⟩,λ_ _=>by cases a with|none=>exact⟨rfl,rfl⟩|some p=>exact⟨rfl,rfl,λj v e=>by simp at e⟩⟩
theorem dN.sub{X:Chunk}{a:Option Addr}{n c l h:Nat}{b:List UInt8}(hb:dN X (.slice a n c) b)(hn:n=b.length)(hc:n<=c)(h1:l<=h)(h2:h<=n):dN X (.slice (if c=l then a else a.map (·.add (l*1))) (h-l) (c-l)) ((b.drop l).take (h-l)):=by
 have hlen:((b.drop l).take (h-l)).length=h-l:=by rw[List.length_take,List.length_drop];omega
 refine⟨λ_ _=>⟨_,_,by rw[hlen],by omega⟩,λhS m=>?_⟩
 have hs:=hb.src hS m
 rw[Nat.mul_one]
 by_cases gj:c=l
 ·rw[if_pos gj]
  have:(b.drop l).take (h-l)=[]:=List.eq_nil_of_length_eq_zero (by omega)
  rw[this]
  have e0:h-l=0:=by omega
  rw[e0]
  cases a with
  | none=>exact⟨rfl,rfl⟩
  | some p=>exact⟨rfl,rfl,λj v e=>by simp at e⟩
 ·rw[if_neg gj]
  cases a with
  | none=>
   obtain⟨e1,e2⟩:=hs
   have:b=[]:=by simpa using e2
   subst this
   exact⟨hlen,by simp⟩
  | some p=>
   obtain⟨e1,e2,e3⟩:=hs
   refine⟨hlen,by simp,λj v e=>?_⟩
   rw[Dv]
   refine e3 (l+j) v ?_
   rw[List.map_take,List.map_drop,List.getElem?_take]at e
   split at e
   ·rw[List.getElem?_drop]at e;exact e
   ·cases e
section
variable {W w:World} {l:List Chunk} {X:Chunk} {v:Value} {b:List UInt8}
theorem dN.one(hb:dN X v b)(hS:SL W l w)(m:Has X l):v.oneCell'=true:=by
 obtain⟨a,c,rfl,_⟩:=hb.sl hS m;rfl
theorem zH{K:Value->Prop}(hS:SL W l w)(m:Has X l)(hb:dN X v b)(k:K (.int .i64 b.length)):zd v K:=by
 obtain⟨a,c,rfl,_⟩:=hb.sl hS m
 exact yk k
theorem yF{j:Nat}{kk:IntKind}{K:Value->Prop}(hS:SL W l w)(m:Has X l)(hb:dN X v b)(hj:j<b.length)(hK:K (cI b[j])):zh 1 v (.int kk (j:Int)) λp=>cR p w K:=by
 obtain⟨a,c,rfl,_⟩:=hb.sl hS m
 have hs:=hb.src hS m
 cases a with
 | none=>
  have:b=[]:=by simpa using hs.2
  subst this;simp at hj
 | some p=>
  refine⟨p,_,c,kk,j,rfl,rfl,hj,?_⟩
  refine⟨_,_,rfl,(by rw[Nat.mul_one];exact hs.2.2 j (cI b[j]) (by simp[hj])),?_⟩
  exact hK
theorem Z9{lo hi:Nat}{k1 k2:IntKind}{K:Value->Prop}(hS:SL W l w)(m:Has X l)(hb:dN X v b)(h1:lo<=hi)(h2:hi<=b.length)(hK:∀u,dN X u ((b.drop lo).take (hi-lo))->K u):eG 1 v (some (.int k1 (lo:Int))) (some (.int k2 (hi:Int))) none K:=by
 obtain⟨a,c,rfl,hc⟩:=hb.sl hS m
 exact⟨a,_,c,lo,hi,c,rfl,rfl,⟨k2,rfl⟩,⟨k1,rfl⟩,h1,by omega,Nat.le_refl _,hK _ (hb.sub rfl hc h1 h2)⟩
theorem YR{lo:Nat}{k1:IntKind}{K:Value->Prop}(hS:SL W l w)(m:Has X l)(hb:dN X v b)(h1:lo<=b.length)(hK:∀u,dN X u (b.drop lo)->K u):eG 1 v (some (.int k1 (lo:Int))) none none K:=by
 obtain⟨a,c,rfl,hc⟩:=hb.sl hS m
 refine⟨a,_,c,lo,b.length,c,rfl,rfl,rfl,⟨k1,rfl⟩,h1,hc,Nat.le_refl _,hK _ ?_⟩
 have:=hb.sub rfl hc h1 (Nat.le_refl _)
 rwa [show (b.drop lo).take (b.length-lo)=b.drop lo from List.take_of_length_le (by simp)]at this
theorem ZQ{hi:Nat}{k2:IntKind}{K:Value->Prop}(hS:SL W l w)(m:Has X l)(hb:dN X v b)(h2:hi<=b.length)(hK:∀u,dN X u (b.take hi)->K u):eG 1 v none (some (.int k2 (hi:Int))) none K:=by
 obtain⟨a,c,rfl,hc⟩:=hb.sl hS m
 refine⟨a,_,c,0,hi,c,rfl,rfl,⟨k2,rfl⟩,rfl,Nat.zero_le _,by omega,Nat.le_refl _,hK _ ?_⟩
 have:=hb.sub rfl hc (Nat.zero_le hi) h2
 simpa using this
theorem ZR{a b:Int}{K:Value->Prop}(h:K (.int .u32 (u9 a b))):zc .xor (.int .u32 a) (.int .u32 b) K:=⟨_,rfl,h⟩
theorem Qv{a b:Int}{K:Value->Prop}(h:K (.int .u32 (LS a b))):zc .and (.int .u32 a) (.int .u32 b) K:=⟨_,rfl,h⟩
theorem ZP{a:Int}{K:Value->Prop}(h:K (.int .u32 (vw a))):qy (.int .u32 a) K:=⟨_,_,rfl,h⟩
theorem Zs{a:Int}{n:Nat}(hn:n<=32){K:Value->Prop}(h:K (.int .u32 (a.fdiv (2 ^ n)))):zc .shr (.int .u32 a) (.int .u64 (n:Int)) K:=by
 refine⟨.int .u32 (a.fdiv (2 ^ n)),?_,h⟩
 have h1:¬((n:Int)<0):=by omega
 simp only[jk,h1,if_false]
 rw[show min (n:Int).toNat IntKind.u32.bits=n by simp only[IntKind.bits];omega]
end
theorem wrap_u32{n:Int}(h0:0<=n)(h1:n<4294967296):IntKind.u32.wrap n=n:=by
 simp only[IntKind.wrap,IntKind.bits,IntKind.signed]
 simp
 omega
theorem Q8(c:Int)(x:UInt8):SP 372 [.int .u32 c,cI x] [] (dj (.int .u32 (AR c x)) []):=by
 intro W F w hS;apply b5m;delta KR aF ai;(try simp only[app]at hS)
 refine zM ?_
 rw[wrap_u32 (by omega) (by have:=x.toNat_lt;omega)]
 refine ZR ?_
 refine⟨λvs w=>∃i:Nat,i<=8/\vs=[.int .u32 (sJ i (u9 c x.toNat)),.int .i64 i]/\SL W F w,λvs _=>match vs with
  | [_,.int _ i]=>8-i.toNat
  | _=>0,⟨0,by omega,rfl,hS⟩,?_⟩
 rintro v1 v2 w1 ⟨i,hi,hv,hS⟩
 cases hv
 refine bR (λh=>?_) (λh=>?_)
 ·refine Qv ?_
  refine GU ?_
  refine Zs (n:=1) (by omega) ?_
  have hb:sJ (i+1) (u9 c x.toNat)=tV (sJ i (u9 c x.toNat)):=rfl
  refine za (λh2=>?_) (λh2=>?_)
  ·refine ZR ?_
   refine Gp ?_
   refine⟨⟨i+1,by omega,?_,hS⟩,?_⟩
   ·rw[hb,tV,if_pos h2]
   ·simp only[Int.toNat_natCast];omega
  ·refine Gp ?_
   refine⟨⟨i+1,by omega,?_,hS⟩,?_⟩
   ·rw[hb,tV,if_neg h2]
   ·simp only[Int.toNat_natCast];omega
 ·obtain rfl:i=8:=by omega
  exact⟨_,⟨rfl,rfl⟩,hS⟩
theorem Yo(X:Chunk)(s:Int)(v:Value)(b:List UInt8)(hb:dN X v b)(hN:b.length<=140737488355328):SP 359 [.int .u32 s,v] [X] (dj (.int .u32 (iY s b)) [X]):=by
 intro W F w hS;apply b5j;delta KO aF ai;(try simp only[app]at hS)
 refine ZP ?_
 refine zH hS .hd hb ?_
 refine⟨λvs w=>∃i:Nat,i<=b.length/\vs=[.int .u32 ((b.take i).foldl AR (vw s)),.int .i64 i]/\SL W (X::F) w,λvs _=>match vs with
  | [_,.int _ i]=>b.length-i.toNat
  | _=>0,⟨0,by omega,rfl,hS⟩,?_⟩
 rintro v1 v2 w1 ⟨i,hi,hv,hS⟩
 cases hv
 refine bR (λh=>?_) (λh=>?_)
 ·have hi:i<b.length:=by omega
  refine yF hS .hd hb hi ?_
  refine Cg (Q8 _ _) λw hS=>?_
  refine⟨⟨i+1,by omega,?_,aR hS⟩,?_⟩
  ·rw[show b.take (i+1)=b.take i++[b[i]] by rw[List.take_add_one];simp[hi],List.foldl_append];rfl
  ·simp only[Int.toNat_natCast];omega
 ·obtain rfl:i=b.length:=by omega
  refine ZP ?_
  rw[List.take_length]
  exact⟨_,⟨rfl,rfl⟩,hS⟩
theorem a_a(X Y:Chunk)(v u:Value)(b c:List UInt8)(hb:dN X v b)(hc:dN Y u c)(hN:b.length<=140737488355328)(hM:c.length<=140737488355328)(p:Nat)(t:TypeId):
  SP 330 [.slice (some ⟨p,0,none⟩) 2 2] [.pt p [u,v] t,X,Y] (dj (.int .u32 (iY (iY 0 c) b)) [X,Y]):=by
 intro W F w hS;apply bW9;delta KE aF ai;(try simp only[app]at hS)
 refine Gp ?_
 refine⟨λvs w=>(vs=[.int .u32 0,.int .i64 0]\/vs=[.int .u32 (iY 0 c),.int .i64 1]\/vs=[.int .u32 (iY (iY 0 c) b),.int .i64 2])/\SL W (.pt p [u,v] t::X::Y::F) w,λvs _=>match vs with
  | [_,.int _ i]=>2-i.toNat
  | _=>0,⟨.inl rfl,hS⟩,?_⟩
 rintro v1 v2 w1 ⟨hv,hS⟩
 rcases hv with hv|hv|hv<;>cases hv
 ·refine Gp ?_
  refine za (λh=>?_) (λh=>by omega)
  refine zB (j:=0) (by omega) ?_
  refine zX hS Xh rfl ?_
  refine Cg (Yo Y 0 u c hc hM) λw hS=>?_
  exact⟨⟨.inr (.inl rfl),aR hS⟩,Nat.lt_succ_self _⟩
 ·refine Gp ?_
  refine za (λh=>?_) (λh=>by omega)
  refine zB (j:=1) (by omega) ?_
  refine zX hS Xh rfl ?_
  refine Cg (Yo X _ v b hb hN) λw hS=>?_
  exact⟨⟨.inr (.inr rfl),aR hS⟩,Nat.lt_succ_self _⟩
 ·refine Gp ?_
  refine za (λh=>by omega) (λh=>?_)
  (exact dq hS)
end Go.Proofs.YtfenmffiidchcaaGreat

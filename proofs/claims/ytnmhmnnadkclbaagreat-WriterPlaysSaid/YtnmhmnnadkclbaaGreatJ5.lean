/-
  Texts of the proof, joined: RecS, RecS2, RecS3.
-/
import Derived.Test.YtnmhmnnadkclbaaGreatJ4
import Derived.Test.YtnmhmnnadkclbaaGreatQVcR
import Derived.Lib.AppendZerosOnto
namespace Go.Proofs.YtnmhmnnadkclbaaGreat
set_option linter.unusedVariables false
set_option maxRecDepth 100000
open Go.RowKit
theorem addr_add2(a:Addr)(i j:Nat):(a.add i).add j=a.add (i+j):=by
 unfold Addr.add
 by_cases hi:i=0
 ·subst hi;simp
 ·by_cases hj:j=0
  ·subst hj;simp[hi]
  ·rw[if_neg hi,if_neg hj,if_neg (by omega)];simp[Nat.add_assoc]
structure Rdb(X:Chunk)(v:Value)(b:List UInt8):Prop where
 sl:∀{W w:World} {l:List Chunk},SL W l w→Has X l→∃a c,v= .slice a b.length c∧b.length≤c
 src:∀{W w:World} {l:List Chunk},SL W l w→Has X l→srcCells w 1 v b.length (b.map u8c)
theorem Rdb.own{v:Value}{t:TypeId}{b:List UInt8}:Rdb (.ob (OwnSl v t 1 b.length (b.map u8c))) v b:=
 ⟨λh m=>by
  obtain⟨l2,r⟩:=m.rem
  rcases OwnSl.open (h.perm r.perm) with ⟨⟨a',rfl⟩,h0,_,_⟩|⟨b',cap',rest,rfl,hc,_⟩
  ·rw[h0];exact⟨a',0,rfl,Nat.le_refl _⟩
  ·exact⟨_,_,rfl,hc⟩,λh m=>src_own h m⟩
theorem Rdb.rd{H:Heap}{v:Value}{b:List UInt8}(h:RdSl H 1 v b.length (b.map u8c)):Rdb (.mem H) v b:=
 ⟨λ_ _=>by obtain⟨_,a,cap,e,hc,_⟩:=h;exact⟨a,cap,e,hc⟩,λhS m=>src_rd hS m h⟩
theorem Rdb.nil{X:Chunk}{a:Option Addr}{c:Nat}:Rdb X (.slice a 0 c) []:=
 ⟨λ_ _=>⟨a,c,rfl,Nat.zero_le _⟩,λ_ _=>by cases a with|none=>exact⟨rfl,rfl⟩|some p=>exact⟨rfl,rfl,λj v e=>by simp at e⟩⟩
theorem Rdb.sub{X:Chunk}{a:Option Addr}{n c l h:Nat}{b:List UInt8}(hb:Rdb X (.slice a n c) b)(hn:n=b.length)(hc:n≤c)(h1:l≤h)(h2:h≤n):Rdb X (.slice (if c=l then a else a.map (·.add (l*1))) (h-l) (c-l)) ((b.drop l).take (h-l)):=by
 have hlen:((b.drop l).take (h-l)).length=h-l:=by rw[List.length_take,List.length_drop];omega
 refine⟨λ_ _=>⟨_,_,by rw[hlen],by omega⟩,λhS m=>?_⟩
 have hs:=hb.src hS m
 rw[Nat.mul_one]
 by_cases hcl:c=l
 ·rw[if_pos hcl]
  have:(b.drop l).take (h-l)=[]:=List.eq_nil_of_length_eq_zero (by omega)
  rw[this]
  have e0:h-l=0:=by omega
  rw[e0]
  cases a with
  | none=>exact⟨rfl,rfl⟩
  | some p=>exact⟨rfl,rfl,λj v e=>by simp at e⟩
 ·rw[if_neg hcl]
  cases a with
  | none=>
   obtain⟨e1,e2⟩:=hs
   have:b=[]:=by simpa using e2
   subst this
   exact⟨hlen,by simp⟩
  | some p=>
   obtain⟨e1,e2,e3⟩:=hs
   refine⟨hlen,by simp,λj v e=>?_⟩
   rw[addr_add2]
   refine e3 (l+j) v ?_
   rw[List.map_take,List.map_drop,List.getElem?_take]at e
   split at e
   ·rw[List.getElem?_drop]at e;exact e
   ·cases e
section
variable {W w:World} {l:List Chunk} {X:Chunk} {v:Value} {b:List UInt8}
theorem Rdb.one(hb:Rdb X v b)(hS:SL W l w)(m:Has X l):v.oneCell'=true:=by
 obtain⟨a,c,rfl,_⟩:=hb.sl hS m;rfl
theorem zN{K:Value→Prop}(hS:SL W l w)(m:Has X l)(hb:Rdb X v b)(k:K (.int .i64 b.length)):zg v K:=by
 obtain⟨a,c,rfl,_⟩:=hb.sl hS m
 exact yY k
theorem yy{j:Nat}{kk:IntKind}{K:Value→Prop}(hS:SL W l w)(m:Has X l)(hb:Rdb X v b)(hj:j<b.length)(hK:K (u8c b[j])):zj 1 v (.int kk (j:Int)) λp=>HLd p w K:=by
 obtain⟨a,c,rfl,_⟩:=hb.sl hS m
 have hs:=hb.src hS m
 cases a with
 | none=>
  have:b=[]:=by simpa using hs.2
  subst this;simp at hj
 | some p=>
  refine⟨p,_,c,kk,j,rfl,rfl,hj,?_⟩
  refine⟨_,_,rfl,(by rw[Nat.mul_one];exact hs.2.2 j (u8c b[j]) (by simp[hj])),?_⟩
  exact hK
theorem ZR{lo hi:Nat}{k1 k2:IntKind}{K:Value→Prop}(hS:SL W l w)(m:Has X l)(hb:Rdb X v b)(h1:lo≤hi)(h2:hi≤b.length)(hK:∀u,Rdb X u ((b.drop lo).take (hi-lo))→K u):HSl 1 v (some (.int k1 (lo:Int))) (some (.int k2 (hi:Int))) none K:=by
 obtain⟨a,c,rfl,hc⟩:=hb.sl hS m
 exact⟨a,_,c,lo,hi,c,rfl,rfl,⟨k2,rfl⟩,⟨k1,rfl⟩,h1,by omega,Nat.le_refl _,hK _ (hb.sub rfl hc h1 h2)⟩
theorem Yo{lo:Nat}{k1:IntKind}{K:Value→Prop}(hS:SL W l w)(m:Has X l)(hb:Rdb X v b)(h1:lo≤b.length)(hK:∀u,Rdb X u (b.drop lo)→K u):HSl 1 v (some (.int k1 (lo:Int))) none none K:=by
 obtain⟨a,c,rfl,hc⟩:=hb.sl hS m
 refine⟨a,_,c,lo,b.length,c,rfl,rfl,rfl,⟨k1,rfl⟩,h1,hc,Nat.le_refl _,hK _ ?_⟩
 have:=hb.sub rfl hc h1 (Nat.le_refl _)
 rwa [show (b.drop lo).take (b.length-lo)=b.drop lo from List.take_of_length_le (by simp)]at this
theorem Zi{hi:Nat}{k2:IntKind}{K:Value→Prop}(hS:SL W l w)(m:Has X l)(hb:Rdb X v b)(h2:hi≤b.length)(hK:∀u,Rdb X u (b.take hi)→K u):HSl 1 v none (some (.int k2 (hi:Int))) none K:=by
 obtain⟨a,c,rfl,hc⟩:=hb.sl hS m
 refine⟨a,_,c,0,hi,c,rfl,rfl,⟨k2,rfl⟩,rfl,Nat.zero_le _,by omega,Nat.le_refl _,hK _ ?_⟩
 have:=hb.sub rfl hc (Nat.zero_le hi) h2
 simpa using this
theorem ZE{a b:Int}{K:Value→Prop}(h:K (.int .u32 (xor32 a b))):zc .xor (.int .u32 a) (.int .u32 b) K:=⟨_,rfl,h⟩
theorem Qi{a b:Int}{K:Value→Prop}(h:K (.int .u32 (and32 a b))):zc .and (.int .u32 a) (.int .u32 b) K:=⟨_,rfl,h⟩
theorem ZF{a:Int}{K:Value→Prop}(h:K (.int .u32 (cpl32 a))):qh (.int .u32 a) K:=⟨_,_,rfl,h⟩
theorem Zf{a:Int}{n:Nat}(hn:n≤32){K:Value→Prop}(h:K (.int .u32 (a.fdiv (2 ^ n)))):zc .shr (.int .u32 a) (.int .u64 (n:Int)) K:=by
 refine⟨.int .u32 (a.fdiv (2 ^ n)),?_,h⟩
 have h1:¬((n:Int)<0):=by omega
 simp only[binVal,h1,if_false]
 rw[show min (n:Int).toNat IntKind.u32.bits=n by simp only[IntKind.bits];omega]
end
theorem wrap_u32{n:Int}(h0:0≤n)(h1:n<4294967296):IntKind.u32.wrap n=n:=by
 simp only[IntKind.wrap,IntKind.bits,IntKind.signed]
 simp
 omega
theorem Ql(c:Int)(x:UInt8):SP 303 [.int .u32 c,u8c x] [] (Gives (.int .u32 (stepC c x)) []):=by
 intro W F w hS;apply vc303;unfold Vc303;(try simp only[app]at hS)
 refine zR ?_
 rw[wrap_u32 (by omega) (by have:=x.toNat_lt;omega)]
 refine ZE ?_
 refine⟨λvs w=>∃i:Nat,i≤8∧vs=[.int .u32 (bitsC i (xor32 c x.toNat)),.int .i64 i]∧SL W F w,λvs _=>match vs with
  | [_,.int _ i]=>8-i.toNat
  | _=>0,⟨0,by omega,rfl,hS⟩,?_⟩
 rintro v1 v2 w1 ⟨i,hi,hv,hS⟩
 cases hv
 repeat first|refine Gp ?_|refine Gw λw hS=>?_|refine Gb λb w hS=>?_
 refine ze (λh=>?_) (λh=>?_)
 ·refine Qi ?_
  refine s_eq ?_
  refine Zf (n:=1) (by omega) ?_
  have hb:bitsC (i+1) (xor32 c x.toNat)=bitC (bitsC i (xor32 c x.toNat)):=rfl
  refine ze (λh2=>?_) (λh2=>?_)
  ·refine ZE ?_
   repeat first|refine Gp ?_|refine Gw λw hS=>?_|refine Gb λb w hS=>?_
   refine⟨⟨i+1,by omega,?_,hS⟩,?_⟩
   ·rw[hb,bitC,if_pos h2]
   ·simp only[Int.toNat_natCast];omega
  ·repeat first|refine Gp ?_|refine Gw λw hS=>?_|refine Gb λb w hS=>?_
   refine⟨⟨i+1,by omega,?_,hS⟩,?_⟩
   ·rw[hb,bitC,if_neg h2]
   ·simp only[Int.toNat_natCast];omega
 ·obtain rfl:i=8:=by omega
  exact⟨_,⟨rfl,rfl⟩,hS⟩
theorem Z9(X:Chunk)(s:Int)(v:Value)(b:List UInt8)(hb:Rdb X v b)(hN:b.length≤140737488355328):SP 301 [.int .u32 s,v] [X] (Gives (.int .u32 (moreC s b)) [X]):=by
 intro W F w hS;apply vc301;unfold Vc301;(try simp only[app]at hS)
 refine ZF ?_
 refine zN hS .hd hb ?_
 refine⟨λvs w=>∃i:Nat,i≤b.length∧vs=[.int .u32 ((b.take i).foldl stepC (cpl32 s)),.int .i64 i]∧SL W (X::F) w,λvs _=>match vs with
  | [_,.int _ i]=>b.length-i.toNat
  | _=>0,⟨0,by omega,rfl,hS⟩,?_⟩
 rintro v1 v2 w1 ⟨i,hi,hv,hS⟩
 cases hv
 repeat first|refine Gp ?_|refine Gw λw hS=>?_|refine Gb λb w hS=>?_
 refine ze (λh=>?_) (λh=>?_)
 ·have hi:i<b.length:=by omega
  refine yy hS .hd hb hi ?_
  (apply zd (Ql _ _) hS;exact Xp;clear hS)
  (rintro v post ⟨rfl,rfl⟩ w hS;(try simp only[app]at hS);(repeat (first|refine Gp ?_|refine Gw λw hS=>?_|refine Gb λb w hS=>?_)))
  refine⟨⟨i+1,by omega,?_,SL.into hS Xi⟩,?_⟩
  ·rw[show b.take (i+1)=b.take i++[b[i]] by rw[List.take_add_one];simp[hi],List.foldl_append];rfl
  ·simp only[Int.toNat_natCast];omega
 ·obtain rfl:i=b.length:=by omega
  refine ZF ?_
  rw[List.take_length]
  exact⟨_,⟨rfl,rfl⟩,hS⟩
theorem QW(X Y:Chunk)(v u:Value)(b c:List UInt8)(hb:Rdb X v b)(hc:Rdb Y u c)(hN:b.length≤140737488355328)(hM:c.length≤140737488355328)(p:Nat)(t:TypeId):
  SP 295 [.slice (some ⟨p,0,none⟩) 2 2] [.pt p [u,v] t,X,Y] (Gives (.int .u32 (moreC (moreC 0 c) b)) [X,Y]):=by
 intro W F w hS;apply vc295;unfold Vc295;(try simp only[app]at hS)
 repeat first|refine Gp ?_|refine Gw λw hS=>?_|refine Gb λb w hS=>?_
 refine⟨λvs w=>(vs=[.int .u32 0,.int .i64 0]∨vs=[.int .u32 (moreC 0 c),.int .i64 1]∨vs=[.int .u32 (moreC (moreC 0 c) b),.int .i64 2])∧SL W (.pt p [u,v] t::X::Y::F) w,λvs _=>match vs with
  | [_,.int _ i]=>2-i.toNat
  | _=>0,⟨.inl rfl,hS⟩,?_⟩
 rintro v1 v2 w1 ⟨hv,hS⟩
 rcases hv with hv|hv|hv<;>cases hv
 ·repeat first|refine Gp ?_|refine Gw λw hS=>?_|refine Gb λb w hS=>?_
  refine ze (λh=>?_) (λh=>by omega)
  refine zC (j:=0) (by omega) ?_
  refine zS hS Xh rfl ?_
  (apply zd (Z9 Y 0 u c hc hM) hS;exact Xp;clear hS)
  (rintro v post ⟨rfl,rfl⟩ w hS;(try simp only[app]at hS);(repeat (first|refine Gp ?_|refine Gw λw hS=>?_|refine Gb λb w hS=>?_)))
  exact⟨⟨.inr (.inl rfl),SL.into hS Xi⟩,Nat.lt_succ_self _⟩
 ·repeat first|refine Gp ?_|refine Gw λw hS=>?_|refine Gb λb w hS=>?_
  refine ze (λh=>?_) (λh=>by omega)
  refine zC (j:=1) (by omega) ?_
  refine zS hS Xh rfl ?_
  (apply zd (Z9 X _ v b hb hN) hS;exact Xp;clear hS)
  (rintro v post ⟨rfl,rfl⟩ w hS;(try simp only[app]at hS);(repeat (first|refine Gp ?_|refine Gw λw hS=>?_|refine Gb λb w hS=>?_)))
  exact⟨⟨.inr (.inr rfl),SL.into hS Xi⟩,Nat.lt_succ_self _⟩
 ·repeat first|refine Gp ?_|refine Gw λw hS=>?_|refine Gb λb w hS=>?_
  refine ze (λh=>by omega) (λh=>?_)
  (exact⟨_,⟨rfl,rfl⟩,SL.into hS Xi⟩)
theorem QQ{P:Program}{w:World}{t e ty:TypeId}{a:Option Addr}{n c:Nat}{K:Value→Prop}(ht:P.underlying t=some (.slice e))(h:K (.int .i64 c)):HRq P (Builtin.cap_ #[t] ty #[.slice a n c]) w K:=by
 refine⟨_,?_,h⟩
 simp[Builtin.cap_,run_underlying ht,Result.andThen,goInt]
theorem wrap_u8(n:Int):Value.int .u8 (IntKind.u8.wrap n)=u8c (lowB n):=(lowB_c n).symm
theorem wrap_u64{n:Int}(h0:0≤n)(h1:n<18446744073709551616):IntKind.u64.wrap n=n:=by
 simp only[IntKind.wrap,IntKind.bits,IntKind.signed]
 simp
 omega
theorem Yk(x:Int):SP 294 [.int .u32 x] [] (λv post=>post=[.ob (OwnSl v 5 1 4 ((four x).map u8c))]):=by
 intro W F w hS;apply vc294;unfold Vc294;(try simp only[app]at hS)
 refine Zf (n:=24) (by omega) ?_
 refine zR ?_
 refine Zf (n:=16) (by omega) ?_
 refine zR ?_
 refine Zf (n:=8) (by omega) ?_
 refine zR ?_
 refine zR ?_
 rw[wrap_u8,wrap_u8,wrap_u8,wrap_u8]
 refine zD (cells:=(four x).map u8c) hS rfl ?_
 intro b w' hS'
 exact⟨_,rfl,OwnSl.full (n:=4) rfl hS'⟩
theorem Yd(a:Option Addr)(n c:Nat)(hn:n≤1048576):SP 275 [.agg #[.slice a n c]] [] (λv post=>post=[.ob (OwnSl v 5 1 4 ((four n).map u8c))]):=by
 intro W F w hS;apply vc275;unfold Vc275;(try simp only[app]at hS)
 refine⟨[.slice a n c],rfl,?_⟩
 repeat first|refine Gp ?_|refine Gw λw hS=>?_|refine Gb λb w hS=>?_
 refine zR ?_
 rw[wrap_u32 (by omega) (by omega)]
 (apply zd (Yk n) hS;exact Xp;clear hS)
 (rintro v post rfl w hS;(try simp only[app]at hS);(repeat (first|refine Gp ?_|refine Gw λw hS=>?_|refine Gb λb w hS=>?_)))
 exact⟨_,rfl,SL.into hS Xi⟩
theorem Qk(X:Chunk)(v:Value)(q:List UInt8)(hb:Rdb X v q)(hN:q.length≤1048576):SP 274 [v] [X] (λr post=>∃u,r= .agg #[v,u]∧post=[.ob (OwnSl u 5 1 4 ((four (sumOf q)).map u8c)),X]):=by
 intro W F w hS;apply vc274;unfold Vc274;(try simp only[app]at hS)
 obtain⟨a,c,rfl,hc⟩:=hb.sl hS .hd
 repeat first|refine Gp ?_|refine Gw λw hS=>?_|refine Gb λb w hS=>?_
 (apply zd (Yd a q.length c hN) hS;exact Xp;clear hS)
 rintro v8 post rfl w hS;(try simp only[app]at hS)
 have h8:=hS.ownOne .hd
 repeat first|refine Gp ?_|refine Gw λw hS=>?_|refine Gb λb w hS=>?_
 refine zD (cells:=[v8,.slice a q.length c]) hS ?_ ?_
 ·obtain⟨a8,c8,e,_⟩:=OwnSl.at hS .hd
  subst e;rfl
 clear hS;intro p w hS
 repeat first|refine Gp ?_|refine Gw λw hS=>?_|refine Gb λb w hS=>?_
 (apply zd (QW X (.ob (OwnSl v8 5 1 4 ((four q.length).map u8c))) (.slice a q.length c) v8 q (four q.length) hb (Rdb.own (b:=four q.length)) (by omega) (by rw[four_len];omega) p _) hS;exact Xp;clear hS)
 (rintro v post ⟨rfl,rfl⟩ w hS;(try simp only[app]at hS);(repeat (first|refine Gp ?_|refine Gw λw hS=>?_|refine Gb λb w hS=>?_)))
 (apply zd (Yk (sumOf q)) hS;exact Xp;clear hS)
 rintro v12 post rfl w hS;(try simp only[app]at hS)
 have h12:=hS.ownOne .hd
 obtain⟨a12,c12,e,_⟩:=OwnSl.at hS .hd
 subst e
 repeat first|refine Gp ?_|refine Gw λw hS=>?_|refine Gb λb w hS=>?_
 exact⟨_,⟨_,rfl,rfl⟩,SL.into hS Xi⟩
theorem qG(X Y:Chunk)(v u:Value)(b c:List UInt8)(hb:Rdb X v b)(hc:Rdb Y u c)(hN:b.length≤140737488355328):
  SP 292 [v,u] [X,Y] (Gives (.bool (decide (b=c))) [X,Y]):=by
 intro W F w hS;apply vc292;unfold Vc292;(try simp only[app]at hS)
 refine zN hS .hd hb ?_
 refine zN hS Xh hc ?_
 repeat first|refine Gp ?_|refine Gw λw hS=>?_|refine Gb λb w hS=>?_
 refine ze (λh=>?_) (λh=>?_)
 ·rw[show decide (b=c)=false from decide_eq_false (λe=>h (by rw[e]))]
  (exact⟨_,⟨rfl,rfl⟩,SL.into hS Xi⟩)
 ·have hl:b.length=c.length:=by omega
  refine zN hS .hd hb ?_
  refine⟨λvs w=>∃i:Nat,i≤b.length∧vs=[.int .i64 i]∧b.take i=c.take i∧SL W (X::Y::F) w,λvs _=>match vs with
   | [.int _ i]=>b.length-i.toNat
   | _=>0,⟨0,by omega,rfl,by simp,hS⟩,?_⟩
  rintro v1 w1 ⟨i,hi,hv,he,hS⟩
  cases hv
  repeat first|refine Gp ?_|refine Gw λw hS=>?_|refine Gb λb w hS=>?_
  refine ze (λh=>?_) (λh=>?_)
  ·have hi:i<b.length:=by omega
   have hj:i<c.length:=by omega
   repeat first|refine Gp ?_|refine Gw λw hS=>?_|refine Gb λb w hS=>?_
   refine yy hS .hd hb hi ?_
   refine yy hS Xh hc hj ?_
   refine s_ne ?_
   refine ze (λh2=>?_) (λh2=>?_)
   ·rw[show decide (b=c)=false from decide_eq_false (λe=>h2 (by subst e;rfl))]
    (exact⟨_,⟨rfl,rfl⟩,SL.into hS Xi⟩)
   ·repeat first|refine Gp ?_|refine Gw λw hS=>?_|refine Gb λb w hS=>?_
    have e1:b[i]=c[i]:=by
     apply UInt8.toNat_inj.1
     omega
    refine⟨⟨i+1,by omega,rfl,?_,hS⟩,?_⟩
    ·rw[List.take_add_one,List.take_add_one,he];simp[hi,hj,e1]
    ·simp only[Int.toNat_natCast];omega
  ·obtain rfl:i=b.length:=by omega
   have e:b=c:=by
    rw[List.take_length]at he
    rw[he,hl,List.take_length]
   rw[show decide (b=c)=true from decide_eq_true e]
   (exact⟨_,⟨rfl,rfl⟩,SL.into hS Xi⟩)
theorem Tryz.infoB:(Tryz.prog.info? 5).map (λi=>(i.zero,i.size,i.bytes))=some (some (.int .u8 0),1,1):=by kernel_rfl
theorem Qm(n:Nat)(hn:n≤140737488355328):SP 276 [.slice none 0 0,.int .i64 n] [] (λv post=>post=[.ob (OwnSl v 5 1 0 [])]):=by
 intro W F w hS;apply vc276;unfold Vc276;(try simp only[app]at hS)
 repeat first|refine Gp ?_|refine Gw λw hS=>?_|refine Gb λb w hS=>?_
 refine ze (λh=>by omega) (λh=>?_)
 refine QQ Tryz.underlying54 ?_
 repeat first|refine Gp ?_|refine Gw λw hS=>?_|refine Gb λb w hS=>?_
 refine ze (λh=>?_) (λh=>?_)
 ·refine QQ Tryz.underlying54 ?_
  refine⟨none,0,0,0,0,0,rfl,rfl,⟨_,rfl⟩,rfl,Nat.le_refl _,Nat.le_refl _,Nat.le_refl _,?_⟩
  have hk:0<n:=by omega
  have e:(n:Int)-(((0:Nat):Int)-((0:Nat):Int))=((n:Nat):Int):=by omega
  rw[e]
  cases hi:Tryz.prog.info? 5 with
  | none=>have:=Tryz.infoB;rw[hi]at this;cases this
  | some i=>
   have hI:=Tryz.infoB
   rw[hi]at hI
   simp only[Option.map_some,Option.some.injEq,Prod.mk.injEq]at hI
   obtain⟨h1,h2,h3⟩:=hI
   have hnx:Builtin.nextslicecap (0+n) 0=n:=by
    unfold Builtin.nextslicecap
    simp[hk]
   have hrun:=Go.Lib.run_append_grow_zeros (P:=Tryz.prog) w 54 3 54 5 i (.int .u8 0) .i64 .i64 Tryz.underlying54 Tryz.underlying3 hi h1 none 0 0 [] (by rw[h2];exact run_firstCells_none w.drew 1 0 _ _) n hk (by omega) (by omega) (by omega) (by rw[h3];omega) (by rw[hnx,h3];omega)
   refine⟨_,_,hrun,?_⟩
   generalize hcp:grownCap w (0+n) 0 5=cp
   have hge:n≤cp:=by
    have:=grownCap_ge w (0+n) 0 5
    omega
   refine yY ?_
   refine⟨_,_,_,0,0,cp,rfl,rfl,⟨_,rfl⟩,rfl,Nat.le_refl _,Nat.zero_le _,Nat.le_refl _,?_⟩
   refine⟨_,rfl,?_⟩
   have hb:(if cp=0 then (some (⟨w.heap.size,0,none⟩:Addr)) else (some (⟨w.heap.size,0,none⟩:Addr)).map (·.add (0*1)))=some ⟨w.heap.size,0,none⟩:=by
    split
    ·rfl
    ·simp[Addr.add]
   rw[hb,Nat.sub_zero,Nat.sub_zero]
   refine OwnSl.mk (cells:=[]) (rest:=zrow [.int .u8 0] n++zrow [.int .u8 0] (cp-n)) (Nat.zero_le _) rfl ?_ ?_
   ·rw[List.length_append,zrow_length,zrow_length];simp;omega
   ·have hz:∀k,Builtin.zeroCells (Value.cells (.int .u8 0)) k=(zrow [.int .u8 0] k).toArray:=λk=>by
     rw[← zeroCells_row (Value.cells (.int .u8 0)) [.int .u8 0] rfl k,Array.toArray_toList]
    rw[hz,hz,Nat.zero_add]
    have e2:([]:List Value).toArray++(zrow [Value.int .u8 0] n).toArray++(zrow [Value.int .u8 0] (cp-n)).toArray=([]++(zrow [Value.int .u8 0] n++zrow [Value.int .u8 0] (cp-n))).toArray:=by simp
    rw[e2]
    exact SL.new hS.drew
 ·have:n=0:=by omega
  exact⟨_,rfl,OwnSl.nil hS⟩
theorem Has.app{c:Chunk}:∀{p F:List Chunk},Has c p→Has c (app p F)
 | _::_,_,.hd=>.hd
 | _::_,_,.tl h=>.tl h.app
theorem flatB_take{α:Type}{bs:List (List α)}{i:Nat}(h:i<bs.length):(bs.take (i+1)).flatten=(bs.take i).flatten++bs[i]:=by
 rw[List.take_add_one,List.getElem?_eq_getElem h,List.flatten_append]
 simp only[Option.toList_some,List.flatten_cons,List.flatten_nil,List.append_nil]
theorem flatB_take_le{α:Type}(bs:List (List α))(i:Nat):(bs.take i).flatten.length≤bs.flatten.length:=by
 have:bs.flatten=(bs.take i).flatten++(bs.drop i).flatten:=by rw[← List.flatten_append,List.take_append_drop]
 rw[this,List.length_append];omega
theorem Zz(p n:Nat)(t:TypeId)(vs:List Value)(bs:List (List UInt8))(Xs:List Chunk)(hn:vs.length=n)(hb:bs.length=n)(hx:∀i (h:i<n),∃X,Has X Xs∧Rdb X (vs[i]'(by omega)) (bs[i]'(by omega)))(hN:bs.flatten.length≤100000000)(hn2:n≤100):
  SP 254 [.slice (some ⟨p,0,none⟩) n n] (.pt p vs t::Xs) (λv post=>post= .ob (OwnSl v 5 1 bs.flatten.length (bs.flatten.map u8c))::Xs):=by
 intro W F w hS;apply vc254;unfold Vc254;(try simp only[app]at hS)
 repeat first|refine Gp ?_|refine Gw λw hS=>?_|refine Gb λb w hS=>?_
 refine⟨λus w=>∃i:Nat,i≤n∧us=[.int .i64 ((bs.take i).flatten.length:Nat),.int .i64 i]∧SL W (.pt p vs t::app Xs F) w,λus _=>match us with
  | [_,.int _ i]=>n-i.toNat
  | _=>0,⟨0,by omega,by simp,hS⟩,?_⟩
 rintro v1 v2 w1 ⟨i,hi,hv,hS⟩
 cases hv
 have hle:=flatB_take_le bs i
 repeat first|refine Gp ?_|refine Gw λw hS=>?_|refine Gb λb w hS=>?_
 refine ze (λh=>?_) (λh=>?_)
 ·have hi:i<n:=by omega
  obtain⟨X,hX,hr⟩:=hx i hi
  refine zC (j:=i) hi ?_
  refine zS hS .hd (v:=vs[i]'(by omega)) (by rw[List.getElem?_eq_getElem (by omega)];congr 2;omega) ?_
  refine zN hS (.tl hX.app) hr ?_
  have e:=flatB_take (bs:=bs) (i:=i) (by omega)
  have hle2:=flatB_take_le bs (i+1)
  have el:(bs.take (i+1)).flatten.length=(bs.take i).flatten.length+(bs[i]'(by omega)).length:=by rw[e,List.length_append]
  repeat first|refine Gp ?_|refine Gw λw hS=>?_|refine Gb λb w hS=>?_
  refine ze (λh=>by omega) (λh=>?_)
  repeat first|refine Gp ?_|refine Gw λw hS=>?_|refine Gb λb w hS=>?_
  refine⟨⟨i+1,by omega,?_,hS⟩,?_⟩
  ·rw[el]
  ·simp only[Int.toNat_natCast];omega
 ·obtain rfl:i=n:=by omega
  have ef:bs.take i=bs:=List.take_of_length_le (by omega)
  rw[ef]
  refine zd (F:=.pt p vs t::app Xs F) (Qm bs.flatten.length (by omega)) hS Pick.nil ?_
  clear hS
  rintro v post rfl w hS;(try simp only[app]at hS)
  repeat first|refine Gp ?_|refine Gw λw hS=>?_|refine Gb λb w hS=>?_
  refine⟨λus w=>∃(j:Nat) (u:Value),j≤i∧us=[u,.int .i64 j]∧SL W (.ob (OwnSl u 5 1 (bs.take j).flatten.length ((bs.take j).flatten.map u8c))::.pt p vs t::app Xs F) w,λus _=>match us with
   | [_,.int _ j]=>i-j.toNat
   | _=>0,⟨0,v,by omega,rfl,hS⟩,?_⟩
  rintro v1 v2 w2 ⟨j,u,hj,hv,hS⟩
  cases hv
  have hle:=flatB_take_le bs j
  repeat first|refine Gp ?_|refine Gw λw hS=>?_|refine Gb λb w hS=>?_
  refine ze (λh=>?_) (λh=>?_)
  ·have hj:j<i:=by omega
   obtain⟨X,hX,hr⟩:=hx j hj
   refine zC (j:=j) hj ?_
   refine zS hS Xh (v:=vs[j]'(by omega)) (by rw[List.getElem?_eq_getElem (by omega)];congr 2;omega) ?_
   have e:=flatB_take (bs:=bs) (i:=j) (by omega)
   have hle2:=flatB_take_le bs (j+1)
   have el:(bs.take (j+1)).flatten.length=(bs.take j).flatten.length+(bs[j]'(by omega)).length:=by rw[e,List.length_append]
   refine zw hS .hd (hr.src hS (.tl (.tl hX.app))) (by simp) rfl (u8c_one _) (by omega) (by omega) ?_
   clear hS;intro v' w hS
   repeat first|refine Gp ?_|refine Gw λw hS=>?_|refine Gb λb w hS=>?_
   refine⟨⟨j+1,v',by omega,rfl,?_⟩,?_⟩
   ·rw[el,e,List.map_append];exact hS
   ·simp only[Int.toNat_natCast];omega
  ·obtain rfl:j=i:=by omega
   rw[ef]at hS
   exact⟨_,rfl,SL.into hS (.cons .hd (by
    have:Into (app Xs F) (.pt p vs t::app Xs F):=Into.drop .refl
    exact this))⟩
def PutQ(X:Chunk)(q:List UInt8)(r:Value)(post:List Chunk):Prop:=
 if 1048576<q.length then r= .tuple #[.slice none 0 0,.int .i64 1]∧post=[X]
 else ∃u,r= .tuple #[u,.int .i64 0]∧post=[.ob (OwnSl u 5 1 (recB q).length ((recB q).map u8c)),X]
theorem PutQ.big{X:Chunk}{q:List UInt8}(h:1048576<q.length):PutQ X q (.tuple #[.slice none 0 0,.int .i64 1]) [X]:=by
 unfold PutQ;rw[if_pos h];exact⟨rfl,rfl⟩
theorem PutQ.ok{X:Chunk}{q:List UInt8}(h:q.length≤1048576)(u:Value):PutQ X q (.tuple #[u,.int .i64 0]) [.ob (OwnSl u 5 1 (recB q).length ((recB q).map u8c)),X]:=by
 unfold PutQ;rw[if_neg (Nat.not_lt.2 h)];exact⟨u,rfl,rfl⟩
theorem Y8(X:Chunk)(v:Value)(q:List UInt8)(hq:Rdb X v q)(hN:q.length≤140737488355328):SP 252 [v] [X] (PutQ X q):=by
 intro W F w hS;apply vc252;unfold Vc252;(try simp only[app]at hS)
 refine zN hS .hd hq ?_
 repeat first|refine Gp ?_|refine Gw λw hS=>?_|refine Gb λb w hS=>?_
 refine ze (λh=>?_) (λh=>?_)
 ·exact⟨_,.big (by omega),hS⟩
 ·obtain⟨a,c,rfl,hc⟩:=hq.sl hS .hd
  (apply zd (Qk X _ q hq (by omega)) hS;exact Xp;clear hS)
  rintro v9 post ⟨u,rfl,rfl⟩ w hS;(try simp only[app]at hS)
  have hu:=hS.ownOne .hd
  obtain⟨au,cu,e,_⟩:=OwnSl.at hS .hd
  subst e
  repeat first|refine Gp ?_|refine Gw λw hS=>?_|refine Gb λb w hS=>?_
  refine yS hS (vs:=[.slice a q.length c]) Xh rfl (λj v e=>?_) ?_
  ·match j,e with
   | 0,e=>exact e
  repeat first|refine Gp ?_|refine Gw λw hS=>?_|refine Gb λb w hS=>?_
  (apply zd (Yd a q.length c (by omega)) hS;exact Xp;clear hS)
  rintro v12 post rfl w hS;(try simp only[app]at hS)
  obtain⟨a12,c12,e,_⟩:=OwnSl.at hS .hd
  subst e
  repeat first|refine Gp ?_|refine Gw λw hS=>?_|refine Gb λb w hS=>?_
  refine zd (F:=_) (Zz _ 3 _ [_,_,_] [four q.length,four (sumOf q),q] [.ob (OwnSl (.slice a12 4 c12) 5 1 4 ((four q.length).map u8c)),.ob (OwnSl (.slice au 4 cu) 5 1 4 ((four (sumOf q)).map u8c)),X] rfl rfl ?_ ?_ (by omega)) hS Xp ?_
  ·intro i hi
   match i,hi with
   | 0,_=>exact⟨_,.hd,Rdb.own (b:=four q.length)⟩
   | 1,_=>exact⟨_,.tl .hd,Rdb.own (b:=four (sumOf q))⟩
   | 2,_=>exact⟨_,.tl (.tl .hd),hq⟩
  ·simp[four_len];omega
  ·clear hS
   rintro v post rfl w hS;(try simp only[app]at hS)
   have e:[four q.length,four (sumOf q),q].flatten=recB q:=by simp[recB]
   rw[e]at hS
   exact⟨_,.ok (by omega) v,SL.into hS Xi⟩
theorem orW{a b:Nat}(ha:a<9223372036854775808)(hb:b<9223372036854775808):binVal .or (.int .i64 (a:Int)) (.int .i64 (b:Int))=some (.int .i64 ((a ||| b:Nat):Int)):=by
 have h:(a ||| b)<9223372036854775808:=Nat.or_lt_two_pow (n:=63) ha hb
 simp only[binVal,if_true]
 congr 2
 have e1:(BitVec.ofInt IntKind.i64.bits (a:Int))=BitVec.ofNat 64 a:=BitVec.ofInt_natCast 64 a
 have e2:(BitVec.ofInt IntKind.i64.bits (b:Int))=BitVec.ofNat 64 b:=BitVec.ofInt_natCast 64 b
 rw[e1,e2]
 have e3:(BitVec.ofNat 64 a ||| BitVec.ofNat 64 b).toNat=a ||| b:=by
  rw[BitVec.toNat_or,BitVec.toNat_ofNat,BitVec.toNat_ofNat,Nat.mod_eq_of_lt (by omega),Nat.mod_eq_of_lt (by omega)]
 show IntKind.i64.wrap (((BitVec.ofNat 64 a ||| BitVec.ofNat 64 b).toNat:Nat):Int)=_
 rw[e3,IntWalk.i64_in _ (by omega)]
theorem QP{a b k:Nat}{K:Value→Prop}(ha:a*2 ^ k<9223372036854775808)(hb:b<2 ^ k)(hb2:b<9223372036854775808)(h:K (.int .i64 ((a*2 ^ k+b:Nat):Int))):zc .or (.int .i64 ((a*2 ^ k:Nat):Int)) (.int .i64 (b:Int)) K:=by
 refine⟨_,orW ha hb2,?_⟩
 have:a*2 ^ k ||| b=a*2 ^ k+b:=by rw[← Nat.shiftLeft_eq,Nat.shiftLeft_add_eq_or_of_lt hb]
 rw[this];exact h
theorem YB{a n:Nat}{K:Value→Prop}(hn:n≤64)(ha:a*2 ^ n<9223372036854775808)(h:K (.int .i64 ((a*2 ^ n:Nat):Int))):zc .shl (.int .i64 (a:Int)) (.int .u64 (n:Int)) K:=by
 refine⟨.int .i64 ((a*2 ^ n:Nat):Int),?_,h⟩
 have h1:¬((n:Int)<0):=by omega
 simp only[binVal,h1,if_false]
 rw[show min (n:Int).toNat IntKind.i64.bits=n by simp only[IntKind.bits];omega]
 congr 2
 rw[show (a:Int)*2 ^ n=((a*2 ^ n:Nat):Int) by push_cast;rfl]
 exact IntWalk.i64_in _ (by omega)
def TakeQ(X:Chunk)(q:List UInt8)(r:Value)(post:List Chunk):Prop:=match takeR q with
 | .error e=>r= .tuple #[.slice none 0 0,.int .i64 0,.int .i64 e]∧post=[X]
 | .ok (p,n)=>∃u,r= .tuple #[u,.int .i64 (n:Nat),.int .i64 0]∧post=[.ob (OwnSl u 5 1 p.length (p.map u8c)),X]
theorem TakeQ.er{X:Chunk}{q:List UInt8}{e:Int}(h:takeR q= .error e):TakeQ X q (.tuple #[.slice none 0 0,.int .i64 0,.int .i64 e]) [X]:=by
 unfold TakeQ;rw[h];exact⟨rfl,rfl⟩
theorem TakeQ.ok{X:Chunk}{q p:List UInt8}{n:Nat}(h:takeR q= .ok (p,n))(u:Value):TakeQ X q (.tuple #[u,.int .i64 (n:Nat),.int .i64 0]) [.ob (OwnSl u 5 1 p.length (p.map u8c)),X]:=by
 unfold TakeQ;rw[h];exact⟨u,rfl,rfl⟩
theorem take_er1{q:List UInt8}(h:q.length<8):takeR q= .error 2:=by unfold takeR;rw[if_pos h]
theorem take_er2{q:List UInt8}(h:8≤q.length)(h2:1048576<num4 q):takeR q= .error 3:=by unfold takeR;rw[if_neg (Nat.not_lt.2 h),if_pos h2]
theorem take_er3{q:List UInt8}(h:8≤q.length)(h2:num4 q≤1048576)(h3:q.length<8+num4 q):takeR q= .error 2:=by unfold takeR;rw[if_neg (Nat.not_lt.2 h),if_neg (Nat.not_lt.2 h2),if_pos h3]
theorem take_er4{q:List UInt8}(h:8≤q.length)(h2:num4 q≤1048576)(h3:8+num4 q≤q.length)(h4:four (sumOf ((q.drop 8).take (num4 q)))≠(q.drop 4).take 4):takeR q= .error 4:=by unfold takeR;rw[if_neg (Nat.not_lt.2 h),if_neg (Nat.not_lt.2 h2),if_neg (Nat.not_lt.2 h3),if_pos h4]
theorem take_ok{q:List UInt8}(h:8≤q.length)(h2:num4 q≤1048576)(h3:8+num4 q≤q.length)(h4:four (sumOf ((q.drop 8).take (num4 q)))=(q.drop 4).take 4):takeR q= .ok ((q.drop 8).take (num4 q),8+num4 q):=by unfold takeR;rw[if_neg (Nat.not_lt.2 h),if_neg (Nat.not_lt.2 h2),if_neg (Nat.not_lt.2 h3),if_neg (not_not_intro h4)]
theorem Qo(X:Chunk)(v:Value)(q:List UInt8)(hq:Rdb X v q)(hN:q.length≤140737488355328):SP 270 [v] [X] (TakeQ X q):=by
 intro W F w hS;apply vc270;unfold Vc270;(try simp only[app]at hS)
 refine zN hS .hd hq ?_
 repeat first|refine Gp ?_|refine Gw λw hS=>?_|refine Gb λb w hS=>?_
 refine ze (λh=>?_) (λh=>?_)
 ·exact⟨_,.er (take_er1 (by omega)),hS⟩
 ·have h8:8≤q.length:=by omega
  repeat first|refine Gp ?_|refine Gw λw hS=>?_|refine Gb λb w hS=>?_
  have g0:=q[0].toNat_lt
  have g1:=q[1].toNat_lt
  have g2:=q[2].toNat_lt
  have g3:=q[3].toNat_lt
  have hn:num4 q=((q[0].toNat*2 ^ 24+q[1].toNat*2 ^ 16)+q[2].toNat*2 ^ 8)+q[3].toNat:=by
   unfold num4
   have hd:∀i (h:i<q.length),q.getD i 0=q[i]:=λi h=>by simp[List.getD_eq_getElem?_getD,h]
   rw[hd 0 (by omega),hd 1 (by omega),hd 2 (by omega),hd 3 (by omega)]
  refine yy (j:=0) hS .hd hq (by omega) ?_
  refine ym (by omega) ?_
  refine YB (n:=24) (by omega) (by omega) ?_
  refine yy (j:=1) hS .hd hq (by omega) ?_
  refine ym (by omega) ?_
  refine YB (n:=16) (by omega) (by omega) ?_
  refine QP (k:=24) (by omega) (by omega) (by omega) ?_
  refine yy (j:=2) hS .hd hq (by omega) ?_
  refine ym (by omega) ?_
  refine YB (n:=8) (by omega) (by omega) ?_
  rw[show q[0].toNat*2 ^ 24+q[1].toNat*2 ^ 16=(q[0].toNat*2 ^ 8+q[1].toNat)*2 ^ 16 by omega]
  refine QP (k:=16) (by omega) (by omega) (by omega) ?_
  refine yy (j:=3) hS .hd hq (by omega) ?_
  refine ym (by omega) ?_
  rw[show (q[0].toNat*2 ^ 8+q[1].toNat)*2 ^ 16+q[2].toNat*2 ^ 8=((q[0].toNat*2 ^ 8+q[1].toNat)*2 ^ 8+q[2].toNat)*2 ^ 8 by omega]
  refine QP (k:=8) (by omega) (by omega) (by omega) ?_
  rw[show ((q[0].toNat*2 ^ 8+q[1].toNat)*2 ^ 8+q[2].toNat)*2 ^ 8+q[3].toNat=num4 q by omega]
  clear hn g0 g1 g2 g3
  have hlt:=num4_lt q
  generalize hk:num4 q=k at *
  repeat first|refine Gp ?_|refine Gw λw hS=>?_|refine Gb λb w hS=>?_
  refine ze (λh2=>?_) (λh2=>?_)
  ·exact⟨_,.er (take_er2 h8 (by omega)),hS⟩
  ·refine zN hS .hd hq ?_
   refine yd (a:=8) (b:=k) (by omega) ?_
   repeat first|refine Gp ?_|refine Gw λw hS=>?_|refine Gb λb w hS=>?_
   refine ze (λh3=>?_) (λh3=>?_)
   ·exact⟨_,.er (take_er3 h8 (by omega) (by omega)),hS⟩
   ·refine yd (a:=8) (b:=k) (by omega) ?_
    refine ZR (lo:=8) (hi:=8+k) hS .hd hq (by omega) (by omega) ?_
    intro v44 h44
    rw[show 8+k-8=k by omega]at h44
    have hl44:((q.drop 8).take k).length=k:=by rw[List.length_take,List.length_drop];omega
    generalize hp:(q.drop 8).take k=p at *
    obtain⟨a,c,e,hc⟩:=h44.sl hS .hd
    subst e
    (apply zd (Qk X _ p h44 (by omega)) hS;exact Xp;clear hS)
    rintro v9 post ⟨u,rfl,rfl⟩ w hS;(try simp only[app]at hS)
    obtain⟨au,cu,e,_⟩:=OwnSl.at hS .hd
    subst e
    repeat first|refine Gp ?_|refine Gw λw hS=>?_|refine Gb λb w hS=>?_
    refine ZR (lo:=4) (hi:=8) hS Xh hq (by omega) (by omega) ?_
    intro v49 h49
    rw[show 8-4=4 from rfl]at h49
    (apply zd (qG (.ob (OwnSl (.slice au 4 cu) 5 1 4 ((four (sumOf p)).map u8c))) X _ v49 (four (sumOf p)) ((q.drop 4).take 4) (Rdb.own (b:=four (sumOf p))) h49 (by rw[four_len];omega)) hS;exact Xp;clear hS)
    rintro v post ⟨rfl,rfl⟩ w hS;(try simp only[app]at hS)
    refine yA ?_
    by_cases h4:four (sumOf p)=(q.drop 4).take 4
    ·rw[decide_eq_true h4]
     refine zr ?_
     repeat first|refine Gp ?_|refine Gw λw hS=>?_|refine Gb λb w hS=>?_
     refine Zj (cs:=p.map u8c) hS (λw' c hS'=>h44.src hS' Xh) (by simp) (u8c_one _) (by omega) ?_
     clear hS;intro u' w hS _
     refine yd (a:=8) (b:=k) (by omega) ?_
     have ht:=take_ok h8 (by omega) (by omega) (by rw[hk,hp];exact h4)
     rw[hk,hp]at ht
     exact⟨_,.ok ht u',SL.into hS Xi⟩
    ·rw[decide_eq_false h4]
     refine zy ?_
     exact⟨_,.er (take_er4 h8 (by omega) (by omega) (by rw[hk,hp];exact h4)),SL.into hS Xi⟩
end Go.Proofs.YtnmhmnnadkclbaaGreat

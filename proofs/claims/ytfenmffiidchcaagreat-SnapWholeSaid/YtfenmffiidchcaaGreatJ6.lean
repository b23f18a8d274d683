/-
  Texts of the proof, joined: Sl6, BStr, FldS, FldS2, PieceS, GMod, FMod, BatchS, ItemE.
-/
import Derived.Test.YtfenmffiidchcaaGreatJ5
import Derived.Laws.BytesString
import Derived.Test.YtfenmffiidchcaaGreatQVcS
namespace Go.Proofs.YtfenmffiidchcaaGreat
set_option linter.unusedVariables false
open Go.RowKit
section
variable {W w:World} {l:List Chunk} {P:Program}
theorem bI5{t:TypeId}{s:ByteArray}{j:Nat}{k:IntKind}{K:Value->Prop}(ht:P.underlying t=some .string)(hj:j<s.size)(h:K (.int .u8 (s[j]).toNat)):kg P (Instr.index t (.string s) (.int k (j:Int))) w K:=by
 refine⟨_,?_,h⟩
 have:s[j]?=some s[j]:=by simp[hj]
 simp[Instr.index,asIntOf,run_underlying ht,Result.andThen,this]
theorem bFx{a b:ByteArray}{K:Value->Prop}(hr:a.size+b.size<=1000000)(h:K (.string (a++b))):zc .add (.string a) (.string b) K:=by
 refine⟨_,?_,h⟩
 have hm:IntKind.i64.max=9223372036854775807:=by decide
 simp only[mr]
 rw[if_neg (by rw[hm];omega)]
end
set_option maxRecDepth 100000
def iQ(bs:List UInt8):ByteArray:=⟨bs.toArray⟩
theorem N4{a b:List UInt8}:iQ a=iQ b↔a=b:=by
 constructor
 ·intro h
  have:=congrArg ByteArray.data h
  exact List.toArray_inj this
 ·rintro rfl;rfl
theorem pF(a:List UInt8):(iQ a).size=a.length:=by simp[iQ,ByteArray.size]
theorem fold_push:∀(bs:List UInt8) (s:ByteArray),(bs.map λb=>(b.toNat:Int)).foldl (λr n=>r.push (UInt8.ofNat n.toNat)) s=⟨s.data++bs.toArray⟩
 | [],s=>by cases s;simp
 | b::bs,s=>by
  simp only[List.map_cons,List.foldl_cons]
  rw[fold_push bs]
  cases s;simp[ByteArray.push]
section
variable {W w:World} {l:List Chunk} {P:Program}
theorem Zh{src dst e:TypeId}{v:Value}{bs:List UInt8}{K:Value->Prop}(hv:∃a n c,v= .slice a n c)(ld:mN w 1 v bs.length (bs.map cR))(h1:P.underlying src=some (.slice e))(h2:P.underlying dst=some .string)(h3:P.underlying e=some (.int .u8))
  (h:K (.string (iQ bs))):kg P (convert src dst v) w K:=by
 refine⟨_,?_,h⟩
 obtain⟨a,n,c,rfl⟩:=hv
 rw[run_convert_bytes_string w src dst e a n c h1 h3 h2]
 cases a with
 | none=>
  obtain⟨e1,e2⟩:=ld
  have:bs=[]:=by simpa using e2
  subst this
  rfl
 | some p=>
  obtain⟨e1,e2,e3⟩:=ld
  subst e1
  have hl:(loadCells p bs.length).run P w= .ok ((bs.map λb=>(b.toNat:Int)).map (Value.int .u8)).toArray w:=by
   have h4:=run_loadCells_list (P:=P) (w:=w) p (bs.map cR) e3
   rw[List.length_map]at h4
   rw[h4,List.map_map];rfl
  rw[run_bytesToString w p bs.length c _ hl,fold_push]
  simp[iQ]
end
abbrev pe(rp:Nat)(r:lR)(v:Value):Chunk:=.pt rp [v,.int .i64 r.e] 327
theorem SW(n:Nat)(r:lR):(kJ n r).1.length<=n/\(kJ n r).1.length<=r.b.length/\(kJ n r).2.b.length<=r.b.length:=by
 unfold kJ
 split
 ·simp
 ·split
  ·simp
  ·simp only[List.length_take,List.length_drop];omega
def UO(X:Chunk)(rp n:Nat)(r:lR)(u:Value)(post:List Chunk):Prop:=∃v',ie X u (kJ n r).1/\ie X v' (kJ n r).2.b/\post=[pe rp (kJ n r).2 v',X]
theorem Yo(X:Chunk)(rp n:Nat)(v:Value)(r:lR)(hv:ie X v r.b):SP 296 [.pointer (some ⟨rp,0,none⟩),.int .i64 n] [pe rp r v,X] (UO X rp n r):=by
 intro W F w hS;apply b7b;delta L9 aF bF fI ai bI;(try simp only[app]at hS)
 have lW:=hv.one hS Xh
 refine⟨λvs w=>vs=[]/\∃e,e=(if r.e=0/\r.b.length<n then 2 else r.e)/\SL W (.pt rp [v,.int .i64 e] 327::X::F) w,?_,?_⟩
 ·refine bW (λh=>?_) (λh=>?_)
  ·refine Gp ?_
   refine zI hS Xh hv ?_
   refine bW (λh2=>?_) (λh2=>?_)
   ·refine Gn λw hS=>?_
    exact⟨2,by rw[if_pos ⟨h,by omega⟩],hS⟩
   ·refine⟨rfl,_,rfl,?_⟩
    rw[if_neg (by omega)];exact hS
  ·refine⟨rfl,_,rfl,?_⟩
   rw[if_neg (by omega)];exact hS
 ·rintro w ⟨_,e,he,hS⟩
  refine Gp ?_
  by_cases h1:r.e=0
  ·by_cases h2:r.b.length<n
   ·rw[if_pos ⟨h1,h2⟩]at he
    subst he
    refine za (λ_=>?_) (λh=>absurd (by decide) h)
    have e1:kJ n r=([],{r with e:=2}):=by unfold kJ;rw[if_neg (by simp[h1]),if_pos h2]
    refine⟨_,⟨v,?_,?_,rfl⟩,?_⟩
    ·rw[e1];exact ie.nil
    ·rw[e1];exact hv
    ·rw[e1];exact hS
   ·rw[if_neg (by omega),h1]at he
    subst he
    refine za (λh=>absurd rfl h) (λ_=>?_)
    have e1:kJ n r=(r.b.take n,{r with b:=r.b.drop n}):=by unfold kJ;rw[if_neg (by simp[h1]),if_neg h2]
    refine Gp ?_
    refine ZO hS Xh hv (by omega) ?_
    intro u hu
    refine Gp ?_
    refine YS hS Xh hv (by omega) ?_
    intro v' pQ
    have cwo:=pQ.one hS Xh
    refine Gn λw hS=>?_
    refine⟨_,⟨v',?_,?_,rfl⟩,?_⟩
    ·rw[e1];exact hu
    ·rw[e1];exact pQ
    ·rw[e1];simp only[h1];exact hS
  ·rw[if_neg (by omega)]at he
   subst he
   refine za (λ_=>?_) (λh=>absurd h1 h)
   have e1:kJ n r=([],r):=by unfold kJ;rw[if_pos h1]
   refine⟨_,⟨v,?_,?_,rfl⟩,?_⟩
   ·rw[e1];exact ie.nil
   ·rw[e1];exact hv
   ·rw[e1];exact hS
theorem Tf{a b:Nat}(ha:a<18446744073709551616)(hb:b<18446744073709551616):mr .or (.int .u64 (a:Int)) (.int .u64 (b:Int))=some (.int .u64 ((a ||| b:Nat):Int)):=by
 have h:(a ||| b)<18446744073709551616:=Nat.or_lt_two_pow (n:=64) ha hb
 simp only[mr,if_true]
 congr 2
 have e1:(BitVec.ofInt IntKind.u64.bits (a:Int))=BitVec.ofNat 64 a:=BitVec.ofInt_natCast 64 a
 have e2:(BitVec.ofInt IntKind.u64.bits (b:Int))=BitVec.ofNat 64 b:=BitVec.ofInt_natCast 64 b
 rw[e1,e2]
 have e3:(BitVec.ofNat 64 a ||| BitVec.ofNat 64 b).toNat=a ||| b:=by
  rw[BitVec.toNat_or,BitVec.toNat_ofNat,BitVec.toNat_ofNat,Nat.mod_eq_of_lt (by omega),Nat.mod_eq_of_lt (by omega)]
 show IntKind.u64.wrap (((BitVec.ofNat 64 a ||| BitVec.ofNat 64 b).toNat:Nat):Int)=_
 rw[e3,wrap_u64 (by omega) (by omega)]
theorem bI2{x:Nat}{c:UInt8}{K:Value->Prop}(h:K (.int .u64 (((x*256+c.toNat) % 18446744073709551616:Nat):Int))):
  zc .shl (.int .u64 (x:Int)) (.int .u64 8) λv=>zG .u64 (cR c) λy=>zc .or v y K:=by
 have hc:=c.toNat_lt
 refine⟨.int .u64 (((x*256) % 18446744073709551616:Nat):Int),?_,?_⟩
 ·show (if (8:Int)<0 then none else some (Value.int .u64 (IntKind.u64.wrap ((x:Int)*2 ^ (min (8:Int).toNat IntKind.u64.bits)))))=_
  rw[if_neg (by omega)]
  congr 2
 ·refine zL ?_
  rw[wrap_u64 (by omega) (by omega)]
  refine⟨_,Tf (by omega) (by omega),?_⟩
  have e:(x*256) % 18446744073709551616=((x*256) % 18446744073709551616 / 256) <<< 8:=by rw[Nat.shiftLeft_eq];omega
  have e2:(x*256) % 18446744073709551616 ||| c.toNat=(x*256+c.toNat) % 18446744073709551616:=by
   rw[e,<- Nat.shiftLeft_add_eq_or_of_lt (show c.toNat<2 ^ 8 by omega),Nat.shiftLeft_eq];omega
  rw[e2];exact h
theorem FI{b:List UInt8}{i:Nat}(h:i<b.length):jM (b.take (i+1))=(jM (b.take i)*256+b[i].toNat) % 18446744073709551616:=by
 rw[show b.take (i+1)=b.take i++[b[i]] by rw[List.take_add_one];simp[h]]
 exact VE _ _ _ rfl
def UP(X:Chunk)(rp n:Nat)(r:lR)(u:Value)(post:List Chunk):Prop:=∃v',u= .int .u64 ((j3 n r).1:Nat)/\ie X v' (j3 n r).2.b/\post=[pe rp (j3 n r).2 v',X]
theorem Zy(X:Chunk)(rp n:Nat)(v:Value)(r:lR)(hv:ie X v r.b)(hn:n<=1000):SP 295 [.pointer (some ⟨rp,0,none⟩),.int .i64 n] [pe rp r v,X] (UP X rp n r):=by
 intro W F w hS;apply b7a;delta L8 aF ai;(try simp only[app]at hS)
 refine Cc (Yo X rp n v r hv) ?_;clear hS
 rintro u post ⟨v',hu,pQ,rfl⟩ w hS;(try simp only[app]at hS)
 have hl:=SW n r
 refine zI hS Xh hu ?_
 refine⟨λvs w=>∃i:Nat,i<=(kJ n r).1.length/\vs=[.int .u64 (jM ((kJ n r).1.take i):Nat),.int .i64 i]/\SL W (pe rp (kJ n r).2 v'::X::F) w,λvs _=>match vs with
  | [_,.int _ i]=>(kJ n r).1.length-i.toNat
  | _=>0,⟨0,by omega,rfl,hS⟩,?_⟩
 rintro v1 v2 w1 ⟨i,hi,hv,hS⟩
 cases hv
 refine bW (λh=>?_) (λh=>?_)
 ·have hi:i<(kJ n r).1.length:=by omega
  refine yF hS Xh hu hi ?_
  refine bI2 ?_
  refine Gp ?_
  refine⟨⟨i+1,by omega,?_,hS⟩,?_⟩
  ·rw[FI hi]
  ·simp only[Int.toNat_natCast];omega
 ·have:(kJ n r).1.take i=(kJ n r).1:=List.take_of_length_le (by omega)
  rw[this]
  exact⟨_,⟨v',rfl,pQ,rfl⟩,hS⟩
theorem BC:∀(n:Nat) (b:List UInt8),b.length=n->jM b<256 ^ n
 | 0,b,h=>by
  have:b=[]:=List.eq_nil_of_length_eq_zero h
  subst this;decide
 | n+1,b,h=>by
  have h1:=BC n (b.take n) (by rw[List.length_take];omega)
  have h2:=FI (b:=b) (i:=n) (by omega)
  rw[List.take_of_length_le (by omega)]at h2
  have hc:=(b[n]'(by omega)).toNat_lt
  have h3:=Nat.mod_le (jM (b.take n)*256+(b[n]'(by omega)).toNat) 18446744073709551616
  rw[h2,Nat.pow_succ]
  omega
theorem Ii(n:Nat)(r:lR):(j3 n r).1<256 ^ n:=by
 have h1:=BC _ _ (rfl:(kJ n r).1.length=_)
 have h2:=(SW n r).1
 exact Nat.lt_of_lt_of_le h1 (Nat.pow_le_pow_right (by omega) h2)
def UN(X:Chunk)(rp m:Nat)(r:lR)(u:Value)(post:List Chunk):Prop:=∃v',u= .int .i64 ((kn m r).1:Nat)/\ie X v' (kn m r).2.b/\post=[pe rp (kn m r).2 v',X]
theorem Ym(X:Chunk)(rp m:Nat)(v:Value)(r:lR)(hv:ie X v r.b)(hm:m<=100000):SP 236 [.pointer (some ⟨rp,0,none⟩),.int .i64 m] [pe rp r v,X] (UN X rp m r):=by
 intro W F w hS;apply b53;delta Ll aF fI ai;(try simp only[app]at hS)
 refine Cc (Zy X rp 2 v r hv (by omega)) ?_;clear hS
 rintro u post ⟨v',rfl,pQ,rfl⟩ w hS;(try simp only[app]at hS)
 have ix:=Ii 2 r
 refine yn (by omega) ?_
 refine bW (λh=>?_) (λh=>?_)
 ·refine Gn λw hS=>?_
  have e:kn m r=(0,{(j3 2 r).2 with e:=3}):=by unfold kn;rw[if_pos (by omega)]
  refine⟨_,⟨v',?_,?_,rfl⟩,?_⟩
  ·rw[e];rfl
  ·rw[e];exact pQ
  ·rw[e];exact hS
 ·have e:kn m r=j3 2 r:=by unfold kn;rw[if_neg (by omega)]
  refine⟨_,⟨v',?_,?_,rfl⟩,?_⟩
  ·rw[e]
  ·rw[e];exact pQ
  ·rw[e];exact hS
theorem SU(m:Nat)(r:lR):(kn m r).1<=m:=by
 unfold kn
 split
 ·exact Nat.zero_le _
 ·rename_i h;exact Nat.not_lt.1 h
theorem TZ{n:Nat}(h:n<18446744073709551616):IntKind.i64.wrap (n:Int)=sig n:=by
 rw[IntKind.wrap_i64,sig]
 split<;>omega
def UJ(X:Chunk)(rp:Nat)(r:lR)(u:Value)(post:List Chunk):Prop:=∃v',u= .agg (iD (kN r).1).toArray/\ie X v' (kN r).2.b/\post=[pe rp (kN r).2 v',X]
theorem qI(X:Chunk)(rp:Nat)(v:Value)(r:lR)(hv:ie X v r.b):SP 237 [.pointer (some ⟨rp,0,none⟩)] [pe rp r v,X] (UJ X rp r):=by
 intro W F w hS;apply b54;delta Lm aF bF fI ai cI;(try simp only[app]at hS)
 refine Gm λb w hS=>?_
 refine Cc (Zy X rp 1 v r hv (by omega)) ?_;clear hS
 rintro u post ⟨v1,rfl,mU,rfl⟩ w hS;(try simp only[app]at hS)
 have ix:=Ii 1 r
 refine yn (by omega) ?_
 refine bW (λh=>?_) (λh=>?_)
 ·refine Cc (Zy X rp 8 v1 (j3 1 r).2 mU (by omega)) ?_;clear hS
  rintro u post ⟨v2,rfl,l8,rfl⟩ w hS;(try simp only[app]at hS)
  have cwg:=Ii 8 (j3 1 r).2
  refine zL ?_
  rw[TZ (by omega),h]
  have e:kN r=(⟨1,sig (j3 8 (j3 1 r).2).1,⟨#[]⟩⟩,(j3 8 (j3 1 r).2).2):=by
   unfold kN;rw[if_pos (by omega)]
  refine Gn λw hS=>?_
  refine⟨[pe rp (kN r).2 v2,X],⟨v2,?_,?_,rfl⟩,?_⟩
  ·rw[e];rfl
  ·rw[e];exact l8
  ·rw[e];exact aR hS
 ·refine bW (λh2=>?_) (λh2=>?_)
  ·refine Cc (Ym X rp 4096 v1 (j3 1 r).2 mU (by omega)) ?_;clear hS
   rintro u post ⟨v2,rfl,l8,rfl⟩ w hS;(try simp only[app]at hS)
   refine Cc (Yo X rp (kn 4096 (j3 1 r).2).1 v2 (kn 4096 (j3 1 r).2).2 l8) ?_;clear hS
   rintro u post ⟨v3,hu,HD,rfl⟩ w hS;(try simp only[app]at hS)
   obtain⟨au,cu,eu,_⟩:=hu.sl hS Xh
   refine Zh ⟨_,_,_,eu⟩ (hu.src hS Xh) Tryz.underlying62 Tryz.underlying9 Tryz.underlying5 ?_
   rw[h2]
   have e:kN r=(⟨2,0,iQ (kJ (kn 4096 (j3 1 r).2).1 (kn 4096 (j3 1 r).2).2).1⟩,(kJ (kn 4096 (j3 1 r).2).1 (kn 4096 (j3 1 r).2).2).2):=by
    unfold kN iQ;rw[if_neg (by omega),if_pos (by omega)]
   refine Gn λw hS=>?_
   refine⟨[pe rp (kN r).2 v3,X],⟨v3,?_,?_,rfl⟩,?_⟩
   ·rw[e];rfl
   ·rw[e];exact HD
   ·rw[e];exact aR hS
  ·refine Gp ?_
   have e:kN r=(ud,if (j3 1 r).2.e=0 then {(j3 1 r).2 with e:=3} else (j3 1 r).2):=by
    unfold kN;rw[if_neg (by omega),if_neg (by omega)]
   refine za (λh3=>?_) (λh3=>?_)
   ·rw[if_pos h3]at e
    refine Gn λw hS=>?_
    refine⟨[pe rp (kN r).2 v1,X],⟨v1,?_,?_,rfl⟩,?_⟩
    ·rw[e];rfl
    ·rw[e];exact mU
    ·rw[e];exact aR hS
   ·rw[if_neg h3]at e
    refine Gn λw hS=>?_
    refine⟨[pe rp (kN r).2 v1,X],⟨v1,?_,?_,rfl⟩,?_⟩
    ·rw[e];rfl
    ·rw[e];exact mU
    ·rw[e];exact aR hS
theorem pL(x:gW):(iD x).length=3:=rfl
theorem O2:∀(i:Nat) (r:lR),(kO i r).1.length<=i
 | 0,r=>Nat.le_refl _
 | i+1,r=>by
  unfold kO
  split
  ·have:=O2 i (kN r).2
   simp only[List.length_cons];omega
  ·exact Nat.zero_le _
def tZ(r:lR):Int:=if r.e=0 then if 0<r.b.length then 3 else 0 else r.e
theorem BG(b:List UInt8):lu b=if tZ (kO (kn 32767 ⟨b,0⟩).1 (kn 32767 ⟨b,0⟩).2).2=0 then .ok (kO (kn 32767 ⟨b,0⟩).1 (kn 32767 ⟨b,0⟩).2).1 else .error (tZ (kO (kn 32767 ⟨b,0⟩).1 (kn 32767 ⟨b,0⟩).2).2):=rfl
def rH(X:Chunk)(b:List UInt8)(u:Value)(post:List Chunk):Prop:=match lu b with
 | .error e=>u= .tuple #[.slice none 0 0,.int .i64 e]/\post=[X]
 | .ok l=>∃v,u= .tuple #[v,.int .i64 0]/\post=[.ob (a_ v 174 3 l.length (l.map iD).flatten),X]
theorem Dx(x:gW):∀v∈iD x,v.oneCell'=true:=λv hv=>by
 simp only[iD,List.mem_cons,List.not_mem_nil,or_false]at hv
 rcases hv with rfl|rfl|rfl<;>rfl
theorem yW(X:Chunk)(v:Value)(b:List UInt8)(hv:ie X v b):SP 157 [v] [X] (rH X b):=by
 intro W F w hS;apply b4b;delta Kj aF bF fI aW dI ai cI bI;(try simp only[app]at hS)
 obtain⟨a0,c0,rfl,_⟩:=hv.sl hS .hd
 refine yx rfl ?_
 refine⟨_,rfl,zJ hS ?_⟩
 clear hS;intro rp w hS
 generalize hm:kn 32767 ⟨b,0⟩=m
 refine⟨λvs w=>∃u v',vs=[u]/\ie X v' (kO m.1 m.2).2.b/\SL W (.ob (a_ u 174 3 (kO m.1 m.2).1.length ((kO m.1 m.2).1.map iD).flatten)::pe rp (kO m.1 m.2).2 v'::X::F) w,?_,?_⟩
 ·have hS:SL W (pe rp ⟨b,0⟩ (.slice a0 b.length c0)::X::F) w:=hS
  refine Cc (Ym X rp 32767 _ ⟨b,0⟩ hv (by omega)) ?_;clear hS
  rintro u post ⟨v1,rfl,mU,rfl⟩ w hS;(try simp only[app]at hS)
  rw[hm]at hS mU ⊢
  have hle:m.1<=32767:=by rw[<- hm];exact SU _ _
  have hS:=a_.nil (t:=174) (sz:=3) hS
  refine⟨λvs w=>∃(u v':Value) (xs:List gW) (i:Nat) (r:lR),vs=[u,.int .i64 i]/\xs.length+i=m.1/\kO m.1 m.2=(xs++(kO i r).1,(kO i r).2)/\ie X v' r.b/\SL W (.ob (a_ u 174 3 xs.length (xs.map iD).flatten)::pe rp r v'::X::F) w,λvs _=>match vs with
   | [_,.int _ i]=>i.toNat
   | _=>0,⟨_,v1,[],m.1,m.2,rfl,by simp,by simp,mU,hS⟩,?_⟩
  rintro u1 u2 w1 ⟨u,v',xs,i,r,hv,hx,hf,hr,hS⟩
  cases hv
  refine bW (λh=>?_) (λh=>?_)
  ·refine Gp ?_
   obtain⟨j,rfl⟩:∃j,i=j+1:=⟨i-1,by omega⟩
   refine za (λh2=>?_) (λh2=>?_)
   ·refine Cc (qI X rp v' r hr) ?_;clear hS
    rintro u5 post ⟨v2,rfl,l8,rfl⟩ w hS;(try simp only[app]at hS)
    refine zz (cells:=iD (kN r).1) hS rfl ?_
    clear hS;intro p w hS
    refine zx (m:=1) (cs:=iD (kN r).1) hS Xr (lP hS .hd rfl) rfl rfl (Dx _) (by omega) (by omega) ?_
    clear hS;intro u' w hS
    refine Gp ?_
    have e:((j+1:Nat):Int)-1=(j:Int):=by omega
    rw[e]
    refine⟨⟨u',v2,xs++[(kN r).1],j,(kN r).2,rfl,by simp;omega,?_,l8,?_⟩,?_⟩
    ·rw[hf]
     have:kO (j+1) r=((kN r).1::(kO j (kN r).2).1,(kO j (kN r).2).2):=by
      show (if r.e=0 then _ else _)=_
      rw[if_pos h2]
     rw[this];simp
    ·simp only[List.length_append,List.length_cons,List.length_nil,List.map_append,List.map_cons,List.map_nil,List.flatten_append,List.flatten_cons,List.flatten_nil,List.append_nil]
     exact aR hS
    ·simp only[Int.toNat_natCast];omega
   ·have:kO (j+1) r=([],r):=by
     show (if r.e=0 then _ else _)=_
     rw[if_neg h2]
    rw[this,List.append_nil]at hf
    refine⟨u1,v',rfl,?_,?_⟩
    ·rw[hf];exact hr
    ·rw[hf];exact hS
  ·obtain rfl:i=0:=by omega
   have:kO 0 r=([],r):=rfl
   rw[this,List.append_nil]at hf
   refine⟨u1,v',rfl,?_,?_⟩
   ·rw[hf];exact hr
   ·rw[hf];exact hS
 ·rintro u5 w ⟨u,v',hu,pQ,hS⟩
  obtain rfl:u5=u:=(List.cons.inj hu).1
  have hd:=BG b
  rw[hm]at hd
  generalize (kO m.1 m.2).2=r at *
  generalize (kO m.1 m.2).1=xs at *
  refine⟨λvs w=>vs=[]/\SL W (.ob (a_ u5 174 3 xs.length (xs.map iD).flatten)::.pt rp [v',.int .i64 (tZ r)] 327::X::F) w,?_,?_⟩
  ·refine bW (λh=>?_) (λh=>?_)
   ·refine Gp ?_
    refine zI hS Xh pQ ?_
    refine bW (λh2=>?_) (λh2=>?_)
    ·refine Gn λw hS=>?_
     have e:tZ r=3:=by unfold tZ;rw[if_pos h,if_pos (by omega)]
     rw[e];exact hS
    ·have e:tZ r=r.e:=by unfold tZ;rw[if_pos h,if_neg (by omega),h]
     rw[e];exact⟨rfl,hS⟩
   ·have e:tZ r=r.e:=by unfold tZ;rw[if_neg h]
    rw[e];exact⟨rfl,hS⟩
  ·rintro w ⟨_,hS⟩
   refine bW (λh=>?_) (λh=>?_)
   ·refine Gn λw hS=>?_
    rw[if_neg h]at hd
    refine⟨[X],?_,aR hS⟩
    unfold rH;rw[hd];exact⟨rfl,rfl⟩
   ·have h:tZ r=0:=by omega
    rw[if_pos h]at hd
    refine⟨[.ob (a_ u5 174 3 xs.length (xs.map iD).flatten),X],?_,aR hS⟩
    unfold rH;rw[hd];exact⟨u5,rfl,rfl⟩
theorem TR{a:Int}{n:Nat}{k:IntKind}(hn:n<=64){K:Value->Prop}(h:K (.int .u64 (a.fdiv (2 ^ n)))):zc .shr (.int .u64 a) (.int k (n:Int)) K:=by
 refine⟨.int .u64 (a.fdiv (2 ^ n)),?_,h⟩
 have h1:¬((n:Int)<0):=by omega
 simp only[mr,h1,if_false]
 rw[show min (n:Int).toNat IntKind.u64.bits=n by simp only[IntKind.bits];omega]
theorem Zx(b:List UInt8)(v:Value)(x:Int)(n:Nat)(hn:n<=8)(hb:b.length<=140737488355000):SP 284 [v,.int .u64 x,.int .i64 n] [.ob (a_ v 5 1 b.length (b.map cR))] (λu post=>post=[.ob (a_ u 5 1 (b++iu x n).length ((b++iu x n).map cR))]):=by
 intro W F w hS;apply b62;delta LW aF ai;(try simp only[app]at hS)
 refine Gp ?_
 refine⟨λvs w=>∃(u:Value) (c:List UInt8) (k:Nat),vs=[u,.int .i64 ((k:Int)-1)]/\k<=n/\c++iu x k=b++iu x n/\SL W (.ob (a_ u 5 1 c.length (c.map cR))::F) w,λvs _=>match vs with
  | [_,.int _ i]=>(i+1).toNat
  | _=>0,⟨v,b,n,rfl,Nat.le_refl _,rfl,hS⟩,?_⟩
 rintro u1 u2 w1 ⟨u,c,k,hv,hk,hc,hS⟩
 cases hv
 refine bW (λh=>?_) (λh=>?_)
 ·obtain⟨j,rfl⟩:∃j,k=j+1:=⟨k-1,by omega⟩
  have e0:((j+1:Nat):Int)-1=(j:Int):=by omega
  rw[e0]
  refine TO (by omega) ?_
  have e1:(8:Int)*(j:Int)=((8*j:Nat):Int):=by omega
  rw[e1]
  refine TR (by omega) ?_
  refine zL ?_
  rw[wrap_u8]
  refine zz (cells:=[cR (jQ (x.fdiv (2 ^ (8*j))))]) hS rfl ?_
  clear hS;intro p w hS
  have kH:c.length+(j+1)=b.length+n:=by
   have:=congrArg List.length hc
   simpa [mf] using this
  refine zx (m:=1) (cs:=[cR (jQ (x.fdiv (2 ^ (8*j))))]) hS Xr (lP hS .hd rfl) rfl rfl (by intro v hv;simp only[List.mem_singleton]at hv;subst hv;rfl) (by omega) (by omega) ?_
  clear hS;intro u' w hS
  refine Gp ?_
  refine⟨⟨u',c++[jQ (x.fdiv (2 ^ (8*j)))],j,rfl,by omega,?_,?_⟩,?_⟩
  ·rw[<- hc];simp[iu]
  ·simp only[List.length_append,List.length_cons,List.length_nil,List.map_append,List.map_cons,List.map_nil]
   exact aR hS
  ·show ((j:Int)-1+1).toNat<((j:Int)+1).toNat
   omega
 ·obtain rfl:k=0:=by omega
  have e:c=b++iu x n:=by simpa [iu] using hc
  rw[e]at hS
  exact⟨_,rfl,hS⟩
theorem ql(x:gW):SP 285 [.agg (iD x).toArray] [] (dW (.bool (mV x)) []):=by
 intro W F w hS;apply b63;delta LX aF a7 b7 ai;(try simp only[app]at hS)
 refine⟨iD x,rfl,?_⟩
 unfold iD
 refine Gm λb w hS=>?_
 unfold mV
 refine za (λh=>?_) (λh=>?_)
 ·rw[if_pos h]
  refine Gp ?_
  have e:decide (x.s=({data:=#[]}:ByteArray))=decide (x.s=⟨#[]⟩):=rfl
  exact eF hS
 ·rw[if_neg h]
  refine bW (λh2=>?_) (λh2=>?_)
  ·rw[if_pos h2]
   refine bW (λh3=>?_) (λh3=>?_)
   ·refine Gp ?_
    rw[decide_eq_true h3,Bool.true_and]
    have e:decide ((x.s.size:Int)<=4096)=decide (x.s.size<=4096):=by congr 1;exact propext ⟨λ_=>by omega,λ_=>by omega⟩
    rw[e]
    exact eF hS
   ·rw[decide_eq_false h3,Bool.false_and]
    exact eF hS
  ·rw[if_neg h2]
   exact eF hS
theorem qu{P:Program}{t:TypeId}{fs:Array Field}{f:Field}{i:Nat}{vs:List Value}{v:Value}{w:World}{K:Value->Prop}(ht:P.underlying t=some (.struct fs))(hf:fs[i]?=some f)(ha:∀w,(isAgg f.type).run P w= .ok false w)(hv:vs[f.offset]?=some v)(h:K v):
  kg P (Instr.field t (.agg vs.toArray) i) w K:=by
 refine⟨_,?_,h⟩
 simp[Instr.field,asAgg,run_underlying ht,Result.andThen,hf,part,ha,hv]
theorem OJ(x:gW):∀v∈iD x,v.oneCell'=true:=Dx x
theorem uW(x:gW):(iD x).length=3:=rfl
theorem Zw(b:Nat)(ns:List Int)(t:TypeId)(hn:ns.length<=1000):
  SP 225 [.slice (some ⟨b,0,none⟩) ns.length ns.length] [.pt b (ns.map (Value.int .i64)) t] (λu post=>post=[.ob (a_ u 174 3 ns.length ((ns.map iF).map iD).flatten)]):=by
 intro W F w hS;apply b5u;delta Lc aF ai cI bI;(try simp only[app]at hS)
 have hS:=a_.nil (t:=174) (sz:=3) hS
 refine Gp ?_
 refine⟨λvs w=>∃(i:Nat) (u:Value),vs=[u,.int .i64 i]/\i<=ns.length/\SL W (.ob (a_ u 174 3 i (((ns.take i).map iF).map iD).flatten)::.pt b (ns.map (Value.int .i64)) t::F) w,
  λvs _=>match vs with|[_,.int _ i]=>(ns.length-i).toNat|_=>0,⟨0,_,rfl,by omega,hS⟩,?_⟩
 clear hS
 rintro u v8 w ⟨i,_,jy,hi,hS⟩
 cases jy
 refine bW (λh=>?_) (λh=>?_)
 ·have b3:i<ns.length:=by omega
  refine zB b3 (zX hS Xh (v:=.int .i64 ns[i]) (by simp[b3]) ?_)
  refine Gm λb w hS=>?_
  refine yy (n:=i) (xs:=(ns.take i).map iF) (y:=iF ns[i]) (enc:=iD) hS Xr Xh uW OJ rfl (by omega) (by omega) λv2 w hS=>?_
  refine Gp ?_
  refine⟨⟨i+1,_,rfl,by omega,?_⟩,by dsimp only;omega⟩
  rw[List.take_succ_eq_append_getElem b3,List.map_append (f:=iF),List.map_singleton]
  exact aR hS
 ·have:i=ns.length:=by omega
  subst this
  rw[List.take_length]at hS
  exact⟨_,rfl,aR hS⟩
theorem ZZ(s:ByteArray):SP 227 [.string s] [] (dW (agg (iD (tF s))) []):=by
 intro W F w hS;apply b5w;delta Le ai cI;(try simp only[app]at hS)
 refine Gm λb w hS=>?_
 (exact eF hS)
theorem a78(b:Bool):SP 226 [.bool b] [] (dW (.int .i64 (rO b)) []):=by
 intro W F w hS;apply b5v;delta Ld ai;(try simp only[app]at hS)
 cases b<;>(repeat (first|refine Gp ?_|refine Gw λw hS=>?_|refine Gb λb w hS=>?_))<;>(exact eF hS)
def j9(rp:Nat)(r:cF):zC:=mX λv:Value=>zQ True [.pt rp [v,.bool r.bad] 330,.ob (f_ v 174 3 r.l.length (r.l.map iD).flatten)]
theorem j9.iff{W w:World}{rp:Nat}{r:cF}{l:List Chunk}:SL W (.ob (j9 rp r)::l) w↔∃v,SL W (.pt rp [v,.bool r.bad] 330::.ob (f_ v 174 3 r.l.length (r.l.map iD).flatten)::l) w:=by
 unfold j9
 simp only[SL.ex,SL.fact,List.cons_append,List.nil_append,true_and]
theorem ZY(v:Value)(l:List gW):SP 158 [v] [.ob (a_ v 174 3 l.length (l.map iD).flatten)] (λu post=>∃rp:Nat,u= .pointer (some ⟨rp,0,none⟩)/\post=[.ob (j9 rp ⟨l,false⟩)]):=by
 intro W F w hS;apply b4c;delta Kk bI;(try simp only[app]at hS)
 have h1:=a_.one hS
 obtain⟨a,c,rfl,_⟩:=a_.at hS .hd
 refine Gp ?_
 refine zK hS λb w hS=>?_
 refine⟨_,⟨b,rfl,rfl⟩,(j9.iff (r:=⟨l,false⟩)).2 ⟨.slice a l.length c,?_⟩⟩
 exact (f_.of (hS.perm (.swap _ _ _))).perm (.swap _ _ _)
theorem ZX(rp:Nat)(r:cF)(k:Int):SP 238 [.pointer (some ⟨rp,0,none⟩),.int .i64 k] [.ob (j9 rp r)] (dW (agg (iD (oB k r).1)) [.ob (j9 rp (oB k r).2)]):=by
 obtain⟨l,bad⟩:=r
 intro W F w hS;apply b55;delta Ln aF bF a7 fI ai cI;(try simp only[app]at hS)
 obtain⟨v,hS⟩:=j9.iff.1 hS
 simp only at hS
 refine Gm λb w hS=>?_
 cases bad with
 | true=>
  refine Gn λw hS=>?_
  have e:oB k ⟨l,true⟩=(ud,⟨l,true⟩):=by unfold oB;rfl
  rw[e]
  exact⟨_,⟨rfl,rfl⟩,j9.iff.2 ⟨v,aR hS⟩⟩
 | false=>
  refine Gp ?_
  refine zW hS (v:=v) Xh ?_
  refine Gp ?_
  cases l with
  | nil=>
   refine za (λh=>?_) (λh=>absurd rfl h)
   refine Gn λw hS=>?_
   rw[show oB k ⟨[],false⟩=(ud,⟨[],true⟩) from rfl]
   exact⟨_,⟨rfl,rfl⟩,j9.iff.2 ⟨v,aR hS⟩⟩
  | cons f l=>
   refine za (λh=>by rw[List.length_cons]at h;omega) (λh=>?_)
   refine Gp ?_
   refine yC (j:=0) (k:=.i64) hS (v:=v) Xh (by simp) λab ao hb=>zR ⟨_,.int .i64 f.kind,rfl,hb 0 _ (by decide) rfl,?_⟩
   refine bW (λhk=>?_) (λhk=>?_)
   ·refine Gn λw hS=>?_
    have e:oB k ⟨f::l,false⟩=(ud,⟨f::l,true⟩):=by unfold oB;exact if_neg hk
    rw[e]
    exact⟨_,⟨rfl,rfl⟩,j9.iff.2 ⟨v,aR hS⟩⟩
   ·refine Gp ?_
    refine bIe (j:=0) (k:=.i64) hS (v:=v) (enc:=iD) (xs:=f::l) Xh uW rfl (by simp) ?_
    refine Gm λb w hS=>?_
    refine Qp (k:=1) (v:=v) (Has.front hS Xr) (by simp) λu hS=>?_
    have hS:SL W (.ob (f_ u 174 3 l.length (l.map iD).flatten)::_) _:=hS
    have h1:=f_.one hS .hd
    refine Gn λw hS=>?_
    have e:oB k ⟨f::l,false⟩=(f,⟨l,false⟩):=by unfold oB;exact if_pos (Classical.not_not.1 hk)
    rw[e]
    exact⟨_,⟨rfl,rfl⟩,j9.iff.2 ⟨u,aR hS⟩⟩
theorem yD(rp:Nat)(r:cF):SP 159 [.pointer (some ⟨rp,0,none⟩)] [.ob (j9 rp r)] (dW (.int .i64 (j7 r).1) [.ob (j9 rp (j7 r).2)]):=by
 intro W F w hS;apply b4d;delta Kl ai;(try simp only[app]at hS)
 refine Cg (ZX rp r 1) λw hS=>?_
 exact qu Tryz.underlying174 rfl (λw=>by kernel_rfl) rfl ⟨_,⟨rfl,rfl⟩,hS⟩
theorem yY(rp:Nat)(r:cF):SP 162 [.pointer (some ⟨rp,0,none⟩)] [.ob (j9 rp r)] (dW (.string (iV r).1) [.ob (j9 rp (iV r).2)]):=by
 intro W F w hS;apply b4h;delta Kp ai;(try simp only[app]at hS)
 refine Cg (ZX rp r 2) λw hS=>?_
 exact qu Tryz.underlying174 rfl (λw=>by kernel_rfl) rfl ⟨_,⟨rfl,rfl⟩,hS⟩
theorem j9.bad{W w:World}{rp:Nat}{r:cF}{l:List Chunk}(v:Value)(h:SL W (.pt rp [v,.bool true] 330::.ob (f_ v 174 3 r.l.length (r.l.map iD).flatten)::l) w):SL W (.ob (j9 rp {r with bad:=true})::l) w:=j9.iff.2 ⟨v,h⟩
theorem zY(rp:Nat)(r:cF)(m:Int):SP 160 [.pointer (some ⟨rp,0,none⟩),.int .i64 m] [.ob (j9 rp r)] (dW (.int .i64 (iA m r).1) [.ob (j9 rp (iA m r).2)]):=by
 intro W F w hS;apply b4f;delta Kn aF fI ai;(try simp only[app]at hS)
 refine Cg (yD rp r) λw hS=>?_
 have hB:((j7 r).1<0\/m<(j7 r).1)->iA m r=(0,{(j7 r).2 with bad:=true}):=λh=>if_pos h
 have hG:¬((j7 r).1<0\/m<(j7 r).1)->iA m r=j7 r:=λh=>if_neg h
 refine za (λh=>?_) (λh=>?_)
 ·rw[hB (.inl h)]
  obtain⟨v,hS⟩:=j9.iff.1 hS
  refine Gn λw hS=>?_
  exact⟨_,⟨rfl,rfl⟩,j9.bad v hS⟩
 ·refine bW (λh2=>?_) (λh2=>?_)
  ·rw[hB (.inr h2)]
   obtain⟨v,hS⟩:=j9.iff.1 hS
   refine Gn λw hS=>?_
   exact⟨_,⟨rfl,rfl⟩,j9.bad v hS⟩
  ·rw[hG (by omega)]
   (exact eF hS)
theorem qT(rp:Nat)(r:cF):SP 239 [.pointer (some ⟨rp,0,none⟩)] [.ob (j9 rp r)] (dW (.bool (p9 r).1) [.ob (j9 rp (p9 r).2)]):=by
 intro W F w hS;apply b56;delta Lo ai;(try simp only[app]at hS)
 refine Cg (zY rp r 1) λw hS=>?_
 exact⟨_,⟨rfl,rfl⟩,hS⟩
theorem qS(rp:Nat)(r:cF):SP 326 [.pointer (some ⟨rp,0,none⟩)] [.ob (j9 rp r)] (dW (.bool (!r.bad)) [.ob (j9 rp r)]):=by
 intro W F w hS;apply b7v;delta Mp bF;(try simp only[app]at hS)
 obtain⟨v,hS⟩:=j9.iff.1 hS
 refine Gp ?_
 exact⟨_,⟨rfl,rfl⟩,j9.iff.2 ⟨v,hS⟩⟩
theorem ZW(rp:Nat)(r:cF):SP 163 [.pointer (some ⟨rp,0,none⟩)] [.ob (j9 rp r)] (dW (.bool (decide (r.bad=false/\r.l=[]))) [.ob (j9 rp r)]):=by
 intro W F w hS;apply b4i;delta Kq bF c_ b7 ai;(try simp only[app]at hS)
 obtain⟨v,hS⟩:=j9.iff.1 hS
 refine Gp ?_
 obtain⟨l,bad⟩:=r
 cases bad with
 | true=>
  refine zq ?_
  rw[decide_eq_false (by simp)]
  exact⟨_,⟨rfl,rfl⟩,j9.iff.2 ⟨v,hS⟩⟩
 | false=>
  refine zw ?_
  refine Gp ?_
  refine zW hS (v:=v) Xh ?_
  refine Gp ?_
  have e:decide ((l.length:Int)=0)=decide ((cF.mk l false).bad=false/\(cF.mk l false).l=[]):=by
   rw[decide_eq_decide]
   simp
  rw[e]
  exact⟨_,⟨rfl,rfl⟩,j9.iff.2 ⟨v,hS⟩⟩
structure ig where
 table:Int
 key:Int
 gone:Bool
 val:ByteArray
deriving DecidableEq
structure dR where
 aI:Int
 kind:Int
 changes:List ig
 signals:List ByteArray
 mark:Int
def jA(c:ig):List Value:=[.int .i64 c.table,.int .i64 c.key,.bool c.gone,.string c.val]
theorem m0(c:ig):(jA c).length=4:=rfl
theorem F5(c:ig):∀v∈jA c,v.oneCell'=true:=by simp[jA,Value.oneCell']
structure oP where
 aI:Int
 kind:Int
 cv:Value
 sv:Value
 mark:Int
def iU(x:oP):List Value:=[.int .i64 x.aI,.int .i64 x.kind,x.cv,x.sv,.int .i64 x.mark]
structure mn(H:bw)(x:oP)(t:dR):Prop where
 aI:x.aI=t.aI
 kind:x.kind=t.kind
 mark:x.mark=t.mark
 cv:gi H 4 x.cv t.changes.length (t.changes.map jA).flatten
 sv:gi H 1 x.sv t.signals.length (t.signals.map Value.string)
def ke(C:List Row):Prop:=C.Pairwise (λa b=>a.key<b.key)
def jC(C:List Row)(k:Int):Option ByteArray:=(C.find? (λc=>decide (c.key=k))).map (·.val)
def km:List Row->Row->List Row
 | [],c=>[c]
 | x::C,c=>if x.key<c.key then x::km C c else if x.key=c.key then c::C else c::x::C
def lS:List Row->Int->List Row
 | [],_=>[]
 | x::C,k=>if x.key=k then C else x::lS C k
def ni(C:List Row)(c:ig):List Row:=if c.gone then lS C c.key else km C ⟨c.key,c.val⟩
def vJ(t:Int)(C:List Row)(c:ig):List Row:=if c.table=t then (if c.gone then lS C c.key else km C ⟨c.key,c.val⟩) else C
def mA(t:Int)(l:List dR):List Row:=(l.flatMap (·.changes)).foldl (vJ t) []
theorem SQ{C:List Row}{c x:Row}(h:x∈km C c):x=c\/x∈C:=by
 induction C with
 | nil=>simpa [km] using h
 | cons y C ih=>
  unfold km at h
  split at h
  ·rcases List.mem_cons.1 h with rfl|h
   ·exact .inr (.head _)
   ·rcases ih h with h|h
    ·exact .inl h
    ·exact .inr (.tail _ h)
  ·split at h
   ·rcases List.mem_cons.1 h with rfl|h
    ·exact .inl rfl
    ·exact .inr (.tail _ h)
   ·rcases List.mem_cons.1 h with rfl|h
    ·exact .inl rfl
    ·exact .inr h
theorem IU{C:List Row}(h:ke C)(c:Row):ke (km C c):=by
 unfold ke at *
 induction C with
 | nil=>simp[km]
 | cons y C ih=>
  rw[List.pairwise_cons]at h
  unfold km
  split
  ·rename_i ix
   refine List.pairwise_cons.2 ⟨λz hz=>?_,ih h.2⟩
   rcases SQ hz with rfl|hz
   ·exact ix
   ·exact h.1 z hz
  ·split
   ·rename_i he
    exact List.pairwise_cons.2 ⟨λz hz=>by have:=h.1 z hz;omega,h.2⟩
   ·rename_i h1 h2
    refine List.pairwise_cons.2 ⟨λz hz=>?_,List.pairwise_cons.2 h⟩
    rcases List.mem_cons.1 hz with rfl|hz
    ·omega
    ·have:=h.1 z hz;omega
theorem SO{C:List Row}{k:Int}{x:Row}(h:x∈lS C k):x∈C:=by
 induction C with
 | nil=>exact h
 | cons y C ih=>
  unfold lS at h
  split at h
  ·exact .tail _ h
  ·rcases List.mem_cons.1 h with rfl|h
   ·exact .head _
   ·exact .tail _ (ih h)
theorem T7{C:List Row}(h:ke C)(k:Int):ke (lS C k):=by
 unfold ke at *
 induction C with
 | nil=>exact h
 | cons y C ih=>
  rw[List.pairwise_cons]at h
  unfold lS
  split
  ·exact h.2
  ·exact List.pairwise_cons.2 ⟨λz hz=>h.1 z (SO hz),ih h.2⟩
theorem Pk(C:List Row)(c:Row)(k:Int):jC (km C c) k=if c.key=k then some c.val else jC C k:=by
 unfold jC
 induction C with
 | nil=>by_cases h:c.key=k<;>simp[km,h]
 | cons y C ih=>
  unfold km
  split
  ·by_cases h1:y.key=k
   ·have:c.key≠k:=by omega
    simp[h1,this]
   ·simp only[List.find?_cons,h1,decide_false];exact ih
  ·split
   ·rename_i he
    by_cases h1:c.key=k
    ·simp[h1]
    ·have:y.key≠k:=by omega
     simp[h1,this]
   ·by_cases h1:c.key=k<;>simp[h1]
theorem Ph{C:List Row}(hs:ke C)(k0 k:Int):jC (lS C k0) k=if k0=k then none else jC C k:=by
 unfold jC ke at *
 induction C with
 | nil=>simp[lS]
 | cons y C ih=>
  rw[List.pairwise_cons]at hs
  unfold lS
  split
  ·rename_i he
   by_cases h1:k0=k
   ·subst h1
    have:C.find? (λc=>decide (c.key=k0))=none:=by
     rw[List.find?_eq_none];intro z hz;have:=hs.1 z hz;simp;omega
    simp[this]
   ·have:¬y.key=k:=by omega
    simp[h1,this]
  ·rename_i he
   have HK:=ih hs.2
   by_cases h1:y.key=k
   ·have:¬k0=k:=by omega
    simp[h1,this]
   ·simp only[List.find?_cons,h1,decide_false];exact HK
theorem HR(C:List Row)(c:Row):(km C c).length<=C.length+1:=by
 induction C with
 | nil=>simp[km]
 | cons y C ih=>
  unfold km
  split
  ·simp;omega
  ·split<;>simp
theorem Sn(C:List Row)(k:Int):(lS C k).length<=C.length:=by
 induction C with
 | nil=>exact Nat.le_refl _
 | cons y C ih=>unfold lS;split<;>simp;omega
theorem aRx(t:Int)(C:List Row)(c:ig):(vJ t C c).length<=C.length+1:=by
 unfold vJ
 have:=HR C ⟨c.key,c.val⟩
 have:=Sn C c.key
 split
 ·split<;>omega
 ·omega
theorem aRy{l:List ig}:∀(C:List Row) (t:Int),(l.foldl (vJ t) C).length<=C.length+l.length:=by
 induction l with
 | nil=>intro C t;simp
 | cons c l ih=>intro C t;have:=ih (vJ t C c) t;have:=aRx t C c;simp only[List.foldl_cons,List.length_cons];omega
def ail(k:Int)(lG:Nat):Nat:=(min (max k 0) (lG:Int)).toNat
set_option maxRecDepth 100000
open Go.RowKit
def lF(c:ig)(k:Int):Bool:=decide (0<=c.table/\c.table<k/\1<=c.key/\c.key<=1099511627776/\c.val.size<=32/\(c.gone=true->c.val=emp))
theorem qn(c:ig)(k:Int):SP 181 [agg (jA c),.int .i64 k] [] (dW (.bool (lF c k)) []):=by
 intro W F w hS;apply b4x;delta KF aF a7 b7 ai;(try simp only[app]at hS)
 refine zK hS λb w hS=>?_
 unfold jA at hS
 have hF:∀{w:World},¬(0<=c.table/\c.table<k/\1<=c.key/\c.key<=1099511627776/\c.val.size<=32)->SL W (.pt b [.int .i64 c.table,.int .i64 c.key,.bool c.gone,.string c.val] 82::F) w ->
   ∃post,dW (.bool (lF c k)) [] (.bool false) post/\SL W (app post F) w:=λh hS=>⟨_,⟨by rw[show lF c k=false by unfold lF;rw[decide_eq_false_iff_not];exact λk=>h ⟨k.1,k.2.1,k.2.2.1,k.2.2.2.1,k.2.2.2.2.1⟩],rfl⟩,aR hS⟩
 (repeat (first|refine Gp ?_|refine Gw λw hS=>?_|refine za (λ_=>hF (by omega) hS) (λ_=>?_)|refine za (λ_=>?_) (λ_=>hF (by omega) hS)))
 have e:lF c k=decide (c.gone=true->c.val=emp):=by
  unfold lF
  rw[decide_eq_decide]
  exact⟨λh=>h.2.2.2.2.2,λh=>⟨by omega,by omega,by omega,by omega,by omega,h⟩⟩
 rw[e]
 refine y3 (λh=>?_) (λh=>?_)
 ·refine Gp ?_
  rw[h]
  have e2:decide (true=true->c.val=emp) = !decide (c.val≠{data:=#[]}):=by
   rw[Bool.eq_iff_iff];simp[emp]
  rw[e2]
  (exact eF hS)
 ·refine Gp ?_
  rw[h,decide_eq_true (by simp)]
  (exact eF hS)
def xK(x:gW):Prop:=(x.kind=1/\0<=x.n/\x.n<1152921504606846976/\x.s=emp)\/(x.kind=2/\x.n=0/\x.s.size<=4096)
theorem xK.right{x:gW}(h:xK x):mV x=true:=by
 unfold mV
 rcases h with ⟨h1,_,_,h2⟩|⟨h1,h2,h3⟩
 ·rw[if_pos h1,h2];rfl
 ·rw[if_neg (by omega),if_pos h1,decide_eq_true h2,decide_eq_true h3];rfl
theorem S3{n:Nat}(h:n<65536):jM (iu n 2)=n:=by
 have f:∀k,((n:Int).fdiv (2 ^ (8*k)))=((n / 2 ^ (8*k):Nat):Int):=λk=>by
  have:=tf n (2 ^ (8*k)) (Nat.two_pow_pos _)
  rw[<- this];push_cast;rfl
 unfold iu iu iu
 simp only[f,jM,List.foldl_cons,List.foldl_nil,wj,show (2:Nat) ^ (8*1)=256 from rfl,show (2:Nat) ^ (8*0)=1 from rfl]
 omega
theorem Ol:∀(l acc:List gW),(∀x∈l,xK x)->oR acc l.length ⟨(l.map iZ).flatten,0⟩= .ok (acc++l)
 | [],acc,_=>by
  rw[List.map_nil,List.flatten_nil,List.length_nil,Oo,if_neg (by simp),List.append_nil]
 | x::l,acc,h=>by
  have hx:=h x (.head _)
  have ih:=Ol l (acc++[x]) λy hy=>h y (.tail _ hy)
  obtain⟨kind,n,s⟩:=x
  rw[List.map_cons,List.flatten_cons,List.length_cons]
  rcases hx with ⟨h1,h2,h3,h4⟩|⟨h1,h2,h3⟩
  ·have h1:kind=1:=h1
   have h4:s=emp:=h4
   subst h1 h4
   obtain⟨m,rfl⟩:=Int.eq_ofNat_of_zero_le h2
   have hm:m<1152921504606846976:=by have h3:(m:Int)<1152921504606846976:=h3;omega
   have e:iZ ⟨1,(m:Int),emp⟩=jQ 1::iu (m:Int) 8:=by
    show jQ 1::iu ((m:Int) % 18446744073709551616) 8=_
    rw[show (m:Int) % 18446744073709551616=(m:Int) by omega]
   have hl:=mf (m:Int) 8
   rw[e,List.cons_append,Om (by decide),if_neg (by rw[List.length_append,hl];omega),List.take_left' hl,List.drop_left' hl,S4 hm,sig,if_pos (by omega)]
   rw[List.append_assoc]at ih
   exact ih
  ·have h1:kind=2:=h1
   have h2:n=0:=h2
   have h3:s.size<=4096:=h3
   subst h1 h2
   have e:iZ ⟨2,0,s⟩=jQ 2::(iu (s.size:Nat) 2++s.data.toList):=rfl
   have hl:=mf (s.size:Int) 2
   have hs:s.data.toList.length=s.size:=rfl
   rw[e,List.cons_append,List.append_assoc,On (by decide),if_neg (by rw[List.length_append,hl];omega),List.take_left' hl,List.drop_left' hl,S3 (by omega),if_neg (by omega),
    if_neg (by rw[List.length_append,List.length_append,hl];omega),List.take_left' hs,List.drop_left' hs]
   rw[List.append_assoc]at ih
   exact ih
theorem Oh{l:List gW}(hl:l.length<=32767)(h:∀x∈l,xK x):oS l= .ok (iu l.length 2++(l.map iZ).flatten)/\lu (iu l.length 2++(l.map iZ).flatten)= .ok l:=by
 have h2:=mf (l.length:Int) 2
 have hb:=S3 (n:=l.length) (by omega)
 refine⟨?_,?_⟩
 ·unfold oS
  rw[if_neg (by omega),if_pos (List.all_eq_true.2 λx hx=>(h x hx).right)]
 ·have ht:(iu (l.length:Int) 2++(l.map iZ).flatten).take 2=iu l.length 2:=List.take_left' h2
  have hd:(iu (l.length:Int) 2++(l.map iZ).flatten).drop 2=(l.map iZ).flatten:=List.drop_left' h2
  rw[Oi (by rw[List.length_append,h2];omega) (by rw[ht,hb];omega),ht,hd,hb,Ol l [] h,List.nil_append]
theorem NZ(b:Bool):0<=rO b/\rO b<=1:=by cases b<;>decide
theorem sI{n:Int}(h:0<=n/\n<=1099511627776):xK (iF n):=.inl ⟨rfl,h.1,by show n<_;omega,rfl⟩
theorem DC{α β:Type}{f:α->List β}{k:Nat}(h:∀x,(f x).length=k):∀l:List α,((l.map f).flatten).length=l.length*k
 | []=>by simp
 | x::l=>by rw[List.map_cons,List.flatten_cons,List.length_append,h,DC h l,List.length_cons,Nat.succ_mul,Nat.add_comm]
theorem xS{m n:Int}{l:List gW}(h:0<=n/\n<=m):iA m ⟨iF n::l,false⟩=(n,⟨l,false⟩):=by
 have e:j7 ⟨iF n::l,false⟩=(n,⟨l,false⟩):=rfl
 unfold iA
 rw[e,if_neg (by show ¬(n<0\/m<n);omega)]
theorem VI{b:Bool}{l:List gW}:p9 ⟨iF (rO b)::l,false⟩=(b,⟨l,false⟩):=by
 unfold p9
 rw[xS (NZ b)]
 cases b<;>rfl
theorem SA{α:Type}{one:cF->α × cF}{f:α->List gW}:∀(xs:List α) (l:List gW),(∀x∈xs,∀l,one ⟨f x++l,false⟩=(x,⟨l,false⟩))->iJ one xs.length ⟨(xs.map f).flatten++l,false⟩=(xs,⟨l,false⟩)
 | [],l,_=>rfl
 | x::xs,l,h=>by
  have ih:=SA xs l λy hy=>h y (.tail _ hy)
  have h1:=h x (.head _) ((xs.map f).flatten++l)
  rw[List.map_cons,List.flatten_cons,List.append_assoc,List.length_cons,iJ,if_neg (by simp),h1,ih]
theorem BJ(n:Int):(iZ (iF n)).length=9:=by
 show (jQ 1::iu (rE n) 8).length=9
 rw[List.length_cons,mf]
theorem w9{α β:Type}{f:α->List β}{k:Nat}:∀l:List α,(∀x∈l,(f x).length<=k)->((l.map f).flatten).length<=l.length*k
 | [],_=>by simp
 | x::l,h=>by
  have h1:=h x (.head _)
  have ih:=w9 l λy hy=>h y (.tail _ hy)
  rw[List.map_cons,List.flatten_cons,List.length_append,List.length_cons,Nat.succ_mul]
  omega
theorem F6(l:List (List gW)):(l.flatten.map iZ).flatten=(l.map λx=>(x.map iZ).flatten).flatten:=by
 induction l with
 | nil=>rfl
 | cons x l ih=>simp only[List.flatten_cons,List.map_append,List.flatten_append,List.map_cons,ih]
end Go.Proofs.YtfenmffiidchcaaGreat

/-
  Texts of the proof, joined: Sl6, BStr, FldS, FldS2, PieceS, GMod, FMod, BatchS, ItemE.
-/
import Derived.Test.YtfenmffiidchcaaGreatJ5
import Derived.Laws.BytesString
import Derived.Test.YtfenmffiidchcaaGreatQVcS
namespace Go.Proofs.YtfenmffiidchcaaGreat
set_option linter.unusedVariables false
open Go.RowKit
section
variable {W w:World} {l:List Chunk} {P:Program}
theorem a7h{t:TypeId}{s:ByteArray}{j:Nat}{k:IntKind}{K:Value->Prop}(ht:P.underlying t=some .string)(hj:j<s.size)(h:K (.int .u8 (s[j]).toNat)):ga P (Instr.index t (.string s) (.int k (j:Int))) w K:=by
 refine⟨_,?_,h⟩
 have:s[j]?=some s[j]:=by simp[hj]
 simp[Instr.index,asIntOf,run_underlying ht,Result.andThen,this]
theorem aWc{a b:ByteArray}{K:Value->Prop}(hr:a.size+b.size<=1000000)(h:K (.string (a++b))):zc .add (.string a) (.string b) K:=by
 refine⟨_,?_,h⟩
 have hm:IntKind.i64.max=9223372036854775807:=by decide
 simp only[jk]
 rw[if_neg (by rw[hm];omega)]
end
set_option maxRecDepth 100000
def eM(bs:List UInt8):ByteArray:=⟨bs.toArray⟩
theorem Mg{a b:List UInt8}:eM a=eM b↔a=b:=by
 constructor
 ·intro h
  have:=congrArg ByteArray.data h
  exact List.toArray_inj this
 ·rintro rfl;rfl
theorem mi(a:List UInt8):(eM a).size=a.length:=by simp[eM,ByteArray.size]
theorem fold_push:∀(bs:List UInt8) (s:ByteArray),(bs.map λb=>(b.toNat:Int)).foldl (λr n=>r.push (UInt8.ofNat n.toNat)) s=⟨s.data++bs.toArray⟩
 | [],s=>by cases s;simp
 | b::bs,s=>by
  simp only[List.map_cons,List.foldl_cons]
  rw[fold_push bs]
  cases s;simp[ByteArray.push]
section
variable {W w:World} {l:List Chunk} {P:Program}
theorem Zg{src dst e:TypeId}{v:Value}{bs:List UInt8}{K:Value->Prop}(hv:∃a n c,v= .slice a n c)(g7:jy w 1 v bs.length (bs.map cI))(h1:P.underlying src=some (.slice e))(h2:P.underlying dst=some .string)(h3:P.underlying e=some (.int .u8))
  (h:K (.string (eM bs))):ga P (convert src dst v) w K:=by
 refine⟨_,?_,h⟩
 obtain⟨a,n,c,rfl⟩:=hv
 rw[run_convert_bytes_string w src dst e a n c h1 h3 h2]
 cases a with
 | none=>
  obtain⟨e1,e2⟩:=g7
  have:bs=[]:=by simpa using e2
  subst this
  rfl
 | some p=>
  obtain⟨e1,e2,e3⟩:=g7
  subst e1
  have hl:(loadCells p bs.length).run P w= .ok ((bs.map λb=>(b.toNat:Int)).map (Value.int .u8)).toArray w:=by
   have h4:=run_loadCells_list (P:=P) (w:=w) p (bs.map cI) e3
   rw[List.length_map]at h4
   rw[h4,List.map_map];rfl
  rw[run_bytesToString w p bs.length c _ hl,fold_push]
  simp[eM]
end
abbrev lR(rp:Nat)(r:iJ)(v:Value):Chunk:=.pt rp [v,.int .i64 r.e] 327
theorem Rh(n:Nat)(r:iJ):(gF n r).1.length<=n/\(gF n r).1.length<=r.b.length/\(gF n r).2.b.length<=r.b.length:=by
 unfold gF
 split
 ·simp
 ·split
  ·simp
  ·simp only[List.length_take,List.length_drop];omega
def Tk(X:Chunk)(rp n:Nat)(r:iJ)(u:Value)(post:List Chunk):Prop:=∃v',dN X u (gF n r).1/\dN X v' (gF n r).2.b/\post=[lR rp (gF n r).2 v',X]
theorem Yq(X:Chunk)(rp n:Nat)(v:Value)(r:iJ)(hv:dN X v r.b):SP 296 [.pointer (some ⟨rp,0,none⟩),.int .i64 n] [lR rp r v,X] (Tk X rp n r):=by
 intro W F w hS;apply bWl;delta Kk aF bw dx ai bF;(try simp only[app]at hS)
 have iN:=hv.one hS Xh
 refine⟨λvs w=>vs=[]/\∃e,e=(if r.e=0/\r.b.length<n then 2 else r.e)/\SL W (.pt rp [v,.int .i64 e] 327::X::F) w,?_,?_⟩
 ·refine bR (λh=>?_) (λh=>?_)
  ·refine Gp ?_
   refine zH hS Xh hv ?_
   refine bR (λh2=>?_) (λh2=>?_)
   ·refine Gn λw hS=>?_
    exact⟨2,by rw[if_pos ⟨h,by omega⟩],hS⟩
   ·refine⟨rfl,_,rfl,?_⟩
    rw[if_neg (by omega)];exact hS
  ·refine⟨rfl,_,rfl,?_⟩
   rw[if_neg (by omega)];exact hS
 ·rintro w ⟨_,e,he,hS⟩
  refine Gp ?_
  by_cases h1:r.e=0
  ·by_cases h2:r.b.length<n
   ·rw[if_pos ⟨h1,h2⟩]at he
    subst he
    refine za (λ_=>?_) (λh=>absurd (by decide) h)
    have e1:gF n r=([],{r with e:=2}):=by unfold gF;rw[if_neg (by simp[h1]),if_pos h2]
    refine⟨_,⟨v,?_,?_,rfl⟩,?_⟩
    ·rw[e1];exact dN.nil
    ·rw[e1];exact hv
    ·rw[e1];exact hS
   ·rw[if_neg (by omega),h1]at he
    subst he
    refine za (λh=>absurd rfl h) (λ_=>?_)
    have e1:gF n r=(r.b.take n,{r with b:=r.b.drop n}):=by unfold gF;rw[if_neg (by simp[h1]),if_neg h2]
    refine Gp ?_
    refine ZQ hS Xh hv (by omega) ?_
    intro u hu
    refine Gp ?_
    refine YR hS Xh hv (by omega) ?_
    intro v' mC
    have b8t:=mC.one hS Xh
    refine Gn λw hS=>?_
    refine⟨_,⟨v',?_,?_,rfl⟩,?_⟩
    ·rw[e1];exact hu
    ·rw[e1];exact mC
    ·rw[e1];simp only[h1];exact hS
  ·rw[if_neg (by omega)]at he
   subst he
   refine za (λ_=>?_) (λh=>absurd h1 h)
   have e1:gF n r=([],r):=by unfold gF;rw[if_pos h1]
   refine⟨_,⟨v,?_,?_,rfl⟩,?_⟩
   ·rw[e1];exact dN.nil
   ·rw[e1];exact hv
   ·rw[e1];exact hS
theorem RH{a b:Nat}(ha:a<18446744073709551616)(hb:b<18446744073709551616):jk .or (.int .u64 (a:Int)) (.int .u64 (b:Int))=some (.int .u64 ((a ||| b:Nat):Int)):=by
 have h:(a ||| b)<18446744073709551616:=Nat.or_lt_two_pow (n:=64) ha hb
 simp only[jk,if_true]
 congr 2
 have e1:(BitVec.ofInt IntKind.u64.bits (a:Int))=BitVec.ofNat 64 a:=BitVec.ofInt_natCast 64 a
 have e2:(BitVec.ofInt IntKind.u64.bits (b:Int))=BitVec.ofNat 64 b:=BitVec.ofInt_natCast 64 b
 rw[e1,e2]
 have e3:(BitVec.ofNat 64 a ||| BitVec.ofNat 64 b).toNat=a ||| b:=by
  rw[BitVec.toNat_or,BitVec.toNat_ofNat,BitVec.toNat_ofNat,Nat.mod_eq_of_lt (by omega),Nat.mod_eq_of_lt (by omega)]
 show IntKind.u64.wrap (((BitVec.ofNat 64 a ||| BitVec.ofNat 64 b).toNat:Nat):Int)=_
 rw[e3,wrap_u64 (by omega) (by omega)]
theorem a7e{x:Nat}{c:UInt8}{K:Value->Prop}(h:K (.int .u64 (((x*256+c.toNat) % 18446744073709551616:Nat):Int))):
  zc .shl (.int .u64 (x:Int)) (.int .u64 8) λv=>zG .u64 (cI c) λy=>zc .or v y K:=by
 have hc:=c.toNat_lt
 refine⟨.int .u64 (((x*256) % 18446744073709551616:Nat):Int),?_,?_⟩
 ·show (if (8:Int)<0 then none else some (Value.int .u64 (IntKind.u64.wrap ((x:Int)*2 ^ (min (8:Int).toNat IntKind.u64.bits)))))=_
  rw[if_neg (by omega)]
  congr 2
 ·refine zM ?_
  rw[wrap_u64 (by omega) (by omega)]
  refine⟨_,RH (by omega) (by omega),?_⟩
  have e:(x*256) % 18446744073709551616=((x*256) % 18446744073709551616 / 256) <<< 8:=by rw[Nat.shiftLeft_eq];omega
  have e2:(x*256) % 18446744073709551616 ||| c.toNat=(x*256+c.toNat) % 18446744073709551616:=by
   rw[e,<- Nat.shiftLeft_add_eq_or_of_lt (show c.toNat<2 ^ 8 by omega),Nat.shiftLeft_eq];omega
  rw[e2];exact h
theorem DK{b:List UInt8}{i:Nat}(h:i<b.length):fu (b.take (i+1))=(fu (b.take i)*256+b[i].toNat) % 18446744073709551616:=by
 rw[show b.take (i+1)=b.take i++[b[i]] by rw[List.take_add_one];simp[h]]
 exact Ub _ _ _ rfl
def Tl(X:Chunk)(rp n:Nat)(r:iJ)(u:Value)(post:List Chunk):Prop:=∃v',u= .int .u64 ((fL n r).1:Nat)/\dN X v' (fL n r).2.b/\post=[lR rp (fL n r).2 v',X]
theorem Zx(X:Chunk)(rp n:Nat)(v:Value)(r:iJ)(hv:dN X v r.b)(hn:n<=1000):SP 295 [.pointer (some ⟨rp,0,none⟩),.int .i64 n] [lR rp r v,X] (Tl X rp n r):=by
 intro W F w hS;apply bWk;delta Kj aF ai;(try simp only[app]at hS)
 refine Cc (Yq X rp n v r hv) ?_;clear hS
 rintro u post ⟨v',hu,mC,rfl⟩ w hS;(try simp only[app]at hS)
 have hl:=Rh n r
 refine zH hS Xh hu ?_
 refine⟨λvs w=>∃i:Nat,i<=(gF n r).1.length/\vs=[.int .u64 (fu ((gF n r).1.take i):Nat),.int .i64 i]/\SL W (lR rp (gF n r).2 v'::X::F) w,λvs _=>match vs with
  | [_,.int _ i]=>(gF n r).1.length-i.toNat
  | _=>0,⟨0,by omega,rfl,hS⟩,?_⟩
 rintro v1 v2 w1 ⟨i,hi,hv,hS⟩
 cases hv
 refine bR (λh=>?_) (λh=>?_)
 ·have hi:i<(gF n r).1.length:=by omega
  refine yF hS Xh hu hi ?_
  refine a7e ?_
  refine Gp ?_
  refine⟨⟨i+1,by omega,?_,hS⟩,?_⟩
  ·rw[DK hi]
  ·simp only[Int.toNat_natCast];omega
 ·have:(gF n r).1.take i=(gF n r).1:=List.take_of_length_le (by omega)
  rw[this]
  exact⟨_,⟨v',rfl,mC,rfl⟩,hS⟩
theorem w_:∀(n:Nat) (b:List UInt8),b.length=n->fu b<256 ^ n
 | 0,b,h=>by
  have:b=[]:=List.eq_nil_of_length_eq_zero h
  subst this;decide
 | n+1,b,h=>by
  have h1:=w_ n (b.take n) (by rw[List.length_take];omega)
  have h2:=DK (b:=b) (i:=n) (by omega)
  rw[List.take_of_length_le (by omega)]at h2
  have hc:=(b[n]'(by omega)).toNat_lt
  have h3:=Nat.mod_le (fu (b.take n)*256+(b[n]'(by omega)).toNat) 18446744073709551616
  rw[h2,Nat.pow_succ]
  omega
theorem Gl(n:Nat)(r:iJ):(fL n r).1<256 ^ n:=by
 have h1:=w_ _ _ (rfl:(gF n r).1.length=_)
 have h2:=(Rh n r).1
 exact Nat.lt_of_lt_of_le h1 (Nat.pow_le_pow_right (by omega) h2)
def Tj(X:Chunk)(rp m:Nat)(r:iJ)(u:Value)(post:List Chunk):Prop:=∃v',u= .int .i64 ((gf m r).1:Nat)/\dN X v' (gf m r).2.b/\post=[lR rp (gf m r).2 v',X]
theorem Yp(X:Chunk)(rp m:Nat)(v:Value)(r:iJ)(hv:dN X v r.b)(hm:m<=100000):SP 236 [.pointer (some ⟨rp,0,none⟩),.int .i64 m] [lR rp r v,X] (Tj X rp m r):=by
 intro W F w hS;apply bRe;delta JE aF dx ai;(try simp only[app]at hS)
 refine Cc (Zx X rp 2 v r hv (by omega)) ?_;clear hS
 rintro u post ⟨v',rfl,mC,rfl⟩ w hS;(try simp only[app]at hS)
 have dZ:=Gl 2 r
 refine yx (by omega) ?_
 refine bR (λh=>?_) (λh=>?_)
 ·refine Gn λw hS=>?_
  have e:gf m r=(0,{(fL 2 r).2 with e:=3}):=by unfold gf;rw[if_pos (by omega)]
  refine⟨_,⟨v',?_,?_,rfl⟩,?_⟩
  ·rw[e];rfl
  ·rw[e];exact mC
  ·rw[e];exact hS
 ·have e:gf m r=fL 2 r:=by unfold gf;rw[if_neg (by omega)]
  refine⟨_,⟨v',?_,?_,rfl⟩,?_⟩
  ·rw[e]
  ·rw[e];exact mC
  ·rw[e];exact hS
theorem Rf(m:Nat)(r:iJ):(gf m r).1<=m:=by
 unfold gf
 split
 ·exact Nat.zero_le _
 ·rename_i h;exact Nat.not_lt.1 h
theorem Sq{n:Nat}(h:n<18446744073709551616):IntKind.i64.wrap (n:Int)=sig n:=by
 rw[IntKind.wrap_i64,sig]
 split<;>omega
def Tf(X:Chunk)(rp:Nat)(r:iJ)(u:Value)(post:List Chunk):Prop:=∃v',u= .agg (ep (gI r).1).toArray/\dN X v' (gI r).2.b/\post=[lR rp (gI r).2 v',X]
theorem qD(X:Chunk)(rp:Nat)(v:Value)(r:iJ)(hv:dN X v r.b):SP 237 [.pointer (some ⟨rp,0,none⟩)] [lR rp r v,X] (Tf X rp r):=by
 intro W F w hS;apply bRf;delta JF aF bw dx ai c_;(try simp only[app]at hS)
 refine Gm λb w hS=>?_
 refine Cc (Zx X rp 1 v r hv (by omega)) ?_;clear hS
 rintro u post ⟨v1,rfl,kj,rfl⟩ w hS;(try simp only[app]at hS)
 have dZ:=Gl 1 r
 refine yx (by omega) ?_
 refine bR (λh=>?_) (λh=>?_)
 ·refine Cc (Zx X rp 8 v1 (fL 1 r).2 kj (by omega)) ?_;clear hS
  rintro u post ⟨v2,rfl,jL,rfl⟩ w hS;(try simp only[app]at hS)
  have b8p:=Gl 8 (fL 1 r).2
  refine zM ?_
  rw[Sq (by omega),h]
  have e:gI r=(⟨1,sig (fL 8 (fL 1 r).2).1,⟨#[]⟩⟩,(fL 8 (fL 1 r).2).2):=by
   unfold gI;rw[if_pos (by omega)]
  refine Gn λw hS=>?_
  refine⟨[lR rp (gI r).2 v2,X],⟨v2,?_,?_,rfl⟩,?_⟩
  ·rw[e];rfl
  ·rw[e];exact jL
  ·rw[e];exact aR hS
 ·refine bR (λh2=>?_) (λh2=>?_)
  ·refine Cc (Yp X rp 4096 v1 (fL 1 r).2 kj (by omega)) ?_;clear hS
   rintro u post ⟨v2,rfl,jL,rfl⟩ w hS;(try simp only[app]at hS)
   refine Cc (Yq X rp (gf 4096 (fL 1 r).2).1 v2 (gf 4096 (fL 1 r).2).2 jL) ?_;clear hS
   rintro u post ⟨v3,hu,FL,rfl⟩ w hS;(try simp only[app]at hS)
   obtain⟨au,cu,eu,_⟩:=hu.sl hS Xh
   refine Zg ⟨_,_,_,eu⟩ (hu.src hS Xh) Tryz.underlying62 Tryz.underlying9 Tryz.underlying5 ?_
   rw[h2]
   have e:gI r=(⟨2,0,eM (gF (gf 4096 (fL 1 r).2).1 (gf 4096 (fL 1 r).2).2).1⟩,(gF (gf 4096 (fL 1 r).2).1 (gf 4096 (fL 1 r).2).2).2):=by
    unfold gI eM;rw[if_neg (by omega),if_pos (by omega)]
   refine Gn λw hS=>?_
   refine⟨[lR rp (gI r).2 v3,X],⟨v3,?_,?_,rfl⟩,?_⟩
   ·rw[e];rfl
   ·rw[e];exact FL
   ·rw[e];exact aR hS
  ·refine Gp ?_
   have e:gI r=(pS,if (fL 1 r).2.e=0 then {(fL 1 r).2 with e:=3} else (fL 1 r).2):=by
    unfold gI;rw[if_neg (by omega),if_neg (by omega)]
   refine za (λh3=>?_) (λh3=>?_)
   ·rw[if_pos h3]at e
    refine Gn λw hS=>?_
    refine⟨[lR rp (gI r).2 v1,X],⟨v1,?_,?_,rfl⟩,?_⟩
    ·rw[e];rfl
    ·rw[e];exact kj
    ·rw[e];exact aR hS
   ·rw[if_neg h3]at e
    refine Gn λw hS=>?_
    refine⟨[lR rp (gI r).2 v1,X],⟨v1,?_,?_,rfl⟩,?_⟩
    ·rw[e];rfl
    ·rw[e];exact kj
    ·rw[e];exact aR hS
theorem mu(x:dH):(ep x).length=3:=rfl
theorem Ni:∀(i:Nat) (r:iJ),(gJ i r).1.length<=i
 | 0,r=>Nat.le_refl _
 | i+1,r=>by
  unfold gJ
  split
  ·have:=Ni i (gI r).2
   simp only[List.length_cons];omega
  ·exact Nat.zero_le _
def pP(r:iJ):Int:=if r.e=0 then if 0<r.b.length then 3 else 0 else r.e
theorem xc(b:List UInt8):h_ b=if pP (gJ (gf 32767 ⟨b,0⟩).1 (gf 32767 ⟨b,0⟩).2).2=0 then .ok (gJ (gf 32767 ⟨b,0⟩).1 (gf 32767 ⟨b,0⟩).2).1 else .error (pP (gJ (gf 32767 ⟨b,0⟩).1 (gf 32767 ⟨b,0⟩).2).2):=rfl
def nk(X:Chunk)(b:List UInt8)(u:Value)(post:List Chunk):Prop:=match h_ b with
 | .error e=>u= .tuple #[.slice none 0 0,.int .i64 e]/\post=[X]
 | .ok l=>∃v,u= .tuple #[v,.int .i64 0]/\post=[.ob (a7 v 174 3 l.length (l.map ep).flatten),X]
theorem Bs(x:dH):∀v∈ep x,v.oneCell'=true:=λv hv=>by
 simp only[ep,List.mem_cons,List.not_mem_nil,or_false]at hv
 rcases hv with rfl|rfl|rfl<;>rfl
theorem yT(X:Chunk)(v:Value)(b:List UInt8)(hv:dN X v b):SP 157 [v] [X] (nk X b):=by
 intro W F w hS;apply bFn;delta IA aF bw dx cF df ai c_ bF;(try simp only[app]at hS)
 obtain⟨a0,c0,rfl,_⟩:=hv.sl hS .hd
 refine yr rfl ?_
 refine⟨_,rfl,zI hS ?_⟩
 clear hS;intro rp w hS
 generalize hm:gf 32767 ⟨b,0⟩=m
 refine⟨λvs w=>∃u v',vs=[u]/\dN X v' (gJ m.1 m.2).2.b/\SL W (.ob (a7 u 174 3 (gJ m.1 m.2).1.length ((gJ m.1 m.2).1.map ep).flatten)::lR rp (gJ m.1 m.2).2 v'::X::F) w,?_,?_⟩
 ·have hS:SL W (lR rp ⟨b,0⟩ (.slice a0 b.length c0)::X::F) w:=hS
  refine Cc (Yp X rp 32767 _ ⟨b,0⟩ hv (by omega)) ?_;clear hS
  rintro u post ⟨v1,rfl,kj,rfl⟩ w hS;(try simp only[app]at hS)
  rw[hm]at hS kj ⊢
  have hle:m.1<=32767:=by rw[<- hm];exact Rf _ _
  have hS:=a7.nil (t:=174) (sz:=3) hS
  refine⟨λvs w=>∃(u v':Value) (xs:List dH) (i:Nat) (r:iJ),vs=[u,.int .i64 i]/\xs.length+i=m.1/\gJ m.1 m.2=(xs++(gJ i r).1,(gJ i r).2)/\dN X v' r.b/\SL W (.ob (a7 u 174 3 xs.length (xs.map ep).flatten)::lR rp r v'::X::F) w,λvs _=>match vs with
   | [_,.int _ i]=>i.toNat
   | _=>0,⟨_,v1,[],m.1,m.2,rfl,by simp,by simp,kj,hS⟩,?_⟩
  rintro u1 u2 w1 ⟨u,v',xs,i,r,hv,hx,hf,hr,hS⟩
  cases hv
  refine bR (λh=>?_) (λh=>?_)
  ·refine Gp ?_
   obtain⟨j,rfl⟩:∃j,i=j+1:=⟨i-1,by omega⟩
   refine za (λh2=>?_) (λh2=>?_)
   ·refine Cc (qD X rp v' r hr) ?_;clear hS
    rintro u5 post ⟨v2,rfl,jL,rfl⟩ w hS;(try simp only[app]at hS)
    refine zy (cells:=ep (gI r).1) hS rfl ?_
    clear hS;intro p w hS
    refine zx (m:=1) (cs:=ep (gI r).1) hS Xr (iP hS .hd rfl) rfl rfl (Bs _) (by omega) (by omega) ?_
    clear hS;intro u' w hS
    refine Gp ?_
    have e:((j+1:Nat):Int)-1=(j:Int):=by omega
    rw[e]
    refine⟨⟨u',v2,xs++[(gI r).1],j,(gI r).2,rfl,by simp;omega,?_,jL,?_⟩,?_⟩
    ·rw[hf]
     have:gJ (j+1) r=((gI r).1::(gJ j (gI r).2).1,(gJ j (gI r).2).2):=by
      show (if r.e=0 then _ else _)=_
      rw[if_pos h2]
     rw[this];simp
    ·simp only[List.length_append,List.length_cons,List.length_nil,List.map_append,List.map_cons,List.map_nil,List.flatten_append,List.flatten_cons,List.flatten_nil,List.append_nil]
     exact aR hS
    ·simp only[Int.toNat_natCast];omega
   ·have:gJ (j+1) r=([],r):=by
     show (if r.e=0 then _ else _)=_
     rw[if_neg h2]
    rw[this,List.append_nil]at hf
    refine⟨u1,v',rfl,?_,?_⟩
    ·rw[hf];exact hr
    ·rw[hf];exact hS
  ·obtain rfl:i=0:=by omega
   have:gJ 0 r=([],r):=rfl
   rw[this,List.append_nil]at hf
   refine⟨u1,v',rfl,?_,?_⟩
   ·rw[hf];exact hr
   ·rw[hf];exact hS
 ·rintro u5 w ⟨u,v',hu,mC,hS⟩
  obtain rfl:u5=u:=(List.cons.inj hu).1
  have hd:=xc b
  rw[hm]at hd
  generalize (gJ m.1 m.2).2=r at *
  generalize (gJ m.1 m.2).1=xs at *
  refine⟨λvs w=>vs=[]/\SL W (.ob (a7 u5 174 3 xs.length (xs.map ep).flatten)::.pt rp [v',.int .i64 (pP r)] 327::X::F) w,?_,?_⟩
  ·refine bR (λh=>?_) (λh=>?_)
   ·refine Gp ?_
    refine zH hS Xh mC ?_
    refine bR (λh2=>?_) (λh2=>?_)
    ·refine Gn λw hS=>?_
     have e:pP r=3:=by unfold pP;rw[if_pos h,if_pos (by omega)]
     rw[e];exact hS
    ·have e:pP r=r.e:=by unfold pP;rw[if_pos h,if_neg (by omega),h]
     rw[e];exact⟨rfl,hS⟩
   ·have e:pP r=r.e:=by unfold pP;rw[if_neg h]
    rw[e];exact⟨rfl,hS⟩
  ·rintro w ⟨_,hS⟩
   refine bR (λh=>?_) (λh=>?_)
   ·refine Gn λw hS=>?_
    rw[if_neg h]at hd
    refine⟨[X],?_,aR hS⟩
    unfold nk;rw[hd];exact⟨rfl,rfl⟩
   ·have h:pP r=0:=by omega
    rw[if_pos h]at hd
    refine⟨[.ob (a7 u5 174 3 xs.length (xs.map ep).flatten),X],?_,aR hS⟩
    unfold nk;rw[hd];exact⟨u5,rfl,rfl⟩
theorem Sh{a:Int}{n:Nat}{k:IntKind}(hn:n<=64){K:Value->Prop}(h:K (.int .u64 (a.fdiv (2 ^ n)))):zc .shr (.int .u64 a) (.int k (n:Int)) K:=by
 refine⟨.int .u64 (a.fdiv (2 ^ n)),?_,h⟩
 have h1:¬((n:Int)<0):=by omega
 simp only[jk,h1,if_false]
 rw[show min (n:Int).toNat IntKind.u64.bits=n by simp only[IntKind.bits];omega]
theorem Zw(b:List UInt8)(v:Value)(x:Int)(n:Nat)(hn:n<=8)(hb:b.length<=140737488355000):SP 284 [v,.int .u64 x,.int .i64 n] [.ob (a7 v 5 1 b.length (b.map cI))] (λu post=>post=[.ob (a7 u 5 1 (b++dS x n).length ((b++dS x n).map cI))]):=by
 intro W F w hS;apply bWc;delta Kb aF ai;(try simp only[app]at hS)
 refine Gp ?_
 refine⟨λvs w=>∃(u:Value) (c:List UInt8) (k:Nat),vs=[u,.int .i64 ((k:Int)-1)]/\k<=n/\c++dS x k=b++dS x n/\SL W (.ob (a7 u 5 1 c.length (c.map cI))::F) w,λvs _=>match vs with
  | [_,.int _ i]=>(i+1).toNat
  | _=>0,⟨v,b,n,rfl,Nat.le_refl _,rfl,hS⟩,?_⟩
 rintro u1 u2 w1 ⟨u,c,k,hv,hk,hc,hS⟩
 cases hv
 refine bR (λh=>?_) (λh=>?_)
 ·obtain⟨j,rfl⟩:∃j,k=j+1:=⟨k-1,by omega⟩
  have e0:((j+1:Nat):Int)-1=(j:Int):=by omega
  rw[e0]
  refine GV (by omega) ?_
  have e1:(8:Int)*(j:Int)=((8*j:Nat):Int):=by omega
  rw[e1]
  refine Sh (by omega) ?_
  refine zM ?_
  rw[wrap_u8]
  refine zy (cells:=[cI (fy (x.fdiv (2 ^ (8*j))))]) hS rfl ?_
  clear hS;intro p w hS
  have gj:c.length+(j+1)=b.length+n:=by
   have:=congrArg List.length hc
   simpa [i_] using this
  refine zx (m:=1) (cs:=[cI (fy (x.fdiv (2 ^ (8*j))))]) hS Xr (iP hS .hd rfl) rfl rfl (by intro v hv;simp only[List.mem_singleton]at hv;subst hv;rfl) (by omega) (by omega) ?_
  clear hS;intro u' w hS
  refine Gp ?_
  refine⟨⟨u',c++[fy (x.fdiv (2 ^ (8*j)))],j,rfl,by omega,?_,?_⟩,?_⟩
  ·rw[<- hc];simp[dS]
  ·simp only[List.length_append,List.length_cons,List.length_nil,List.map_append,List.map_cons,List.map_nil]
   exact aR hS
  ·show ((j:Int)-1+1).toNat<((j:Int)+1).toNat
   omega
 ·obtain rfl:k=0:=by omega
  have e:c=b++dS x n:=by simpa [dS] using hc
  rw[e]at hS
  exact⟨_,rfl,hS⟩
theorem qh(x:dH):SP 285 [.agg (ep x).toArray] [] (dj (.bool (jM x)) []):=by
 intro W F w hS;apply bWd;delta Kc aF a_ b7 ai;(try simp only[app]at hS)
 refine⟨ep x,rfl,?_⟩
 unfold ep
 refine Gm λb w hS=>?_
 unfold jM
 refine za (λh=>?_) (λh=>?_)
 ·rw[if_pos h]
  refine Gp ?_
  have e:decide (x.s=({data:=#[]}:ByteArray))=decide (x.s=⟨#[]⟩):=rfl
  exact dq hS
 ·rw[if_neg h]
  refine bR (λh2=>?_) (λh2=>?_)
  ·rw[if_pos h2]
   refine bR (λh3=>?_) (λh3=>?_)
   ·refine Gp ?_
    rw[decide_eq_true h3,Bool.true_and]
    have e:decide ((x.s.size:Int)<=4096)=decide (x.s.size<=4096):=by congr 1;exact propext ⟨λ_=>by omega,λ_=>by omega⟩
    rw[e]
    exact dq hS
   ·rw[decide_eq_false h3,Bool.false_and]
    exact dq hS
  ·rw[if_neg h2]
   exact dq hS
theorem qq{P:Program}{t:TypeId}{fs:Array Field}{f:Field}{i:Nat}{vs:List Value}{v:Value}{w:World}{K:Value->Prop}(ht:P.underlying t=some (.struct fs))(hf:fs[i]?=some f)(ha:∀w,(isAgg f.type).run P w= .ok false w)(hv:vs[f.offset]?=some v)(h:K v):
  ga P (Instr.field t (.agg vs.toArray) i) w K:=by
 refine⟨_,?_,h⟩
 simp[Instr.field,asAgg,run_underlying ht,Result.andThen,hf,part,ha,hv]
theorem MY(x:dH):∀v∈ep x,v.oneCell'=true:=Bs x
theorem rK(x:dH):(ep x).length=3:=rfl
theorem Zu(b:Nat)(ns:List Int)(t:TypeId)(hn:ns.length<=1000):
  SP 225 [.slice (some ⟨b,0,none⟩) ns.length ns.length] [.pt b (ns.map (Value.int .i64)) t] (λu post=>post=[.ob (a7 u 174 3 ns.length ((ns.map iF).map ep).flatten)]):=by
 intro W F w hS;apply bI5;delta Ju aF ai c_ bF;(try simp only[app]at hS)
 have hS:=a7.nil (t:=174) (sz:=3) hS
 refine Gp ?_
 refine⟨λvs w=>∃(i:Nat) (u:Value),vs=[u,.int .i64 i]/\i<=ns.length/\SL W (.ob (a7 u 174 3 i (((ns.take i).map iF).map ep).flatten)::.pt b (ns.map (Value.int .i64)) t::F) w,
  λvs _=>match vs with|[_,.int _ i]=>(ns.length-i).toNat|_=>0,⟨0,_,rfl,by omega,hS⟩,?_⟩
 clear hS
 rintro u v8 w ⟨i,_,eY,hi,hS⟩
 cases eY
 refine bR (λh=>?_) (λh=>?_)
 ·have bW:i<ns.length:=by omega
  refine zB bW (zX hS Xh (v:=.int .i64 ns[i]) (by simp[bW]) ?_)
  refine Gm λb w hS=>?_
  refine yu (n:=i) (xs:=(ns.take i).map iF) (y:=iF ns[i]) (enc:=ep) hS Xr Xh rK MY rfl (by omega) (by omega) λv2 w hS=>?_
  refine Gp ?_
  refine⟨⟨i+1,_,rfl,by omega,?_⟩,by dsimp only;omega⟩
  rw[List.take_succ_eq_append_getElem bW,List.map_append (f:=iF),List.map_singleton]
  exact aR hS
 ·have:i=ns.length:=by omega
  subst this
  rw[List.take_length]at hS
  exact⟨_,rfl,aR hS⟩
theorem Z4(s:ByteArray):SP 227 [.string s] [] (dj (agg (ep (tF s))) []):=by
 intro W F w hS;apply bI7;delta Jw ai c_;(try simp only[app]at hS)
 refine Gm λb w hS=>?_
 (exact dq hS)
theorem QZ(b:Bool):SP 226 [.bool b] [] (dj (.int .i64 (nt b)) []):=by
 intro W F w hS;apply bI6;delta Jv ai;(try simp only[app]at hS)
 cases b<;>(repeat (first|refine Gp ?_|refine Gw λw hS=>?_|refine Gb λb w hS=>?_))<;>(exact dq hS)
def fT(rp:Nat)(r:cw):zC:=jQ λv:Value=>zP True [.pt rp [v,.bool r.bad] 330,.ob (dC v 174 3 r.l.length (r.l.map ep).flatten)]
theorem fT.iff{W w:World}{rp:Nat}{r:cw}{l:List Chunk}:SL W (.ob (fT rp r)::l) w↔∃v,SL W (.pt rp [v,.bool r.bad] 330::.ob (dC v 174 3 r.l.length (r.l.map ep).flatten)::l) w:=by
 unfold fT
 simp only[SL.ex,SL.fact,List.cons_append,List.nil_append,true_and]
theorem Z3(v:Value)(l:List dH):SP 158 [v] [.ob (a7 v 174 3 l.length (l.map ep).flatten)] (λu post=>∃rp:Nat,u= .pointer (some ⟨rp,0,none⟩)/\post=[.ob (fT rp ⟨l,false⟩)]):=by
 intro W F w hS;apply bFo;delta IB bF;(try simp only[app]at hS)
 have h1:=a7.one hS
 obtain⟨a,c,rfl,_⟩:=a7.at hS .hd
 refine Gp ?_
 refine zK hS λb w hS=>?_
 refine⟨_,⟨b,rfl,rfl⟩,(fT.iff (r:=⟨l,false⟩)).2 ⟨.slice a l.length c,?_⟩⟩
 exact (dC.of (hS.perm (.swap _ _ _))).perm (.swap _ _ _)
theorem Z2(rp:Nat)(r:cw)(k:Int):SP 238 [.pointer (some ⟨rp,0,none⟩),.int .i64 k] [.ob (fT rp r)] (dj (agg (ep (ld k r).1)) [.ob (fT rp (ld k r).2)]):=by
 obtain⟨l,bad⟩:=r
 intro W F w hS;apply bRg;delta JG aF bw a_ dx ai c_;(try simp only[app]at hS)
 obtain⟨v,hS⟩:=fT.iff.1 hS
 simp only at hS
 refine Gm λb w hS=>?_
 cases bad with
 | true=>
  refine Gn λw hS=>?_
  have e:ld k ⟨l,true⟩=(pS,⟨l,true⟩):=by unfold ld;rfl
  rw[e]
  exact⟨_,⟨rfl,rfl⟩,fT.iff.2 ⟨v,aR hS⟩⟩
 | false=>
  refine Gp ?_
  refine zT hS (v:=v) Xh ?_
  refine Gp ?_
  cases l with
  | nil=>
   refine za (λh=>?_) (λh=>absurd rfl h)
   refine Gn λw hS=>?_
   rw[show ld k ⟨[],false⟩=(pS,⟨[],true⟩) from rfl]
   exact⟨_,⟨rfl,rfl⟩,fT.iff.2 ⟨v,aR hS⟩⟩
  | cons f l=>
   refine za (λh=>by rw[List.length_cons]at h;omega) (λh=>?_)
   refine Gp ?_
   refine yC (j:=0) (k:=.i64) hS (v:=v) Xh (by simp) λab ao hb=>zQ ⟨_,.int .i64 f.kind,rfl,hb 0 _ (by decide) rfl,?_⟩
   refine bR (λhk=>?_) (λhk=>?_)
   ·refine Gn λw hS=>?_
    have e:ld k ⟨f::l,false⟩=(pS,⟨f::l,true⟩):=by unfold ld;exact if_neg hk
    rw[e]
    exact⟨_,⟨rfl,rfl⟩,fT.iff.2 ⟨v,aR hS⟩⟩
   ·refine Gp ?_
    refine aWt (j:=0) (k:=.i64) hS (v:=v) (enc:=ep) (xs:=f::l) Xh rK rfl (by simp) ?_
    refine Gm λb w hS=>?_
    refine Qi (k:=1) (v:=v) (Has.front hS Xr) (by simp) λu hS=>?_
    have hS:SL W (.ob (dC u 174 3 l.length (l.map ep).flatten)::_) _:=hS
    have h1:=dC.one hS .hd
    refine Gn λw hS=>?_
    have e:ld k ⟨f::l,false⟩=(f,⟨l,false⟩):=by unfold ld;exact if_pos (Classical.not_not.1 hk)
    rw[e]
    exact⟨_,⟨rfl,rfl⟩,fT.iff.2 ⟨u,aR hS⟩⟩
theorem yD(rp:Nat)(r:cw):SP 159 [.pointer (some ⟨rp,0,none⟩)] [.ob (fT rp r)] (dj (.int .i64 (fR r).1) [.ob (fT rp (fR r).2)]):=by
 intro W F w hS;apply bFp;delta IC ai;(try simp only[app]at hS)
 refine Cg (Z2 rp r 1) λw hS=>?_
 exact qq Tryz.underlying174 rfl (λw=>by kernel_rfl) rfl ⟨_,⟨rfl,rfl⟩,hS⟩
theorem yV(rp:Nat)(r:cw):SP 162 [.pointer (some ⟨rp,0,none⟩)] [.ob (fT rp r)] (dj (.string (eQ r).1) [.ob (fT rp (eQ r).2)]):=by
 intro W F w hS;apply bFt;delta IG ai;(try simp only[app]at hS)
 refine Cg (Z2 rp r 2) λw hS=>?_
 exact qq Tryz.underlying174 rfl (λw=>by kernel_rfl) rfl ⟨_,⟨rfl,rfl⟩,hS⟩
theorem fT.bad{W w:World}{rp:Nat}{r:cw}{l:List Chunk}(v:Value)(h:SL W (.pt rp [v,.bool true] 330::.ob (dC v 174 3 r.l.length (r.l.map ep).flatten)::l) w):SL W (.ob (fT rp {r with bad:=true})::l) w:=fT.iff.2 ⟨v,h⟩
theorem zV(rp:Nat)(r:cw)(m:Int):SP 160 [.pointer (some ⟨rp,0,none⟩),.int .i64 m] [.ob (fT rp r)] (dj (.int .i64 (ed m r).1) [.ob (fT rp (ed m r).2)]):=by
 intro W F w hS;apply bFr;delta IE aF dx ai;(try simp only[app]at hS)
 refine Cg (yD rp r) λw hS=>?_
 have hB:((fR r).1<0\/m<(fR r).1)->ed m r=(0,{(fR r).2 with bad:=true}):=λh=>if_pos h
 have hG:¬((fR r).1<0\/m<(fR r).1)->ed m r=fR r:=λh=>if_neg h
 refine za (λh=>?_) (λh=>?_)
 ·rw[hB (.inl h)]
  obtain⟨v,hS⟩:=fT.iff.1 hS
  refine Gn λw hS=>?_
  exact⟨_,⟨rfl,rfl⟩,fT.bad v hS⟩
 ·refine bR (λh2=>?_) (λh2=>?_)
  ·rw[hB (.inr h2)]
   obtain⟨v,hS⟩:=fT.iff.1 hS
   refine Gn λw hS=>?_
   exact⟨_,⟨rfl,rfl⟩,fT.bad v hS⟩
  ·rw[hG (by omega)]
   (exact dq hS)
theorem qN(rp:Nat)(r:cw):SP 239 [.pointer (some ⟨rp,0,none⟩)] [.ob (fT rp r)] (dj (.bool (mL r).1) [.ob (fT rp (mL r).2)]):=by
 intro W F w hS;apply bRh;delta JH ai;(try simp only[app]at hS)
 refine Cg (zV rp r 1) λw hS=>?_
 exact⟨_,⟨rfl,rfl⟩,hS⟩
theorem qM(rp:Nat)(r:cw):SP 326 [.pointer (some ⟨rp,0,none⟩)] [.ob (fT rp r)] (dj (.bool (!r.bad)) [.ob (fT rp r)]):=by
 intro W F w hS;apply bW5;delta KB bw;(try simp only[app]at hS)
 obtain⟨v,hS⟩:=fT.iff.1 hS
 refine Gp ?_
 exact⟨_,⟨rfl,rfl⟩,fT.iff.2 ⟨v,hS⟩⟩
theorem Z1(rp:Nat)(r:cw):SP 163 [.pointer (some ⟨rp,0,none⟩)] [.ob (fT rp r)] (dj (.bool (decide (r.bad=false/\r.l=[]))) [.ob (fT rp r)]):=by
 intro W F w hS;apply bFu;delta IH bw dc b7 ai;(try simp only[app]at hS)
 obtain⟨v,hS⟩:=fT.iff.1 hS
 refine Gp ?_
 obtain⟨l,bad⟩:=r
 cases bad with
 | true=>
  refine zq ?_
  rw[decide_eq_false (by simp)]
  exact⟨_,⟨rfl,rfl⟩,fT.iff.2 ⟨v,hS⟩⟩
 | false=>
  refine zw ?_
  refine Gp ?_
  refine zT hS (v:=v) Xh ?_
  refine Gp ?_
  have e:decide ((l.length:Int)=0)=decide ((cw.mk l false).bad=false/\(cw.mk l false).l=[]):=by
   rw[decide_eq_decide]
   simp
  rw[e]
  exact⟨_,⟨rfl,rfl⟩,fT.iff.2 ⟨v,hS⟩⟩
def Pr(n:Int):Prop:=-9223372036854775808<=n/\n<=9223372036854775807
structure dW where
 table:Int
 key:Int
 gone:Bool
 val:ByteArray
deriving DecidableEq
structure cW where
 aI:Int
 kind:Int
 changes:List dW
 signals:List ByteArray
 mark:Int
def gi(c:dW):List Value:=[.int .i64 c.table,.int .i64 c.key,.bool c.gone,.string c.val]
theorem kh(c:dW):(gi c).length=4:=rfl
theorem MX(c:dW):∀v∈gi c,v.oneCell'=true:=by simp[gi,Value.oneCell']
structure jq where
 aI:Int
 kind:Int
 cv:Value
 sv:Value
 mark:Int
def eI(x:jq):List Value:=[.int .i64 x.aI,.int .i64 x.kind,x.cv,x.sv,.int .i64 x.mark]
structure gO(H:aW)(x:jq)(t:cW):Prop where
 aI:x.aI=t.aI
 kind:x.kind=t.kind
 mark:x.mark=t.mark
 cv:dy H 4 x.cv t.changes.length (t.changes.map gi).flatten
 sv:dy H 1 x.sv t.signals.length (t.signals.map Value.string)
theorem gO.mono{H H':aW}(hh:H.le H'){x:jq}{t:cW}(h:gO H x t):gO H' x t:=⟨h.aI,h.kind,h.mark,h.cv.mono hh,h.sv.mono hh⟩
def wW(H:aW)(v:Value)(l:List cW):Prop:=∃xs:List jq,xs.length=l.length/\dy H 5 v l.length (xs.map eI).flatten/\∀i (h:i<l.length) (h':i<xs.length),gO H xs[i] l[i]
theorem wW.mono{H H':aW}(hh:H.le H'){v:Value}{l:List cW}(h:wW H v l):wW H' v l:=by
 obtain⟨xs,h1,h2,h3⟩:=h
 exact⟨xs,h1,h2.mono hh,λi hi lJ=>(h3 i hi lJ).mono hh⟩
def fZ(C:List Row):Prop:=C.Pairwise (λa b=>a.key<b.key)
def fe(C:List Row)(k:Int):Option ByteArray:=(C.find? (λc=>decide (c.key=k))).map (·.val)
def f':List Row->Row->List Row
 | [],c=>[c]
 | x::C,c=>if x.key<c.key then x::f' C c else if x.key=c.key then c::C else c::x::C
def iK:List Row->Int->List Row
 | [],_=>[]
 | x::C,k=>if x.key=k then C else x::iK C k
def j1(C:List Row)(c:dW):List Row:=if c.gone then iK C c.key else f' C ⟨c.key,c.val⟩
def oP(t:Int)(C:List Row)(c:dW):List Row:=if c.table=t then (if c.gone then iK C c.key else f' C ⟨c.key,c.val⟩) else C
def gY(t:Int)(l:List cW):List Row:=(l.flatMap (·.changes)).foldl (oP t) []
theorem Rb{C:List Row}{c x:Row}(h:x∈f' C c):x=c\/x∈C:=by
 induction C with
 | nil=>simpa [f'] using h
 | cons y C ih=>
  unfold f' at h
  split at h
  ·rcases List.mem_cons.1 h with rfl|h
   ·exact .inr (.head _)
   ·rcases ih h with h|h
    ·exact .inl h
    ·exact .inr (.tail _ h)
  ·split at h
   ·rcases List.mem_cons.1 h with rfl|h
    ·exact .inl rfl
    ·exact .inr (.tail _ h)
   ·rcases List.mem_cons.1 h with rfl|h
    ·exact .inl rfl
    ·exact .inr h
theorem G0{C:List Row}(h:fZ C)(c:Row):fZ (f' C c):=by
 unfold fZ at *
 induction C with
 | nil=>simp[f']
 | cons y C ih=>
  rw[List.pairwise_cons]at h
  unfold f'
  split
  ·rename_i dZ
   refine List.pairwise_cons.2 ⟨λz hz=>?_,ih h.2⟩
   rcases Rb hz with rfl|hz
   ·exact dZ
   ·exact h.1 z hz
  ·split
   ·rename_i he
    exact List.pairwise_cons.2 ⟨λz hz=>by have:=h.1 z hz;omega,h.2⟩
   ·rename_i h1 h2
    refine List.pairwise_cons.2 ⟨λz hz=>?_,List.pairwise_cons.2 h⟩
    rcases List.mem_cons.1 hz with rfl|hz
    ·omega
    ·have:=h.1 z hz;omega
theorem Ra{C:List Row}{k:Int}{x:Row}(h:x∈iK C k):x∈C:=by
 induction C with
 | nil=>exact h
 | cons y C ih=>
  unfold iK at h
  split at h
  ·exact .tail _ h
  ·rcases List.mem_cons.1 h with rfl|h
   ·exact .head _
   ·exact .tail _ (ih h)
theorem Sx{C:List Row}(h:fZ C)(k:Int):fZ (iK C k):=by
 unfold fZ at *
 induction C with
 | nil=>exact h
 | cons y C ih=>
  rw[List.pairwise_cons]at h
  unfold iK
  split
  ·exact h.2
  ·exact List.pairwise_cons.2 ⟨λz hz=>h.1 z (Ra hz),ih h.2⟩
theorem NA(C:List Row)(c:Row)(k:Int):fe (f' C c) k=if c.key=k then some c.val else fe C k:=by
 unfold fe
 induction C with
 | nil=>by_cases h:c.key=k<;>simp[f',h]
 | cons y C ih=>
  unfold f'
  split
  ·by_cases h1:y.key=k
   ·have:c.key≠k:=by omega
    simp[h1,this]
   ·simp only[List.find?_cons,h1,decide_false];exact ih
  ·split
   ·rename_i he
    by_cases h1:c.key=k
    ·simp[h1]
    ·have:y.key≠k:=by omega
     simp[h1,this]
   ·by_cases h1:c.key=k<;>simp[h1]
theorem Ny{C:List Row}(hs:fZ C)(k0 k:Int):fe (iK C k0) k=if k0=k then none else fe C k:=by
 unfold fe fZ at *
 induction C with
 | nil=>simp[iK]
 | cons y C ih=>
  rw[List.pairwise_cons]at hs
  unfold iK
  split
  ·rename_i he
   by_cases h1:k0=k
   ·subst h1
    have:C.find? (λc=>decide (c.key=k0))=none:=by
     rw[List.find?_eq_none];intro z hz;have:=hs.1 z hz;simp;omega
    simp[this]
   ·have:¬y.key=k:=by omega
    simp[h1,this]
  ·rename_i he
   have FU:=ih hs.2
   by_cases h1:y.key=k
   ·have:¬k0=k:=by omega
    simp[h1,this]
   ·simp only[List.find?_cons,h1,decide_false];exact FU
theorem F1(C:List Row)(c:Row):(f' C c).length<=C.length+1:=by
 induction C with
 | nil=>simp[f']
 | cons y C ih=>
  unfold f'
  split
  ·simp;omega
  ·split<;>simp
theorem PN(C:List Row)(k:Int):(iK C k).length<=C.length:=by
 induction C with
 | nil=>exact Nat.le_refl _
 | cons y C ih=>unfold iK;split<;>simp;omega
theorem aih(t:Int)(C:List Row)(c:dW):(oP t C c).length<=C.length+1:=by
 unfold oP
 have:=F1 C ⟨c.key,c.val⟩
 have:=PN C c.key
 split
 ·split<;>omega
 ·omega
theorem aii{l:List dW}:∀(C:List Row) (t:Int),(l.foldl (oP t) C).length<=C.length+l.length:=by
 induction l with
 | nil=>intro C t;simp
 | cons c l ih=>intro C t;have:=ih (oP t C c) t;have:=aih t C c;simp only[List.foldl_cons,List.length_cons];omega
def Wo(k:Int)(Gf:Nat):Nat:=(min (max k 0) (Gf:Int)).toNat
set_option maxRecDepth 100000
open Go.RowKit
def ib(c:dW)(k:Int):Bool:=decide (0<=c.table/\c.table<k/\1<=c.key/\c.key<=1099511627776/\c.val.size<=32/\(c.gone=true->c.val=emp))
theorem qj(c:dW)(k:Int):SP 181 [agg (gi c),.int .i64 k] [] (dj (.bool (ib c k)) []):=by
 intro W F w hS;apply bF8;delta IZ aF a_ b7 ai;(try simp only[app]at hS)
 refine zK hS λb w hS=>?_
 unfold gi at hS
 have hF:∀{w:World},¬(0<=c.table/\c.table<k/\1<=c.key/\c.key<=1099511627776/\c.val.size<=32)->SL W (.pt b [.int .i64 c.table,.int .i64 c.key,.bool c.gone,.string c.val] 82::F) w ->
   ∃post,dj (.bool (ib c k)) [] (.bool false) post/\SL W (app post F) w:=λh hS=>⟨_,⟨by rw[show ib c k=false by unfold ib;rw[decide_eq_false_iff_not];exact λk=>h ⟨k.1,k.2.1,k.2.2.1,k.2.2.2.1,k.2.2.2.2.1⟩],rfl⟩,aR hS⟩
 (repeat (first|refine Gp ?_|refine Gw λw hS=>?_|refine za (λ_=>hF (by omega) hS) (λ_=>?_)|refine za (λ_=>?_) (λ_=>hF (by omega) hS)))
 have e:ib c k=decide (c.gone=true->c.val=emp):=by
  unfold ib
  rw[decide_eq_decide]
  exact⟨λh=>h.2.2.2.2.2,λh=>⟨by omega,by omega,by omega,by omega,by omega,h⟩⟩
 rw[e]
 refine y0 (λh=>?_) (λh=>?_)
 ·refine Gp ?_
  rw[h]
  have e2:decide (true=true->c.val=emp) = !decide (c.val≠{data:=#[]}):=by
   rw[Bool.eq_iff_iff];simp[emp]
  rw[e2]
  (exact dq hS)
 ·refine Gp ?_
  rw[h,decide_eq_true (by simp)]
  (exact dq hS)
def uO(x:dH):Prop:=(x.kind=1/\0<=x.n/\x.n<1152921504606846976/\x.s=emp)\/(x.kind=2/\x.n=0/\x.s.size<=4096)
theorem uO.right{x:dH}(h:uO x):jM x=true:=by
 unfold jM
 rcases h with ⟨h1,_,_,h2⟩|⟨h1,h2,h3⟩
 ·rw[if_pos h1,h2];rfl
 ·rw[if_neg (by omega),if_pos h1,decide_eq_true h2,decide_eq_true h3];rfl
theorem Rp{n:Nat}(h:n<65536):fu (dS n 2)=n:=by
 have f:∀k,((n:Int).fdiv (2 ^ (8*k)))=((n / 2 ^ (8*k):Nat):Int):=λk=>by
  have:=oY n (2 ^ (8*k)) (Nat.two_pow_pos _)
  rw[<- this];push_cast;rfl
 unfold dS dS dS
 simp only[f,fu,List.foldl_cons,List.foldl_nil,ta,show (2:Nat) ^ (8*1)=256 from rfl,show (2:Nat) ^ (8*0)=1 from rfl]
 omega
theorem Mz:∀(l acc:List dH),(∀x∈l,uO x)->lB acc l.length ⟨(l.map eT).flatten,0⟩= .ok (acc++l)
 | [],acc,_=>by
  rw[List.map_nil,List.flatten_nil,List.length_nil,MC,if_neg (by simp),List.append_nil]
 | x::l,acc,h=>by
  have hx:=h x (.head _)
  have ih:=Mz l (acc++[x]) λy hy=>h y (.tail _ hy)
  obtain⟨kind,n,s⟩:=x
  rw[List.map_cons,List.flatten_cons,List.length_cons]
  rcases hx with ⟨h1,h2,h3,h4⟩|⟨h1,h2,h3⟩
  ·have h1:kind=1:=h1
   have h4:s=emp:=h4
   subst h1 h4
   obtain⟨m,rfl⟩:=Int.eq_ofNat_of_zero_le h2
   have hm:m<1152921504606846976:=by have h3:(m:Int)<1152921504606846976:=h3;omega
   have e:eT ⟨1,(m:Int),emp⟩=fy 1::dS (m:Int) 8:=by
    show fy 1::dS ((m:Int) % 18446744073709551616) 8=_
    rw[show (m:Int) % 18446744073709551616=(m:Int) by omega]
   have hl:=i_ (m:Int) 8
   rw[e,List.cons_append,MA (by decide),if_neg (by rw[List.length_append,hl];omega),List.take_left' hl,List.drop_left' hl,Rr hm,sig,if_pos (by omega)]
   rw[List.append_assoc]at ih
   exact ih
  ·have h1:kind=2:=h1
   have h2:n=0:=h2
   have h3:s.size<=4096:=h3
   subst h1 h2
   have e:eT ⟨2,0,s⟩=fy 2::(dS (s.size:Nat) 2++s.data.toList):=rfl
   have hl:=i_ (s.size:Int) 2
   have hs:s.data.toList.length=s.size:=rfl
   rw[e,List.cons_append,List.append_assoc,MB (by decide),if_neg (by rw[List.length_append,hl];omega),List.take_left' hl,List.drop_left' hl,Rp (by omega),if_neg (by omega),
    if_neg (by rw[List.length_append,List.length_append,hl];omega),List.take_left' hs,List.drop_left' hs]
   rw[List.append_assoc]at ih
   exact ih
theorem Mw{l:List dH}(hl:l.length<=32767)(h:∀x∈l,uO x):lC l= .ok (dS l.length 2++(l.map eT).flatten)/\h_ (dS l.length 2++(l.map eT).flatten)= .ok l:=by
 have h2:=i_ (l.length:Int) 2
 have hb:=Rp (n:=l.length) (by omega)
 refine⟨?_,?_⟩
 ·unfold lC
  rw[if_neg (by omega),if_pos (List.all_eq_true.2 λx hx=>(h x hx).right)]
 ·have ht:(dS (l.length:Int) 2++(l.map eT).flatten).take 2=dS l.length 2:=List.take_left' h2
  have hd:(dS (l.length:Int) 2++(l.map eT).flatten).drop 2=(l.map eT).flatten:=List.drop_left' h2
  rw[Mx (by rw[List.length_append,h2];omega) (by rw[ht,hb];omega),ht,hd,hb,Mz l [] h,List.nil_append]
theorem Mb(b:Bool):0<=nt b/\nt b<=1:=by cases b<;>decide
theorem oz{n:Int}(h:0<=n/\n<=1099511627776):uO (iF n):=.inl ⟨rfl,h.1,by show n<_;omega,rfl⟩
theorem By{α β:Type}{f:α->List β}{k:Nat}(h:∀x,(f x).length=k):∀l:List α,((l.map f).flatten).length=l.length*k
 | []=>by simp
 | x::l=>by rw[List.map_cons,List.flatten_cons,List.length_append,h,By h l,List.length_cons,Nat.succ_mul,Nat.add_comm]
theorem uY{m n:Int}{l:List dH}(h:0<=n/\n<=m):ed m ⟨iF n::l,false⟩=(n,⟨l,false⟩):=by
 have e:fR ⟨iF n::l,false⟩=(n,⟨l,false⟩):=rfl
 unfold ed
 rw[e,if_neg (by show ¬(n<0\/m<n);omega)]
theorem Uf{b:Bool}{l:List dH}:mL ⟨iF (nt b)::l,false⟩=(b,⟨l,false⟩):=by
 unfold mL
 rw[uY (Mb b)]
 cases b<;>rfl
theorem P0{α:Type}{one:cw->α × cw}{f:α->List dH}:∀(xs:List α) (l:List dH),(∀x∈xs,∀l,one ⟨f x++l,false⟩=(x,⟨l,false⟩))->eE one xs.length ⟨(xs.map f).flatten++l,false⟩=(xs,⟨l,false⟩)
 | [],l,_=>rfl
 | x::xs,l,h=>by
  have ih:=P0 xs l λy hy=>h y (.tail _ hy)
  have h1:=h x (.head _) ((xs.map f).flatten++l)
  rw[List.map_cons,List.flatten_cons,List.append_assoc,List.length_cons,eE,if_neg (by simp),h1,ih]
theorem xf(n:Int):(eT (iF n)).length=9:=by
 show (fy 1::dS (nh n) 8).length=9
 rw[List.length_cons,i_]
theorem ue{α β:Type}{f:α->List β}{k:Nat}:∀l:List α,(∀x∈l,(f x).length<=k)->((l.map f).flatten).length<=l.length*k
 | [],_=>by simp
 | x::l,h=>by
  have h1:=h x (.head _)
  have ih:=ue l λy hy=>h y (.tail _ hy)
  rw[List.map_cons,List.flatten_cons,List.length_append,List.length_cons,Nat.succ_mul]
  omega
theorem D9(l:List (List dH)):(l.flatten.map eT).flatten=(l.map λx=>(x.map eT).flatten).flatten:=by
 induction l with
 | nil=>rfl
 | cons x l ih=>simp only[List.flatten_cons,List.map_append,List.flatten_append,List.map_cons,ih]
end Go.Proofs.YtfenmffiidchcaaGreat

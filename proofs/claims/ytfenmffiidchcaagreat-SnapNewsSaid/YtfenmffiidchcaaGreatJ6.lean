/-
  Texts of the proof, joined: Sl6, BStr, FldS, FldS2, PieceS, GMod, FMod, BatchS, ItemE.
-/
import Derived.Test.YtfenmffiidchcaaGreatJ5
import Derived.Laws.BytesString
import Derived.Test.YtfenmffiidchcaaGreatQVcS
namespace Go.Proofs.YtfenmffiidchcaaGreat
set_option linter.unusedVariables false
open Go.RowKit
section
variable {W w:World} {l:List Chunk} {P:Program}
theorem s_strAt{t:TypeId}{s:ByteArray}{j:Nat}{k:IntKind}{K:Value→Prop}(ht:P.underlying t=some .string)(hj:j<s.size)(h:K (.int .u8 (s[j]).toNat)):HRq P (Instr.index t (.string s) (.int k (j:Int))) w K:=by
 refine⟨_,?_,h⟩
 have:s[j]?=some s[j]:=by simp[hj]
 simp[Instr.index,asIntOf,run_underlying ht,Result.andThen,this]
end
set_option maxRecDepth 100000
def bstr(bs:List UInt8):ByteArray:=⟨bs.toArray⟩
theorem bstr_inj{a b:List UInt8}:bstr a=bstr b↔a=b:=by
 constructor
 ·intro h
  have:=congrArg ByteArray.data h
  exact List.toArray_inj this
 ·rintro rfl;rfl
theorem bstr_size(a:List UInt8):(bstr a).size=a.length:=by simp[bstr,ByteArray.size]
theorem fold_push:∀(bs:List UInt8) (s:ByteArray),(bs.map λb=>(b.toNat:Int)).foldl (λr n=>r.push (UInt8.ofNat n.toNat)) s=⟨s.data++bs.toArray⟩
 | [],s=>by cases s;simp
 | b::bs,s=>by
  simp only[List.map_cons,List.foldl_cons]
  rw[fold_push bs]
  cases s;simp[ByteArray.push]
section
variable {W w:World} {l:List Chunk} {P:Program}
theorem ZU{src dst e:TypeId}{v:Value}{bs:List UInt8}{K:Value→Prop}(hv:∃a n c,v= .slice a n c)(hsrc:srcCells w 1 v bs.length (bs.map u8c))(h1:P.underlying src=some (.slice e))(h2:P.underlying dst=some .string)(h3:P.underlying e=some (.int .u8))
  (h:K (.string (bstr bs))):HRq P (convert src dst v) w K:=by
 refine⟨_,?_,h⟩
 obtain⟨a,n,c,rfl⟩:=hv
 rw[run_convert_bytes_string w src dst e a n c h1 h3 h2]
 cases a with
 | none=>
  obtain⟨e1,e2⟩:=hsrc
  have:bs=[]:=by simpa using e2
  subst this
  rfl
 | some p=>
  obtain⟨e1,e2,e3⟩:=hsrc
  subst e1
  have hl:(loadCells p bs.length).run P w= .ok ((bs.map λb=>(b.toNat:Int)).map (Value.int .u8)).toArray w:=by
   have h4:=run_loadCells_list (P:=P) (w:=w) p (bs.map u8c) e3
   rw[List.length_map]at h4
   rw[h4,List.map_map];rfl
  rw[run_bytesToString w p bs.length c _ hl,fold_push]
  simp[bstr]
end
abbrev FRdX(rp:Nat)(r:FRd)(v:Value):Chunk:=.pt rp [v,.int .i64 r.e] 327
theorem nextF_len(n:Nat)(r:FRd):(nextF n r).1.length≤n∧(nextF n r).1.length≤r.b.length∧(nextF n r).2.b.length≤r.b.length:=by
 unfold nextF
 split
 ·simp
 ·split
  ·simp
  ·simp only[List.length_take,List.length_drop];omega
def NextQ(X:Chunk)(rp n:Nat)(r:FRd)(u:Value)(post:List Chunk):Prop:=∃v',Rdb X u (nextF n r).1∧Rdb X v' (nextF n r).2.b∧post=[FRdX rp (nextF n r).2 v',X]
theorem Yg(X:Chunk)(rp n:Nat)(v:Value)(r:FRd)(hv:Rdb X v r.b):SP 296 [.pointer (some ⟨rp,0,none⟩),.int .i64 n] [FRdX rp r v,X] (NextQ X rp n r):=by
 intro W F w hS;apply vc296;unfold Vc296;(try simp only[app]at hS)
 have hone:=hv.one hS Xh
 refine⟨λvs w=>vs=[]∧∃e,e=(if r.e=0∧r.b.length<n then 2 else r.e)∧SL W (.pt rp [v,.int .i64 e] 327::X::F) w,?_,?_⟩
 ·refine Gp ?_
  refine zc (λh=>?_) (λh=>?_)
  ·refine Gp ?_
   refine zH hS Xh hv ?_
   refine Gp ?_
   refine zc (λh2=>?_) (λh2=>?_)
   ·refine Gn λw hS=>?_
    exact⟨2,by rw[if_pos ⟨h,by omega⟩],hS⟩
   ·refine⟨rfl,_,rfl,?_⟩
    rw[if_neg (by omega)];exact hS
  ·refine⟨rfl,_,rfl,?_⟩
   rw[if_neg (by omega)];exact hS
 ·rintro w ⟨_,e,he,hS⟩
  refine Gp ?_
  by_cases h1:r.e=0
  ·by_cases h2:r.b.length<n
   ·rw[if_pos ⟨h1,h2⟩]at he
    subst he
    refine zc (λ_=>?_) (λh=>absurd (by decide) h)
    have e1:nextF n r=([],{r with e:=2}):=by unfold nextF;rw[if_neg (by simp[h1]),if_pos h2]
    refine⟨_,⟨v,?_,?_,rfl⟩,?_⟩
    ·rw[e1];exact Rdb.nil
    ·rw[e1];exact hv
    ·rw[e1];exact hS
   ·rw[if_neg (by omega),h1]at he
    subst he
    refine zc (λh=>absurd rfl h) (λ_=>?_)
    have e1:nextF n r=(r.b.take n,{r with b:=r.b.drop n}):=by unfold nextF;rw[if_neg (by simp[h1]),if_neg h2]
    refine Gp ?_
    refine ZF hS Xh hv (by omega) ?_
    intro u hu
    refine Gp ?_
    refine YJ hS Xh hv (by omega) ?_
    intro v' hv'
    have hone':=hv'.one hS Xh
    refine Gn λw hS=>?_
    refine⟨_,⟨v',?_,?_,rfl⟩,?_⟩
    ·rw[e1];exact hu
    ·rw[e1];exact hv'
    ·rw[e1];simp only[h1];exact hS
  ·rw[if_neg (by omega)]at he
   subst he
   refine zc (λ_=>?_) (λh=>absurd h1 h)
   have e1:nextF n r=([],r):=by unfold nextF;rw[if_pos h1]
   refine⟨_,⟨v,?_,?_,rfl⟩,?_⟩
   ·rw[e1];exact Rdb.nil
   ·rw[e1];exact hv
   ·rw[e1];exact hS
theorem or64{a b:Nat}(ha:a<18446744073709551616)(hb:b<18446744073709551616):binVal .or (.int .u64 (a:Int)) (.int .u64 (b:Int))=some (.int .u64 ((a ||| b:Nat):Int)):=by
 have h:(a ||| b)<18446744073709551616:=Nat.or_lt_two_pow (n:=64) ha hb
 simp only[binVal,if_true]
 congr 2
 have e1:(BitVec.ofInt IntKind.u64.bits (a:Int))=BitVec.ofNat 64 a:=BitVec.ofInt_natCast 64 a
 have e2:(BitVec.ofInt IntKind.u64.bits (b:Int))=BitVec.ofNat 64 b:=BitVec.ofInt_natCast 64 b
 rw[e1,e2]
 have e3:(BitVec.ofNat 64 a ||| BitVec.ofNat 64 b).toNat=a ||| b:=by
  rw[BitVec.toNat_or,BitVec.toNat_ofNat,BitVec.toNat_ofNat,Nat.mod_eq_of_lt (by omega),Nat.mod_eq_of_lt (by omega)]
 show IntKind.u64.wrap (((BitVec.ofNat 64 a ||| BitVec.ofNat 64 b).toNat:Nat):Int)=_
 rw[e3,wrap_u64 (by omega) (by omega)]
theorem s_shlOr{x:Nat}{c:UInt8}{K:Value→Prop}(h:K (.int .u64 (((x*256+c.toNat) % 18446744073709551616:Nat):Int))):
  za .shl (.int .u64 (x:Int)) (.int .u64 8) λv=>zK .u64 (u8c c) λy=>za .or v y K:=by
 have hc:=c.toNat_lt
 refine⟨.int .u64 (((x*256) % 18446744073709551616:Nat):Int),?_,?_⟩
 ·show (if (8:Int)<0 then none else some (Value.int .u64 (IntKind.u64.wrap ((x:Int)*2 ^ (min (8:Int).toNat IntKind.u64.bits)))))=_
  rw[if_neg (by omega)]
  congr 2
 ·refine zR ?_
  rw[wrap_u64 (by omega) (by omega)]
  refine⟨_,or64 (by omega) (by omega),?_⟩
  have e:(x*256) % 18446744073709551616=((x*256) % 18446744073709551616 / 256) <<< 8:=by rw[Nat.shiftLeft_eq];omega
  have e2:(x*256) % 18446744073709551616 ||| c.toNat=(x*256+c.toNat) % 18446744073709551616:=by
   rw[e,← Nat.shiftLeft_add_eq_or_of_lt (show c.toNat<2 ^ 8 by omega),Nat.shiftLeft_eq];omega
  rw[e2];exact h
theorem bigN_take{b:List UInt8}{i:Nat}(h:i<b.length):bigN (b.take (i+1))=(bigN (b.take i)*256+b[i].toNat) % 18446744073709551616:=by
 rw[show b.take (i+1)=b.take i++[b[i]] by rw[List.take_add_one];simp[h]]
 exact bigN_step _ _ _ rfl
def NumQ(X:Chunk)(rp n:Nat)(r:FRd)(u:Value)(post:List Chunk):Prop:=∃v',u= .int .u64 ((numF n r).1:Nat)∧Rdb X v' (numF n r).2.b∧post=[FRdX rp (numF n r).2 v',X]
theorem Zp(X:Chunk)(rp n:Nat)(v:Value)(r:FRd)(hv:Rdb X v r.b)(hn:n≤1000):SP 295 [.pointer (some ⟨rp,0,none⟩),.int .i64 n] [FRdX rp r v,X] (NumQ X rp n r):=by
 intro W F w hS;apply vc295;unfold Vc295;(try simp only[app]at hS)
 (refine Cc (Yg X rp n v r hv) ?_;clear hS)
 rintro u post ⟨v',hu,hv',rfl⟩ w hS;(try simp only[app]at hS)
 have hl:=nextF_len n r
 refine zH hS Xh hu ?_
 refine⟨λvs w=>∃i:Nat,i≤(nextF n r).1.length∧vs=[.int .u64 (bigN ((nextF n r).1.take i):Nat),.int .i64 i]∧SL W (FRdX rp (nextF n r).2 v'::X::F) w,λvs _=>match vs with
  | [_,.int _ i]=>(nextF n r).1.length-i.toNat
  | _=>0,⟨0,by omega,rfl,hS⟩,?_⟩
 rintro v1 v2 w1 ⟨i,hi,hv,hS⟩
 cases hv
 refine Gp ?_
 refine zc (λh=>?_) (λh=>?_)
 ·have hi:i<(nextF n r).1.length:=by omega
  refine yD hS Xh hu hi ?_
  refine s_shlOr ?_
  refine Gp ?_
  refine⟨⟨i+1,by omega,?_,hS⟩,?_⟩
  ·rw[bigN_take hi]
  ·simp only[Int.toNat_natCast];omega
 ·have:(nextF n r).1.take i=(nextF n r).1:=List.take_of_length_le (by omega)
  rw[this]
  exact⟨_,⟨v',rfl,hv',rfl⟩,hS⟩
theorem bigN_lt:∀(n:Nat) (b:List UInt8),b.length=n→bigN b<256 ^ n
 | 0,b,h=>by
  have:b=[]:=List.eq_nil_of_length_eq_zero h
  subst this;decide
 | n+1,b,h=>by
  have h1:=bigN_lt n (b.take n) (by rw[List.length_take];omega)
  have h2:=bigN_take (b:=b) (i:=n) (by omega)
  rw[List.take_of_length_le (by omega)]at h2
  have hc:=(b[n]'(by omega)).toNat_lt
  have h3:=Nat.mod_le (bigN (b.take n)*256+(b[n]'(by omega)).toNat) 18446744073709551616
  rw[h2,Nat.pow_succ]
  omega
theorem numF_lt(n:Nat)(r:FRd):(numF n r).1<256 ^ n:=by
 have h1:=bigN_lt _ _ (rfl:(nextF n r).1.length=_)
 have h2:=(nextF_len n r).1
 exact Nat.lt_of_lt_of_le h1 (Nat.pow_le_pow_right (by omega) h2)
def MostQ(X:Chunk)(rp m:Nat)(r:FRd)(u:Value)(post:List Chunk):Prop:=∃v',u= .int .i64 ((mostF m r).1:Nat)∧Rdb X v' (mostF m r).2.b∧post=[FRdX rp (mostF m r).2 v',X]
theorem Ye(X:Chunk)(rp m:Nat)(v:Value)(r:FRd)(hv:Rdb X v r.b)(hm:m≤100000):SP 236 [.pointer (some ⟨rp,0,none⟩),.int .i64 m] [FRdX rp r v,X] (MostQ X rp m r):=by
 intro W F w hS;apply vc236;unfold Vc236;(try simp only[app]at hS)
 (refine Cc (Zp X rp 2 v r hv (by omega)) ?_;clear hS)
 rintro u post ⟨v',rfl,hv',rfl⟩ w hS;(try simp only[app]at hS)
 have hlt:=numF_lt 2 r
 refine yC (by omega) ?_
 refine Gp ?_
 refine zc (λh=>?_) (λh=>?_)
 ·refine Gn λw hS=>?_
  have e:mostF m r=(0,{(numF 2 r).2 with e:=3}):=by unfold mostF;rw[if_pos (by omega)]
  refine⟨_,⟨v',?_,?_,rfl⟩,?_⟩
  ·rw[e];rfl
  ·rw[e];exact hv'
  ·rw[e];exact hS
 ·have e:mostF m r=numF 2 r:=by unfold mostF;rw[if_neg (by omega)]
  refine⟨_,⟨v',?_,?_,rfl⟩,?_⟩
  ·rw[e]
  ·rw[e];exact hv'
  ·rw[e];exact hS
theorem mostF_le(m:Nat)(r:FRd):(mostF m r).1≤m:=by
 unfold mostF
 split
 ·exact Nat.zero_le _
 ·rename_i h;exact Nat.not_lt.1 h
theorem sig_cv{n:Nat}(h:n<18446744073709551616):IntKind.i64.wrap (n:Int)=sig n:=by
 rw[IntKind.wrap_i64,sig]
 split<;>omega
def FldQ(X:Chunk)(rp:Nat)(r:FRd)(u:Value)(post:List Chunk):Prop:=∃v',u= .agg (fdcells (fieldF r).1).toArray∧Rdb X v' (fieldF r).2.b∧post=[FRdX rp (fieldF r).2 v',X]
theorem qw(X:Chunk)(rp:Nat)(v:Value)(r:FRd)(hv:Rdb X v r.b):SP 237 [.pointer (some ⟨rp,0,none⟩)] [FRdX rp r v,X] (FldQ X rp r):=by
 intro W F w hS;apply vc237;unfold Vc237;(try simp only[app]at hS)
 refine Gm λb w hS=>?_
 (refine Cc (Zp X rp 1 v r hv (by omega)) ?_;clear hS)
 rintro u post ⟨v1,rfl,hv1,rfl⟩ w hS;(try simp only[app]at hS)
 have hlt:=numF_lt 1 r
 refine yC (by omega) ?_
 refine Gp ?_
 refine zc (λh=>?_) (λh=>?_)
 ·(refine Cc (Zp X rp 8 v1 (numF 1 r).2 hv1 (by omega)) ?_;clear hS)
  rintro u post ⟨v2,rfl,hv2,rfl⟩ w hS;(try simp only[app]at hS)
  have hlt8:=numF_lt 8 (numF 1 r).2
  refine zR ?_
  rw[sig_cv (by omega),h]
  have e:fieldF r=(⟨1,sig (numF 8 (numF 1 r).2).1,⟨#[]⟩⟩,(numF 8 (numF 1 r).2).2):=by
   unfold fieldF;rw[if_pos (by omega)]
  refine Gn λw hS=>?_
  refine⟨[FRdX rp (fieldF r).2 v2,X],⟨v2,?_,?_,rfl⟩,?_⟩
  ·rw[e];rfl
  ·rw[e];exact hv2
  ·rw[e];exact SL.into hS Xi
 ·refine Gp ?_
  refine zc (λh2=>?_) (λh2=>?_)
  ·(refine Cc (Ye X rp 4096 v1 (numF 1 r).2 hv1 (by omega)) ?_;clear hS)
   rintro u post ⟨v2,rfl,hv2,rfl⟩ w hS;(try simp only[app]at hS)
   (refine Cc (Yg X rp (mostF 4096 (numF 1 r).2).1 v2 (mostF 4096 (numF 1 r).2).2 hv2) ?_;clear hS)
   rintro u post ⟨v3,hu,hv3,rfl⟩ w hS;(try simp only[app]at hS)
   obtain⟨au,cu,eu,_⟩:=hu.sl hS Xh
   refine ZU ⟨_,_,_,eu⟩ (hu.src hS Xh) Tryz.underlying62 Tryz.underlying9 Tryz.underlying5 ?_
   rw[h2]
   have e:fieldF r=(⟨2,0,bstr (nextF (mostF 4096 (numF 1 r).2).1 (mostF 4096 (numF 1 r).2).2).1⟩,(nextF (mostF 4096 (numF 1 r).2).1 (mostF 4096 (numF 1 r).2).2).2):=by
    unfold fieldF bstr;rw[if_neg (by omega),if_pos (by omega)]
   refine Gn λw hS=>?_
   refine⟨[FRdX rp (fieldF r).2 v3,X],⟨v3,?_,?_,rfl⟩,?_⟩
   ·rw[e];rfl
   ·rw[e];exact hv3
   ·rw[e];exact SL.into hS Xi
  ·refine Gp ?_
   have e:fieldF r=(fd0,if (numF 1 r).2.e=0 then {(numF 1 r).2 with e:=3} else (numF 1 r).2):=by
    unfold fieldF;rw[if_neg (by omega),if_neg (by omega)]
   refine zc (λh3=>?_) (λh3=>?_)
   ·rw[if_pos h3]at e
    refine Gn λw hS=>?_
    refine⟨[FRdX rp (fieldF r).2 v1,X],⟨v1,?_,?_,rfl⟩,?_⟩
    ·rw[e];rfl
    ·rw[e];exact hv1
    ·rw[e];exact SL.into hS Xi
   ·rw[if_neg h3]at e
    refine Gn λw hS=>?_
    refine⟨[FRdX rp (fieldF r).2 v1,X],⟨v1,?_,?_,rfl⟩,?_⟩
    ·rw[e];rfl
    ·rw[e];exact hv1
    ·rw[e];exact SL.into hS Xi
theorem fdcells_len(x:PFd):(fdcells x).length=3:=rfl
theorem fieldsF_len:∀(i:Nat) (r:FRd),(fieldsF i r).1.length≤i
 | 0,r=>Nat.le_refl _
 | i+1,r=>by
  unfold fieldsF
  split
  ·have:=fieldsF_len i (fieldF r).2
   simp only[List.length_cons];omega
  ·exact Nat.zero_le _
def decE(r:FRd):Int:=if r.e=0 then if 0<r.b.length then 3 else 0 else r.e
theorem decF_eq(b:List UInt8):decF b=if decE (fieldsF (mostF 32767 ⟨b,0⟩).1 (mostF 32767 ⟨b,0⟩).2).2=0 then .ok (fieldsF (mostF 32767 ⟨b,0⟩).1 (mostF 32767 ⟨b,0⟩).2).1 else .error (decE (fieldsF (mostF 32767 ⟨b,0⟩).1 (mostF 32767 ⟨b,0⟩).2).2):=rfl
def DecQ(X:Chunk)(b:List UInt8)(u:Value)(post:List Chunk):Prop:=match decF b with
 | .error e=>u= .tuple #[.slice none 0 0,.int .i64 e]∧post=[X]
 | .ok l=>∃v,u= .tuple #[v,.int .i64 0]∧post=[.ob (OwnSl v 174 3 l.length (l.map fdcells).flatten),X]
theorem fd_one(x:PFd):∀v∈fdcells x,v.oneCell'=true:=λv hv=>by
 simp only[fdcells,List.mem_cons,List.not_mem_nil,or_false]at hv
 rcases hv with rfl|rfl|rfl<;>rfl
theorem yS(X:Chunk)(v:Value)(b:List UInt8)(hv:Rdb X v b):SP 157 [v] [X] (DecQ X b):=by
 intro W F w hS;apply vc157;unfold Vc157;(try simp only[app]at hS)
 obtain⟨a0,c0,rfl,_⟩:=hv.sl hS .hd
 refine yq rfl ?_
 refine⟨_,rfl,zN hS ?_⟩
 clear hS;intro rp w hS
 generalize hm:mostF 32767 ⟨b,0⟩=m
 refine⟨λvs w=>∃u v',vs=[u]∧Rdb X v' (fieldsF m.1 m.2).2.b∧SL W (.ob (OwnSl u 174 3 (fieldsF m.1 m.2).1.length ((fieldsF m.1 m.2).1.map fdcells).flatten)::FRdX rp (fieldsF m.1 m.2).2 v'::X::F) w,?_,?_⟩
 ·have hS:SL W (FRdX rp ⟨b,0⟩ (.slice a0 b.length c0)::X::F) w:=hS
  (refine Cc (Ye X rp 32767 _ ⟨b,0⟩ hv (by omega)) ?_;clear hS)
  rintro u post ⟨v1,rfl,hv1,rfl⟩ w hS;(try simp only[app]at hS)
  rw[hm]at hS hv1 ⊢
  have hle:m.1≤32767:=by rw[← hm];exact mostF_le _ _
  have hS:=OwnSl.nil (t:=174) (sz:=3) hS
  refine⟨λvs w=>∃(u v':Value) (xs:List PFd) (i:Nat) (r:FRd),vs=[u,.int .i64 i]∧xs.length+i=m.1∧fieldsF m.1 m.2=(xs++(fieldsF i r).1,(fieldsF i r).2)∧Rdb X v' r.b∧SL W (.ob (OwnSl u 174 3 xs.length (xs.map fdcells).flatten)::FRdX rp r v'::X::F) w,λvs _=>match vs with
   | [_,.int _ i]=>i.toNat
   | _=>0,⟨_,v1,[],m.1,m.2,rfl,by simp,by simp,hv1,hS⟩,?_⟩
  rintro u1 u2 w1 ⟨u,v',xs,i,r,hv,hx,hf,hr,hS⟩
  cases hv
  refine Gp ?_
  refine zc (λh=>?_) (λh=>?_)
  ·refine Gp ?_
   obtain⟨j,rfl⟩:∃j,i=j+1:=⟨i-1,by omega⟩
   refine zc (λh2=>?_) (λh2=>?_)
   ·(refine Cc (qw X rp v' r hr) ?_;clear hS)
    rintro u5 post ⟨v2,rfl,hv2,rfl⟩ w hS;(try simp only[app]at hS)
    refine zB (cells:=fdcells (fieldF r).1) hS rfl ?_
    clear hS;intro p w hS
    refine zz (m:=1) (cs:=fdcells (fieldF r).1) hS Xr (src_pt0 hS .hd rfl) rfl rfl (fd_one _) (by omega) (by omega) ?_
    clear hS;intro u' w hS
    refine Gp ?_
    have e:((j+1:Nat):Int)-1=(j:Int):=by omega
    rw[e]
    refine⟨⟨u',v2,xs++[(fieldF r).1],j,(fieldF r).2,rfl,by simp;omega,?_,hv2,?_⟩,?_⟩
    ·rw[hf]
     have:fieldsF (j+1) r=((fieldF r).1::(fieldsF j (fieldF r).2).1,(fieldsF j (fieldF r).2).2):=by
      show (if r.e=0 then _ else _)=_
      rw[if_pos h2]
     rw[this];simp
    ·simp only[List.length_append,List.length_cons,List.length_nil,List.map_append,List.map_cons,List.map_nil,List.flatten_append,List.flatten_cons,List.flatten_nil,List.append_nil]
     exact SL.into hS Xi
    ·simp only[Int.toNat_natCast];omega
   ·have:fieldsF (j+1) r=([],r):=by
     show (if r.e=0 then _ else _)=_
     rw[if_neg h2]
    rw[this,List.append_nil]at hf
    refine⟨u1,v',rfl,?_,?_⟩
    ·rw[hf];exact hr
    ·rw[hf];exact hS
  ·obtain rfl:i=0:=by omega
   have:fieldsF 0 r=([],r):=rfl
   rw[this,List.append_nil]at hf
   refine⟨u1,v',rfl,?_,?_⟩
   ·rw[hf];exact hr
   ·rw[hf];exact hS
 ·rintro u5 w ⟨u,v',hu,hv',hS⟩
  obtain rfl:u5=u:=(List.cons.inj hu).1
  have hd:=decF_eq b
  rw[hm]at hd
  generalize (fieldsF m.1 m.2).2=r at *
  generalize (fieldsF m.1 m.2).1=xs at *
  refine⟨λvs w=>vs=[]∧SL W (.ob (OwnSl u5 174 3 xs.length (xs.map fdcells).flatten)::.pt rp [v',.int .i64 (decE r)] 327::X::F) w,?_,?_⟩
  ·refine Gp ?_
   refine zc (λh=>?_) (λh=>?_)
   ·refine Gp ?_
    refine zH hS Xh hv' ?_
    refine Gp ?_
    refine zc (λh2=>?_) (λh2=>?_)
    ·refine Gn λw hS=>?_
     have e:decE r=3:=by unfold decE;rw[if_pos h,if_pos (by omega)]
     rw[e];exact hS
    ·have e:decE r=r.e:=by unfold decE;rw[if_pos h,if_neg (by omega),h]
     rw[e];exact⟨rfl,hS⟩
   ·have e:decE r=r.e:=by unfold decE;rw[if_neg h]
    rw[e];exact⟨rfl,hS⟩
  ·rintro w ⟨_,hS⟩
   refine Gp ?_
   refine zc (λh=>?_) (λh=>?_)
   ·refine Gn λw hS=>?_
    rw[if_neg h]at hd
    refine⟨[X],?_,SL.into hS Xi⟩
    unfold DecQ;rw[hd];exact⟨rfl,rfl⟩
   ·have h:decE r=0:=by omega
    rw[if_pos h]at hd
    refine⟨[.ob (OwnSl u5 174 3 xs.length (xs.map fdcells).flatten),X],?_,SL.into hS Xi⟩
    unfold DecQ;rw[hd];exact⟨u5,rfl,rfl⟩
theorem s_shrU{a:Int}{n:Nat}{k:IntKind}(hn:n≤64){K:Value→Prop}(h:K (.int .u64 (a.fdiv (2 ^ n)))):za .shr (.int .u64 a) (.int k (n:Int)) K:=by
 refine⟨.int .u64 (a.fdiv (2 ^ n)),?_,h⟩
 have h1:¬((n:Int)<0):=by omega
 simp only[binVal,h1,if_false]
 rw[show min (n:Int).toNat IntKind.u64.bits=n by simp only[IntKind.bits];omega]
theorem Zo(b:List UInt8)(v:Value)(x:Int)(n:Nat)(hn:n≤8)(hb:b.length≤140737488355000):SP 284 [v,.int .u64 x,.int .i64 n] [.ob (OwnSl v 5 1 b.length (b.map u8c))] (λu post=>post=[.ob (OwnSl u 5 1 (b++numB x n).length ((b++numB x n).map u8c))]):=by
 intro W F w hS;apply vc284;unfold Vc284;(try simp only[app]at hS)
 refine Gp ?_
 refine⟨λvs w=>∃(u:Value) (c:List UInt8) (k:Nat),vs=[u,.int .i64 ((k:Int)-1)]∧k≤n∧c++numB x k=b++numB x n∧SL W (.ob (OwnSl u 5 1 c.length (c.map u8c))::F) w,λvs _=>match vs with
  | [_,.int _ i]=>(i+1).toNat
  | _=>0,⟨v,b,n,rfl,Nat.le_refl _,rfl,hS⟩,?_⟩
 rintro u1 u2 w1 ⟨u,c,k,hv,hk,hc,hS⟩
 cases hv
 refine Gp ?_
 refine zc (λh=>?_) (λh=>?_)
 ·obtain⟨j,rfl⟩:∃j,k=j+1:=⟨k-1,by omega⟩
  have e0:((j+1:Nat):Int)-1=(j:Int):=by omega
  rw[e0]
  refine s_mul (by omega) ?_
  have e1:(8:Int)*(j:Int)=((8*j:Nat):Int):=by omega
  rw[e1]
  refine s_shrU (by omega) ?_
  refine zR ?_
  rw[wrap_u8]
  refine zB (cells:=[u8c (lowB (x.fdiv (2 ^ (8*j))))]) hS rfl ?_
  clear hS;intro p w hS
  have hcl:c.length+(j+1)=b.length+n:=by
   have:=congrArg List.length hc
   simpa [numB_len] using this
  refine zz (m:=1) (cs:=[u8c (lowB (x.fdiv (2 ^ (8*j))))]) hS Xr (src_pt0 hS .hd rfl) rfl rfl (by intro v hv;simp only[List.mem_singleton]at hv;subst hv;rfl) (by omega) (by omega) ?_
  clear hS;intro u' w hS
  refine Gp ?_
  refine⟨⟨u',c++[lowB (x.fdiv (2 ^ (8*j)))],j,rfl,by omega,?_,?_⟩,?_⟩
  ·rw[← hc];simp[numB]
  ·simp only[List.length_append,List.length_cons,List.length_nil,List.map_append,List.map_cons,List.map_nil]
   exact SL.into hS Xi
  ·show ((j:Int)-1+1).toNat<((j:Int)+1).toNat
   omega
 ·obtain rfl:k=0:=by omega
  have e:c=b++numB x n:=by simpa [numB] using hc
  rw[e]at hS
  exact⟨_,rfl,hS⟩
theorem Y8(x:PFd):SP 285 [.agg (fdcells x).toArray] [] (Gives (.bool (rightF x)) []):=by
 intro W F w hS;apply vc285;unfold Vc285;(try simp only[app]at hS)
 refine⟨fdcells x,rfl,?_⟩
 unfold fdcells
 refine Gm λb w hS=>?_
 unfold rightF
 refine zc (λh=>?_) (λh=>?_)
 ·rw[if_pos h]
  refine Gp ?_
  have e:decide (x.s=({data:=#[]}:ByteArray))=decide (x.s=⟨#[]⟩):=rfl
  exact⟨_,⟨rfl,rfl⟩,SL.into hS Xi⟩
 ·rw[if_neg h]
  refine Gp ?_
  refine zc (λh2=>?_) (λh2=>?_)
  ·rw[if_pos h2]
   refine Gp ?_
   refine zc (λh3=>?_) (λh3=>?_)
   ·refine Gp ?_
    rw[decide_eq_true h3,Bool.true_and]
    have e:decide ((x.s.size:Int)≤4096)=decide (x.s.size≤4096):=by congr 1;exact propext ⟨λ_=>by omega,λ_=>by omega⟩
    rw[e]
    exact⟨_,⟨rfl,rfl⟩,SL.into hS Xi⟩
   ·rw[decide_eq_false h3,Bool.false_and]
    exact⟨_,⟨rfl,rfl⟩,SL.into hS Xi⟩
  ·rw[if_neg h2]
   exact⟨_,⟨rfl,rfl⟩,SL.into hS Xi⟩
theorem qh{P:Program}{t:TypeId}{fs:Array Field}{f:Field}{i:Nat}{vs:List Value}{v:Value}{w:World}{K:Value→Prop}(ht:P.underlying t=some (.struct fs))(hf:fs[i]?=some f)(ha:∀w,(isAgg f.type).run P w= .ok false w)(hv:vs[f.offset]?=some v)(h:K v):
  HRq P (Instr.field t (.agg vs.toArray) i) w K:=by
 refine⟨_,?_,h⟩
 simp[Instr.field,asAgg,run_underlying ht,Result.andThen,hf,part,ha,hv]
theorem encFd_one(x:PFd):∀v∈fdcells x,v.oneCell'=true:=fd_one x
theorem fd_len(x:PFd):(fdcells x).length=3:=rfl
theorem Zn(b:Nat)(ns:List Int)(t:TypeId)(hn:ns.length≤1000):
  SP 225 [.slice (some ⟨b,0,none⟩) ns.length ns.length] [.pt b (ns.map (Value.int .i64)) t] (λu post=>post=[.ob (OwnSl u 174 3 ns.length ((ns.map iF).map fdcells).flatten)]):=by
 intro W F w hS;apply vc225;unfold Vc225;(try simp only[app]at hS)
 have hS:=OwnSl.nil (t:=174) (sz:=3) hS
 refine Gp ?_
 refine⟨λvs w=>∃(i:Nat) (u:Value),vs=[u,.int .i64 i]∧i≤ns.length∧SL W (.ob (OwnSl u 174 3 i (((ns.take i).map iF).map fdcells).flatten)::.pt b (ns.map (Value.int .i64)) t::F) w,
  λvs _=>match vs with|[_,.int _ i]=>(ns.length-i).toNat|_=>0,⟨0,_,rfl,by omega,hS⟩,?_⟩
 clear hS
 rintro u v8 w ⟨i,_,hvs,hi,hS⟩
 cases hvs
 refine Gp ?_
 refine zc (λh=>?_) (λh=>?_)
 ·have hil:i<ns.length:=by omega
  refine zE hil (ye hS Xh (v:=.int .i64 ns[i]) (by simp[hil]) ?_)
  refine Gm λb w hS=>?_
  refine yr (n:=i) (xs:=(ns.take i).map iF) (y:=iF ns[i]) (enc:=fdcells) hS Xr Xh fd_len encFd_one rfl (by omega) (by omega) λv2 w hS=>?_
  refine Gp ?_
  refine⟨⟨i+1,_,rfl,by omega,?_⟩,by dsimp only;omega⟩
  rw[List.take_succ_eq_append_getElem hil,List.map_append (f:=iF),List.map_singleton]
  exact SL.into hS Xi
 ·have:i=ns.length:=by omega
  subst this
  rw[List.take_length]at hS
  exact⟨_,rfl,SL.into hS Xi⟩
theorem ZR(s:ByteArray):SP 227 [.string s] [] (Gives (agg (fdcells (tF s))) []):=by
 intro W F w hS;apply vc227;unfold Vc227;(try simp only[app]at hS)
 refine Gm λb w hS=>?_
 (exact⟨_,⟨rfl,rfl⟩,SL.into hS Xi⟩)
theorem QU(b:Bool):SP 226 [.bool b] [] (Gives (.int .i64 (bitI b)) []):=by
 intro W F w hS;apply vc226;unfold Vc226;(try simp only[app]at hS)
 cases b<;>(repeat (first|refine Gp ?_|refine Gw λw hS=>?_|refine Gb λb w hS=>?_))<;>(exact⟨_,⟨rfl,rfl⟩,SL.into hS Xi⟩)
def PRdO(rp:Nat)(r:PRd):zC:=HEx λv:Value=>zQ True [.pt rp [v,.bool r.bad] 330,.ob (OwnSo v 174 3 r.l.length (r.l.map fdcells).flatten)]
theorem PRdO.iff{W w:World}{rp:Nat}{r:PRd}{l:List Chunk}:SL W (.ob (PRdO rp r)::l) w↔∃v,SL W (.pt rp [v,.bool r.bad] 330::.ob (OwnSo v 174 3 r.l.length (r.l.map fdcells).flatten)::l) w:=by
 unfold PRdO
 simp only[SL.ex,SL.fact,List.cons_append,List.nil_append,true_and]
theorem ZQ(v:Value)(l:List PFd):SP 158 [v] [.ob (OwnSl v 174 3 l.length (l.map fdcells).flatten)] (λu post=>∃rp:Nat,u= .pointer (some ⟨rp,0,none⟩)∧post=[.ob (PRdO rp ⟨l,false⟩)]):=by
 intro W F w hS;apply vc158;unfold Vc158;(try simp only[app]at hS)
 have h1:=OwnSl.one hS
 obtain⟨a,c,rfl,_⟩:=OwnSl.at hS .hd
 refine Gp ?_
 refine zJ hS λb w hS=>?_
 refine⟨_,⟨b,rfl,rfl⟩,(PRdO.iff (r:=⟨l,false⟩)).2 ⟨.slice a l.length c,?_⟩⟩
 exact (OwnSo.of (hS.perm (.swap _ _ _))).perm (.swap _ _ _)
theorem ZP(rp:Nat)(r:PRd)(k:Int):SP 238 [.pointer (some ⟨rp,0,none⟩),.int .i64 k] [.ob (PRdO rp r)] (Gives (agg (fdcells (nextP k r).1)) [.ob (PRdO rp (nextP k r).2)]):=by
 obtain⟨l,bad⟩:=r
 intro W F w hS;apply vc238;unfold Vc238;(try simp only[app]at hS)
 obtain⟨v,hS⟩:=PRdO.iff.1 hS
 simp only at hS
 refine Gm λb w hS=>?_
 cases bad with
 | true=>
  refine Gn λw hS=>?_
  have e:nextP k ⟨l,true⟩=(fd0,⟨l,true⟩):=by unfold nextP;rfl
  rw[e]
  exact⟨_,⟨rfl,rfl⟩,PRdO.iff.2 ⟨v,SL.into hS Xi⟩⟩
 | false=>
  refine Gp ?_
  refine zV hS (v:=v) Xh ?_
  refine Gp ?_
  cases l with
  | nil=>
   refine zc (λh=>?_) (λh=>absurd rfl h)
   refine Gn λw hS=>?_
   rw[show nextP k ⟨[],false⟩=(fd0,⟨[],true⟩) from rfl]
   exact⟨_,⟨rfl,rfl⟩,PRdO.iff.2 ⟨v,SL.into hS Xi⟩⟩
  | cons f l=>
   refine zc (λh=>by rw[List.length_cons]at h;omega) (λh=>?_)
   refine Gp ?_
   refine yz (j:=0) (k:=.i64) hS (v:=v) Xh (by simp) λab ao hb=>zS ⟨_,.int .i64 f.kind,rfl,hb 0 _ (by decide) rfl,?_⟩
   refine Gp ?_
   refine zc (λhk=>?_) (λhk=>?_)
   ·refine Gn λw hS=>?_
    have e:nextP k ⟨f::l,false⟩=(fd0,⟨f::l,true⟩):=by unfold nextP;exact if_neg hk
    rw[e]
    exact⟨_,⟨rfl,rfl⟩,PRdO.iff.2 ⟨v,SL.into hS Xi⟩⟩
   ·refine Gp ?_
    refine s_getNSo (j:=0) (k:=.i64) hS (v:=v) (enc:=fdcells) (xs:=f::l) Xh fd_len rfl (by simp) ?_
    refine Gm λb w hS=>?_
    refine qZ (k:=1) (v:=v) (Has.front hS Xr) (by simp) λu hS=>?_
    have hS:SL W (.ob (OwnSo u 174 3 l.length (l.map fdcells).flatten)::_) _:=hS
    have h1:=OwnSo.one hS .hd
    refine Gn λw hS=>?_
    have e:nextP k ⟨f::l,false⟩=(f,⟨l,false⟩):=by unfold nextP;exact if_pos (Classical.not_not.1 hk)
    rw[e]
    exact⟨_,⟨rfl,rfl⟩,PRdO.iff.2 ⟨u,SL.into hS Xi⟩⟩
theorem yB(rp:Nat)(r:PRd):SP 159 [.pointer (some ⟨rp,0,none⟩)] [.ob (PRdO rp r)] (Gives (.int .i64 (intP r).1) [.ob (PRdO rp (intP r).2)]):=by
 intro W F w hS;apply vc159;unfold Vc159;(try simp only[app]at hS)
 refine Cg (ZP rp r 1) λw hS=>?_
 exact qh Tryz.underlying174 rfl (λw=>by kernel_rfl) rfl ⟨_,⟨rfl,rfl⟩,hS⟩
theorem yU(rp:Nat)(r:PRd):SP 162 [.pointer (some ⟨rp,0,none⟩)] [.ob (PRdO rp r)] (Gives (.string (textP r).1) [.ob (PRdO rp (textP r).2)]):=by
 intro W F w hS;apply vc162;unfold Vc162;(try simp only[app]at hS)
 refine Cg (ZP rp r 2) λw hS=>?_
 exact qh Tryz.underlying174 rfl (λw=>by kernel_rfl) rfl ⟨_,⟨rfl,rfl⟩,hS⟩
theorem PRdO.bad{W w:World}{rp:Nat}{r:PRd}{l:List Chunk}(v:Value)(h:SL W (.pt rp [v,.bool true] 330::.ob (OwnSo v 174 3 r.l.length (r.l.map fdcells).flatten)::l) w):SL W (.ob (PRdO rp {r with bad:=true})::l) w:=PRdO.iff.2 ⟨v,h⟩
theorem zW(rp:Nat)(r:PRd)(m:Int):SP 160 [.pointer (some ⟨rp,0,none⟩),.int .i64 m] [.ob (PRdO rp r)] (Gives (.int .i64 (smallP m r).1) [.ob (PRdO rp (smallP m r).2)]):=by
 intro W F w hS;apply vc160;unfold Vc160;(try simp only[app]at hS)
 refine Cg (yB rp r) λw hS=>?_
 have hB:((intP r).1<0∨m<(intP r).1)→smallP m r=(0,{(intP r).2 with bad:=true}):=λh=>if_pos h
 have hG:¬((intP r).1<0∨m<(intP r).1)→smallP m r=intP r:=λh=>if_neg h
 refine zc (λh=>?_) (λh=>?_)
 ·rw[hB (.inl h)]
  obtain⟨v,hS⟩:=PRdO.iff.1 hS
  refine Gn λw hS=>?_
  exact⟨_,⟨rfl,rfl⟩,PRdO.bad v hS⟩
 ·refine Gp ?_
  refine zc (λh2=>?_) (λh2=>?_)
  ·rw[hB (.inr h2)]
   obtain⟨v,hS⟩:=PRdO.iff.1 hS
   refine Gn λw hS=>?_
   exact⟨_,⟨rfl,rfl⟩,PRdO.bad v hS⟩
  ·rw[hG (by omega)]
   (exact⟨_,⟨rfl,rfl⟩,SL.into hS Xi⟩)
theorem qH(rp:Nat)(r:PRd):SP 239 [.pointer (some ⟨rp,0,none⟩)] [.ob (PRdO rp r)] (Gives (.bool (bitP r).1) [.ob (PRdO rp (bitP r).2)]):=by
 intro W F w hS;apply vc239;unfold Vc239;(try simp only[app]at hS)
 refine Cg (zW rp r 1) λw hS=>?_
 exact⟨_,⟨rfl,rfl⟩,hS⟩
theorem qG(rp:Nat)(r:PRd):SP 326 [.pointer (some ⟨rp,0,none⟩)] [.ob (PRdO rp r)] (Gives (.bool (!r.bad)) [.ob (PRdO rp r)]):=by
 intro W F w hS;apply vc326;unfold Vc326;(try simp only[app]at hS)
 obtain⟨v,hS⟩:=PRdO.iff.1 hS
 refine Gp ?_
 exact⟨_,⟨rfl,rfl⟩,PRdO.iff.2 ⟨v,hS⟩⟩
theorem ZO(rp:Nat)(r:PRd):SP 163 [.pointer (some ⟨rp,0,none⟩)] [.ob (PRdO rp r)] (Gives (.bool (decide (r.bad=false∧r.l=[]))) [.ob (PRdO rp r)]):=by
 intro W F w hS;apply vc163;unfold Vc163;(try simp only[app]at hS)
 obtain⟨v,hS⟩:=PRdO.iff.1 hS
 refine Gp ?_
 obtain⟨l,bad⟩:=r
 cases bad with
 | true=>
  refine zt ?_
  rw[decide_eq_false (by simp)]
  exact⟨_,⟨rfl,rfl⟩,PRdO.iff.2 ⟨v,hS⟩⟩
 | false=>
  refine zy ?_
  refine Gp ?_
  refine zV hS (v:=v) Xh ?_
  refine Gp ?_
  have e:decide ((l.length:Int)=0)=decide ((PRd.mk l false).bad=false∧(PRd.mk l false).l=[]):=by
   rw[decide_eq_decide]
   simp
  rw[e]
  exact⟨_,⟨rfl,rfl⟩,PRdO.iff.2 ⟨v,hS⟩⟩
end Go.Proofs.YtfenmffiidchcaaGreat
namespace Go.Proofs.YtfenmffiidchcaaGreat
set_option linter.unusedVariables false
structure Chg where
 table:Int
 key:Int
 gone:Bool
 val:ByteArray
deriving DecidableEq
structure TxnD where
 lsn:Int
 kind:Int
 changes:List Chg
 signals:List ByteArray
 mark:Int
def encChg(c:Chg):List Value:=[.int .i64 c.table,.int .i64 c.key,.bool c.gone,.string c.val]
theorem encChg_len(c:Chg):(encChg c).length=4:=rfl
theorem encChg_one(c:Chg):∀v∈encChg c,v.oneCell'=true:=by simp[encChg,Value.oneCell']
structure TxV where
 lsn:Int
 kind:Int
 cv:Value
 sv:Value
 mark:Int
def encTx(x:TxV):List Value:=[.int .i64 x.lsn,.int .i64 x.kind,x.cv,x.sv,.int .i64 x.mark]
structure TxIs(H:Heap)(x:TxV)(t:TxnD):Prop where
 lsn:x.lsn=t.lsn
 kind:x.kind=t.kind
 mark:x.mark=t.mark
 cv:RdSl H 4 x.cv t.changes.length (t.changes.map encChg).flatten
 sv:RdSl H 1 x.sv t.signals.length (t.signals.map Value.string)
theorem TxIs.mono{H H':Heap}(hh:H.le H'){x:TxV}{t:TxnD}(h:TxIs H x t):TxIs H' x t:=⟨h.lsn,h.kind,h.mark,h.cv.mono hh,h.sv.mono hh⟩
def SortedR(C:List Row):Prop:=C.Pairwise (λa b=>a.key<b.key)
def getR(C:List Row)(k:Int):Option ByteArray:=(C.find? (λc=>decide (c.key=k))).map (·.val)
def insR:List Row→Row→List Row
 | [],c=>[c]
 | x::C,c=>if x.key<c.key then x::insR C c else if x.key=c.key then c::C else c::x::C
def delR:List Row→Int→List Row
 | [],_=>[]
 | x::C,k=>if x.key=k then C else x::delR C k
def rowApp(C:List Row)(c:Chg):List Row:=if c.gone then delR C c.key else insR C ⟨c.key,c.val⟩
def appR(t:Int)(C:List Row)(c:Chg):List Row:=if c.table=t then (if c.gone then delR C c.key else insR C ⟨c.key,c.val⟩) else C
def foldR(t:Int)(l:List TxnD):List Row:=(l.flatMap (·.changes)).foldl (appR t) []
theorem mem_insR{C:List Row}{c x:Row}(h:x∈insR C c):x=c∨x∈C:=by
 induction C with
 | nil=>simpa [insR] using h
 | cons y C ih=>
  unfold insR at h
  split at h
  ·rcases List.mem_cons.1 h with rfl|h
   ·exact .inr (.head _)
   ·rcases ih h with h|h
    ·exact .inl h
    ·exact .inr (.tail _ h)
  ·split at h
   ·rcases List.mem_cons.1 h with rfl|h
    ·exact .inl rfl
    ·exact .inr (.tail _ h)
   ·rcases List.mem_cons.1 h with rfl|h
    ·exact .inl rfl
    ·exact .inr h
theorem sorted_insR{C:List Row}(h:SortedR C)(c:Row):SortedR (insR C c):=by
 unfold SortedR at *
 induction C with
 | nil=>simp[insR]
 | cons y C ih=>
  rw[List.pairwise_cons]at h
  unfold insR
  split
  ·rename_i hlt
   refine List.pairwise_cons.2 ⟨λz hz=>?_,ih h.2⟩
   rcases mem_insR hz with rfl|hz
   ·exact hlt
   ·exact h.1 z hz
  ·split
   ·rename_i he
    exact List.pairwise_cons.2 ⟨λz hz=>by have:=h.1 z hz;omega,h.2⟩
   ·rename_i h1 h2
    refine List.pairwise_cons.2 ⟨λz hz=>?_,List.pairwise_cons.2 h⟩
    rcases List.mem_cons.1 hz with rfl|hz
    ·omega
    ·have:=h.1 z hz;omega
theorem mem_delR{C:List Row}{k:Int}{x:Row}(h:x∈delR C k):x∈C:=by
 induction C with
 | nil=>exact h
 | cons y C ih=>
  unfold delR at h
  split at h
  ·exact .tail _ h
  ·rcases List.mem_cons.1 h with rfl|h
   ·exact .head _
   ·exact .tail _ (ih h)
theorem sorted_delR{C:List Row}(h:SortedR C)(k:Int):SortedR (delR C k):=by
 unfold SortedR at *
 induction C with
 | nil=>exact h
 | cons y C ih=>
  rw[List.pairwise_cons]at h
  unfold delR
  split
  ·exact h.2
  ·exact List.pairwise_cons.2 ⟨λz hz=>h.1 z (mem_delR hz),ih h.2⟩
theorem get_insR(C:List Row)(c:Row)(k:Int):getR (insR C c) k=if c.key=k then some c.val else getR C k:=by
 unfold getR
 induction C with
 | nil=>by_cases h:c.key=k<;>simp[insR,h]
 | cons y C ih=>
  unfold insR
  split
  ·by_cases h1:y.key=k
   ·have:c.key≠k:=by omega
    simp[h1,this]
   ·simp only[List.find?_cons,h1,decide_false];exact ih
  ·split
   ·rename_i he
    by_cases h1:c.key=k
    ·simp[h1]
    ·have:y.key≠k:=by omega
     simp[h1,this]
   ·by_cases h1:c.key=k<;>simp[h1]
theorem get_delR{C:List Row}(hs:SortedR C)(k0 k:Int):getR (delR C k0) k=if k0=k then none else getR C k:=by
 unfold getR SortedR at *
 induction C with
 | nil=>simp[delR]
 | cons y C ih=>
  rw[List.pairwise_cons]at hs
  unfold delR
  split
  ·rename_i he
   by_cases h1:k0=k
   ·subst h1
    have:C.find? (λc=>decide (c.key=k0))=none:=by
     rw[List.find?_eq_none];intro z hz;have:=hs.1 z hz;simp;omega
    simp[this]
   ·have:¬y.key=k:=by omega
    simp[h1,this]
  ·rename_i he
   have ih':=ih hs.2
   by_cases h1:y.key=k
   ·have:¬k0=k:=by omega
    simp[h1,this]
   ·simp only[List.find?_cons,h1,decide_false];exact ih'
theorem length_insR(C:List Row)(c:Row):(insR C c).length≤C.length+1:=by
 induction C with
 | nil=>simp[insR]
 | cons y C ih=>
  unfold insR
  split
  ·simp;omega
  ·split<;>simp
theorem length_delR(C:List Row)(k:Int):(delR C k).length≤C.length:=by
 induction C with
 | nil=>exact Nat.le_refl _
 | cons y C ih=>unfold delR;split<;>simp;omega
theorem len_app(t:Int)(C:List Row)(c:Chg):(appR t C c).length≤C.length+1:=by
 unfold appR
 have:=length_insR C ⟨c.key,c.val⟩
 have:=length_delR C c.key
 split
 ·split<;>omega
 ·omega
theorem len_foldl{l:List Chg}:∀(C:List Row) (t:Int),(l.foldl (appR t) C).length≤C.length+l.length:=by
 induction l with
 | nil=>intro C t;simp
 | cons c l ih=>intro C t;have:=ih (appR t C c) t;have:=len_app t C c;simp only[List.foldl_cons,List.length_cons];omega
def heldN(k:Int)(most:Nat):Nat:=(min (max k 0) (most:Int)).toNat
end Go.Proofs.YtfenmffiidchcaaGreat
namespace Go.Proofs.YtfenmffiidchcaaGreat
set_option linter.unusedVariables false
set_option maxRecDepth 100000
open Go.RowKit
def mayCh(c:Chg)(k:Int):Bool:=decide (0≤c.table∧c.table<k∧1≤c.key∧c.key≤1099511627776∧c.val.size≤32∧(c.gone=true→c.val=emp))
theorem qa(c:Chg)(k:Int):SP 181 [agg (encChg c),.int .i64 k] [] (Gives (.bool (mayCh c k)) []):=by
 intro W F w hS;apply vc181;unfold Vc181;(try simp only[app]at hS)
 refine zJ hS λb w hS=>?_
 unfold encChg at hS
 have hF:∀{w:World},¬(0≤c.table∧c.table<k∧1≤c.key∧c.key≤1099511627776∧c.val.size≤32)→SL W (.pt b [.int .i64 c.table,.int .i64 c.key,.bool c.gone,.string c.val] 82::F) w →
   ∃post,Gives (.bool (mayCh c k)) [] (.bool false) post∧SL W (app post F) w:=λh hS=>⟨_,⟨by rw[show mayCh c k=false by unfold mayCh;rw[decide_eq_false_iff_not];exact λk=>h ⟨k.1,k.2.1,k.2.2.1,k.2.2.2.1,k.2.2.2.2.1⟩],rfl⟩,SL.into hS Xi⟩
 (repeat (first|refine Gp ?_|refine Gw λw hS=>?_|refine zc (λ_=>hF (by omega) hS) (λ_=>?_)|refine zc (λ_=>?_) (λ_=>hF (by omega) hS)))
 have e:mayCh c k=decide (c.gone=true→c.val=emp):=by
  unfold mayCh
  rw[decide_eq_decide]
  exact⟨λh=>h.2.2.2.2.2,λh=>⟨by omega,by omega,by omega,by omega,by omega,h⟩⟩
 rw[e]
 refine yZ (λh=>?_) (λh=>?_)
 ·refine Gp ?_
  rw[h]
  have e2:decide (true=true→c.val=emp) = !decide (c.val≠{data:=#[]}):=by
   rw[Bool.eq_iff_iff];simp[emp]
  rw[e2]
  (exact⟨_,⟨rfl,rfl⟩,SL.into hS Xi⟩)
 ·refine Gp ?_
  rw[h,decide_eq_true (by simp)]
  (exact⟨_,⟨rfl,rfl⟩,SL.into hS Xi⟩)
def inF(x:PFd):Prop:=(x.kind=1∧0≤x.n∧x.n<1152921504606846976∧x.s=emp)∨(x.kind=2∧x.n=0∧x.s.size≤4096)
theorem inF.right{x:PFd}(h:inF x):rightF x=true:=by
 unfold rightF
 rcases h with ⟨h1,_,_,h2⟩|⟨h1,h2,h3⟩
 ·rw[if_pos h1,h2];rfl
 ·rw[if_neg (by omega),if_pos h1,decide_eq_true h2,decide_eq_true h3];rfl
theorem numB_2{n:Nat}(h:n<65536):bigN (numB n 2)=n:=by
 have f:∀k,((n:Int).fdiv (2 ^ (8*k)))=((n / 2 ^ (8*k):Nat):Int):=λk=>by
  have:=fdiv_nat n (2 ^ (8*k)) (Nat.two_pow_pos _)
  rw[← this];push_cast;rfl
 unfold numB numB numB
 simp only[f,bigN,List.foldl_cons,List.foldl_nil,lowB_nat,show (2:Nat) ^ (8*1)=256 from rfl,show (2:Nat) ^ (8*0)=1 from rfl]
 omega
theorem decG_enc:∀(l acc:List PFd),(∀x∈l,inF x)→decG acc l.length ⟨(l.map encF).flatten,0⟩= .ok (acc++l)
 | [],acc,_=>by
  rw[List.map_nil,List.flatten_nil,List.length_nil,decG_zero,if_neg (by simp),List.append_nil]
 | x::l,acc,h=>by
  have hx:=h x (.head _)
  have ih:=decG_enc l (acc++[x]) λy hy=>h y (.tail _ hy)
  obtain⟨kind,n,s⟩:=x
  rw[List.map_cons,List.flatten_cons,List.length_cons]
  rcases hx with ⟨h1,h2,h3,h4⟩|⟨h1,h2,h3⟩
  ·have h1:kind=1:=h1
   have h4:s=emp:=h4
   subst h1 h4
   obtain⟨m,rfl⟩:=Int.eq_ofNat_of_zero_le h2
   have hm:m<1152921504606846976:=by have h3:(m:Int)<1152921504606846976:=h3;omega
   have e:encF ⟨1,(m:Int),emp⟩=lowB 1::numB (m:Int) 8:=by
    show lowB 1::numB ((m:Int) % 18446744073709551616) 8=_
    rw[show (m:Int) % 18446744073709551616=(m:Int) by omega]
   have hl:=numB_len (m:Int) 8
   rw[e,List.cons_append,decG_one (by decide),if_neg (by rw[List.length_append,hl];omega),List.take_left' hl,List.drop_left' hl,numB_8 hm,sig,if_pos (by omega)]
   rw[List.append_assoc]at ih
   exact ih
  ·have h1:kind=2:=h1
   have h2:n=0:=h2
   have h3:s.size≤4096:=h3
   subst h1 h2
   have e:encF ⟨2,0,s⟩=lowB 2::(numB (s.size:Nat) 2++s.data.toList):=rfl
   have hl:=numB_len (s.size:Int) 2
   have hs:s.data.toList.length=s.size:=rfl
   rw[e,List.cons_append,List.append_assoc,decG_two (by decide),if_neg (by rw[List.length_append,hl];omega),List.take_left' hl,List.drop_left' hl,numB_2 (by omega),if_neg (by omega),
    if_neg (by rw[List.length_append,List.length_append,hl];omega),List.take_left' hs,List.drop_left' hs]
   rw[List.append_assoc]at ih
   exact ih
theorem decF_enc{l:List PFd}(hl:l.length≤32767)(h:∀x∈l,inF x):encFs l= .ok (numB l.length 2++(l.map encF).flatten)∧decF (numB l.length 2++(l.map encF).flatten)= .ok l:=by
 have h2:=numB_len (l.length:Int) 2
 have hb:=numB_2 (n:=l.length) (by omega)
 refine⟨?_,?_⟩
 ·unfold encFs
  rw[if_neg (by omega),if_pos (List.all_eq_true.2 λx hx=>(h x hx).right)]
 ·have ht:(numB (l.length:Int) 2++(l.map encF).flatten).take 2=numB l.length 2:=List.take_left' h2
  have hd:(numB (l.length:Int) 2++(l.map encF).flatten).drop 2=(l.map encF).flatten:=List.drop_left' h2
  rw[decF_go (by rw[List.length_append,h2];omega) (by rw[ht,hb];omega),ht,hd,hb,decG_enc l [] h,List.nil_append]
theorem bitI_rng(b:Bool):0≤bitI b∧bitI b≤1:=by cases b<;>decide
theorem inF_i{n:Int}(h:0≤n∧n≤1099511627776):inF (iF n):=.inl ⟨rfl,h.1,by show n<_;omega,rfl⟩
theorem flat_const{α β:Type}{f:α→List β}{k:Nat}(h:∀x,(f x).length=k):∀l:List α,((l.map f).flatten).length=l.length*k
 | []=>by simp
 | x::l=>by rw[List.map_cons,List.flatten_cons,List.length_append,h,flat_const h l,List.length_cons,Nat.succ_mul,Nat.add_comm]
theorem smallP_ok{m n:Int}{l:List PFd}(h:0≤n∧n≤m):smallP m ⟨iF n::l,false⟩=(n,⟨l,false⟩):=by
 have e:intP ⟨iF n::l,false⟩=(n,⟨l,false⟩):=rfl
 unfold smallP
 rw[e,if_neg (by show ¬(n<0∨m<n);omega)]
theorem bitP_ok{b:Bool}{l:List PFd}:bitP ⟨iF (bitI b)::l,false⟩=(b,⟨l,false⟩):=by
 unfold bitP
 rw[smallP_ok (bitI_rng b)]
 cases b<;>rfl
theorem manyP_ok{α:Type}{one:PRd→α × PRd}{f:α→List PFd}:∀(xs:List α) (l:List PFd),(∀x∈xs,∀l,one ⟨f x++l,false⟩=(x,⟨l,false⟩))→manyP one xs.length ⟨(xs.map f).flatten++l,false⟩=(xs,⟨l,false⟩)
 | [],l,_=>rfl
 | x::xs,l,h=>by
  have ih:=manyP_ok xs l λy hy=>h y (.tail _ hy)
  have h1:=h x (.head _) ((xs.map f).flatten++l)
  rw[List.map_cons,List.flatten_cons,List.append_assoc,List.length_cons,manyP,if_neg (by simp),h1,ih]
theorem encF_int(n:Int):(encF (iF n)).length=9:=by
 show (lowB 1::numB (unsig n) 8).length=9
 rw[List.length_cons,numB_len]
theorem flat_le{α β:Type}{f:α→List β}{k:Nat}:∀l:List α,(∀x∈l,(f x).length≤k)→((l.map f).flatten).length≤l.length*k
 | [],_=>by simp
 | x::l,h=>by
  have h1:=h x (.head _)
  have ih:=flat_le l λy hy=>h y (.tail _ hy)
  rw[List.map_cons,List.flatten_cons,List.length_append,List.length_cons,Nat.succ_mul]
  omega
theorem encFd_flat(l:List (List PFd)):(l.flatten.map encF).flatten=(l.map λx=>(x.map encF).flatten).flatten:=by
 induction l with
 | nil=>rfl
 | cons x l ih=>simp only[List.flatten_cons,List.map_append,List.flatten_append,List.map_cons,ih]
end Go.Proofs.YtfenmffiidchcaaGreat

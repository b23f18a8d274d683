/-
  Texts of the proof, joined: Sl6, BStr, FldS, FldS2, PieceS, GMod, FMod, BatchS, ItemE.
-/
import Derived.Test.YtfenmffiidchcaaGreatJ5
import Derived.Laws.BytesString
import Derived.Test.YtfenmffiidchcaaGreatQVcS
namespace Go.Proofs.YtfenmffiidchcaaGreat
set_option linter.unusedVariables false
open Go.RowKit
section
variable {W w:World} {l:List Chunk} {P:Program}
theorem UO{t:TypeId}{s:ByteArray}{j:Nat}{k:IntKind}{K:Value->Prop}(ht:P.underlying t=some .string)(hj:j<s.size)(h:K (.int .u8 (s[j]).toNat)):jZ P (Instr.index t (.string s) (.int k (j:Int))) w K:=by
 refine⟨_,?_,h⟩
 have:s[j]?=some s[j]:=by simp[hj]
 simp[Instr.index,asIntOf,run_underlying ht,Result.andThen,this]
theorem YO{src dst e:TypeId}{b:Nat}{n:Int}{cap:Nat}{t:TypeId}{K:Value->Prop}(hS:SL W l w)(hm:Has (.pt b [.int .u8 n] t) l)(h1:P.underlying src=some (.slice e))(h2:P.underlying dst=some .string)(h3:P.underlying e=some (.int .u8))
  (h:K (.string ⟨#[UInt8.ofNat n.toNat]⟩)):jZ P (convert src dst (.slice (some ⟨b,0,none⟩) 1 cap)) w K:=by
 refine⟨_,?_,h⟩
 have hc:w.cell? ⟨b,0,none⟩=some (.int .u8 n):=hS.cell hm rfl
 have hl:(loadCells ⟨b,0,none⟩ 1).run P w= .ok ([n].map (Value.int .u8)).toArray w:=by
  refine run_loadCells_list (P:=P) (w:=w) ⟨b,0,none⟩ [.int .u8 n] (λj v hj=>?_)
  match j,hj with
  | 0,hj=>
   simp at hj;subst hj
   rw[Addr.add_lit];exact hc
 have:=run_bytesToString (P:=P) w ⟨b,0,none⟩ 1 cap [n] hl
 simp[convert,run_underlying h1,run_underlying h2,run_underlying h3,Result.andThen,this]
 rfl
theorem Q6{a b:ByteArray}{K:Value->Prop}(hr:a.size+b.size<=1000000)(h:K (.string (a++b))):zc .add (.string a) (.string b) K:=by
 refine⟨_,?_,h⟩
 have hm:IntKind.i64.max=9223372036854775807:=by decide
 simp only[mK]
 rw[if_neg (by rw[hm];omega)]
end
set_option maxRecDepth 100000
def jz(bs:List UInt8):ByteArray:=⟨bs.toArray⟩
theorem DP{a b:List UInt8}:jz a=jz b↔a=b:=by
 constructor
 ·intro h
  have:=congrArg ByteArray.data h
  exact List.toArray_inj this
 ·rintro rfl;rfl
theorem oz(a:List UInt8):(jz a).size=a.length:=by simp[jz,ByteArray.size]
theorem fold_push:∀(bs:List UInt8) (s:ByteArray),(bs.map λb=>(b.toNat:Int)).foldl (λr n=>r.push (UInt8.ofNat n.toNat)) s=⟨s.data++bs.toArray⟩
 | [],s=>by cases s;simp
 | b::bs,s=>by
  simp only[List.map_cons,List.foldl_cons]
  rw[fold_push bs]
  cases s;simp[ByteArray.push]
section
variable {W w:World} {l:List Chunk} {P:Program}
theorem Yi{src dst e:TypeId}{v:Value}{bs:List UInt8}{K:Value->Prop}(hv:∃a n c,v= .slice a n c)(lC:m8 w 1 v bs.length (bs.map fI))(h1:P.underlying src=some (.slice e))(h2:P.underlying dst=some .string)(h3:P.underlying e=some (.int .u8))
  (h:K (.string (jz bs))):jZ P (convert src dst v) w K:=by
 refine⟨_,?_,h⟩
 obtain⟨a,n,c,rfl⟩:=hv
 rw[run_convert_bytes_string w src dst e a n c h1 h3 h2]
 cases a with
 | none=>
  obtain⟨e1,e2⟩:=lC
  have:bs=[]:=by simpa using e2
  subst this
  rfl
 | some p=>
  obtain⟨e1,e2,e3⟩:=lC
  subst e1
  have hl:(loadCells p bs.length).run P w= .ok ((bs.map λb=>(b.toNat:Int)).map (Value.int .u8)).toArray w:=by
   have h4:=run_loadCells_list (P:=P) (w:=w) p (bs.map fI) e3
   rw[List.length_map]at h4
   rw[h4,List.map_map];rfl
  rw[run_bytesToString w p bs.length c _ hl,fold_push]
  simp[jz]
end
abbrev pH(rp:Nat)(r:mg)(v:Value):Chunk:=.pt rp [v,.int .i64 r.e] 327
theorem TJ(n:Nat)(r:mg):(kY n r).1.length<=n/\(kY n r).1.length<=r.b.length/\(kY n r).2.b.length<=r.b.length:=by
 unfold kY
 split
 ·simp
 ·split
  ·simp
  ·simp only[List.length_take,List.length_drop];omega
def VE(X:Chunk)(rp n:Nat)(r:mg)(u:Value)(post:List Chunk):Prop:=∃v',ix X u (kY n r).1/\ix X v' (kY n r).2.b/\post=[pH rp (kY n r).2 v',X]
theorem YJ(X:Chunk)(rp n:Nat)(v:Value)(r:mg)(hv:ix X v r.b):SP 296 [.pointer (some ⟨rp,0,none⟩),.int .i64 n] [pH rp r v,X] (VE X rp n r):=by
 intro W F w hS;apply dFy;delta M4 aF bF fR ai bR;(try simp only[app]at hS)
 have mn:=hv.one hS Xh
 refine⟨λvs w=>vs=[]/\∃e,e=(if r.e=0/\r.b.length<n then 2 else r.e)/\SL W (.pt rp [v,.int .i64 e] 327::X::F) w,?_,?_⟩
 ·refine b9 (λh=>?_) (λh=>?_)
  ·refine Gp ?_
   refine zM hS Xh hv ?_
   refine b9 (λh2=>?_) (λh2=>?_)
   ·refine Gn λw hS=>?_
    exact⟨2,by rw[if_pos ⟨h,by omega⟩],hS⟩
   ·refine⟨rfl,_,rfl,?_⟩
    rw[if_neg (by omega)];exact hS
  ·refine⟨rfl,_,rfl,?_⟩
   rw[if_neg (by omega)];exact hS
 ·rintro w ⟨_,e,he,hS⟩
  refine Gp ?_
  by_cases h1:r.e=0
  ·by_cases h2:r.b.length<n
   ·rw[if_pos ⟨h1,h2⟩]at he
    subst he
    refine za (λ_=>?_) (λh=>absurd (by decide) h)
    have e1:kY n r=([],{r with e:=2}):=by unfold kY;rw[if_neg (by simp[h1]),if_pos h2]
    refine⟨_,⟨v,?_,?_,rfl⟩,?_⟩
    ·rw[e1];exact ix.nil
    ·rw[e1];exact hv
    ·rw[e1];exact hS
   ·rw[if_neg (by omega),h1]at he
    subst he
    refine za (λh=>absurd rfl h) (λ_=>?_)
    have e1:kY n r=(r.b.take n,{r with b:=r.b.drop n}):=by unfold kY;rw[if_neg (by simp[h1]),if_neg h2]
    refine Gp ?_
    refine ZZ hS Xh hv (by omega) ?_
    intro u hu
    refine Gp ?_
    refine qj hS Xh hv (by omega) ?_
    intro v' oW
    have eFm:=oW.one hS Xh
    refine Gn λw hS=>?_
    refine⟨_,⟨v',?_,?_,rfl⟩,?_⟩
    ·rw[e1];exact hu
    ·rw[e1];exact oW
    ·rw[e1];simp only[h1];exact hS
  ·rw[if_neg (by omega)]at he
   subst he
   refine za (λ_=>?_) (λh=>absurd h1 h)
   have e1:kY n r=([],r):=by unfold kY;rw[if_pos h1]
   refine⟨_,⟨v,?_,?_,rfl⟩,?_⟩
   ·rw[e1];exact ix.nil
   ·rw[e1];exact hv
   ·rw[e1];exact hS
theorem T7{a b:Nat}(ha:a<18446744073709551616)(hb:b<18446744073709551616):mK .or (.int .u64 (a:Int)) (.int .u64 (b:Int))=some (.int .u64 ((a ||| b:Nat):Int)):=by
 have h:(a ||| b)<18446744073709551616:=Nat.or_lt_two_pow (n:=64) ha hb
 simp only[mK,if_true]
 congr 2
 have e1:(BitVec.ofInt IntKind.u64.bits (a:Int))=BitVec.ofNat 64 a:=BitVec.ofInt_natCast 64 a
 have e2:(BitVec.ofInt IntKind.u64.bits (b:Int))=BitVec.ofNat 64 b:=BitVec.ofInt_natCast 64 b
 rw[e1,e2]
 have e3:(BitVec.ofNat 64 a ||| BitVec.ofNat 64 b).toNat=a ||| b:=by
  rw[BitVec.toNat_or,BitVec.toNat_ofNat,BitVec.toNat_ofNat,Nat.mod_eq_of_lt (by omega),Nat.mod_eq_of_lt (by omega)]
 show IntKind.u64.wrap (((BitVec.ofNat 64 a ||| BitVec.ofNat 64 b).toNat:Nat):Int)=_
 rw[e3,wrap_u64 (by omega) (by omega)]
theorem cwh{x:Nat}{c:UInt8}{K:Value->Prop}(h:K (.int .u64 (((x*256+c.toNat) % 18446744073709551616:Nat):Int))):
  zc .shl (.int .u64 (x:Int)) (.int .u64 8) λv=>zG .u64 (fI c) λy=>zc .or v y K:=by
 have hc:=c.toNat_lt
 refine⟨.int .u64 (((x*256) % 18446744073709551616:Nat):Int),?_,?_⟩
 ·show (if (8:Int)<0 then none else some (Value.int .u64 (IntKind.u64.wrap ((x:Int)*2 ^ (min (8:Int).toNat IntKind.u64.bits)))))=_
  rw[if_neg (by omega)]
  congr 2
 ·refine zO ?_
  rw[wrap_u64 (by omega) (by omega)]
  refine⟨_,T7 (by omega) (by omega),?_⟩
  have e:(x*256) % 18446744073709551616=((x*256) % 18446744073709551616 / 256) <<< 8:=by rw[Nat.shiftLeft_eq];omega
  have e2:(x*256) % 18446744073709551616 ||| c.toNat=(x*256+c.toNat) % 18446744073709551616:=by
   rw[e,<- Nat.shiftLeft_add_eq_or_of_lt (show c.toNat<2 ^ 8 by omega),Nat.shiftLeft_eq];omega
  rw[e2];exact h
theorem Gd{b:List UInt8}{i:Nat}(h:i<b.length):j5 (b.take (i+1))=(j5 (b.take i)*256+b[i].toNat) % 18446744073709551616:=by
 rw[show b.take (i+1)=b.take i++[b[i]] by rw[List.take_add_one];simp[h]]
 exact WA _ _ _ rfl
def VF(X:Chunk)(rp n:Nat)(r:mg)(u:Value)(post:List Chunk):Prop:=∃v',u= .int .u64 ((kj n r).1:Nat)/\ix X v' (kj n r).2.b/\post=[pH rp (kj n r).2 v',X]
theorem ZC(X:Chunk)(rp n:Nat)(v:Value)(r:mg)(hv:ix X v r.b)(hn:n<=1000):SP 295 [.pointer (some ⟨rp,0,none⟩),.int .i64 n] [pH rp r v,X] (VF X rp n r):=by
 intro W F w hS;apply dFx;delta M3 aF ai;(try simp only[app]at hS)
 refine Cc (YJ X rp n v r hv) ?_;clear hS
 rintro u post ⟨v',hu,oW,rfl⟩ w hS;(try simp only[app]at hS)
 have hl:=TJ n r
 refine zM hS Xh hu ?_
 refine⟨λvs w=>∃i:Nat,i<=(kY n r).1.length/\vs=[.int .u64 (j5 ((kY n r).1.take i):Nat),.int .i64 i]/\SL W (pH rp (kY n r).2 v'::X::F) w,λvs _=>match vs with
  | [_,.int _ i]=>(kY n r).1.length-i.toNat
  | _=>0,⟨0,by omega,rfl,hS⟩,?_⟩
 rintro v1 v2 w1 ⟨i,hi,hv,hS⟩
 cases hv
 refine b9 (λh=>?_) (λh=>?_)
 ·have hi:i<(kY n r).1.length:=by omega
  refine yL hS Xh hu hi ?_
  refine cwh ?_
  refine Gp ?_
  refine⟨⟨i+1,by omega,?_,hS⟩,?_⟩
  ·rw[Gd hi]
  ·simp only[Int.toNat_natCast];omega
 ·have:(kY n r).1.take i=(kY n r).1:=List.take_of_length_le (by omega)
  rw[this]
  exact⟨_,⟨v',rfl,oW,rfl⟩,hS⟩
theorem BP:∀(n:Nat) (b:List UInt8),b.length=n->j5 b<256 ^ n
 | 0,b,h=>by
  have:b=[]:=List.eq_nil_of_length_eq_zero h
  subst this;decide
 | n+1,b,h=>by
  have h1:=BP n (b.take n) (by rw[List.length_take];omega)
  have h2:=Gd (b:=b) (i:=n) (by omega)
  rw[List.take_of_length_le (by omega)]at h2
  have hc:=(b[n]'(by omega)).toNat_lt
  have h3:=Nat.mod_le (j5 (b.take n)*256+(b[n]'(by omega)).toNat) 18446744073709551616
  rw[h2,Nat.pow_succ]
  omega
theorem IF(n:Nat)(r:mg):(kj n r).1<256 ^ n:=by
 have h1:=BP _ _ (rfl:(kY n r).1.length=_)
 have h2:=(TJ n r).1
 exact Nat.lt_of_lt_of_le h1 (Nat.pow_le_pow_right (by omega) h2)
def VD(X:Chunk)(rp m:Nat)(r:mg)(u:Value)(post:List Chunk):Prop:=∃v',u= .int .i64 ((kF m r).1:Nat)/\ix X v' (kF m r).2.b/\post=[pH rp (kF m r).2 v',X]
theorem YI(X:Chunk)(rp m:Nat)(v:Value)(r:mg)(hv:ix X v r.b)(hm:m<=100000):SP 236 [.pointer (some ⟨rp,0,none⟩),.int .i64 m] [pH rp r v,X] (VD X rp m r):=by
 intro W F w hS;apply dwd;delta L8 aF fR ai;(try simp only[app]at hS)
 refine Cc (ZC X rp 2 v r hv (by omega)) ?_;clear hS
 rintro u post ⟨v',rfl,oW,rfl⟩ w hS;(try simp only[app]at hS)
 have iZ:=IF 2 r
 refine yl (by omega) ?_
 refine b9 (λh=>?_) (λh=>?_)
 ·refine Gn λw hS=>?_
  have e:kF m r=(0,{(kj 2 r).2 with e:=3}):=by unfold kF;rw[if_pos (by omega)]
  refine⟨_,⟨v',?_,?_,rfl⟩,?_⟩
  ·rw[e];rfl
  ·rw[e];exact oW
  ·rw[e];exact hS
 ·have e:kF m r=kj 2 r:=by unfold kF;rw[if_neg (by omega)]
  refine⟨_,⟨v',?_,?_,rfl⟩,?_⟩
  ·rw[e]
  ·rw[e];exact oW
  ·rw[e];exact hS
theorem TH(m:Nat)(r:mg):(kF m r).1<=m:=by
 unfold kF
 split
 ·exact Nat.zero_le _
 ·rename_i h;exact Nat.not_lt.1 h
theorem UT{n:Nat}(h:n<18446744073709551616):IntKind.i64.wrap (n:Int)=sig n:=by
 rw[IntKind.wrap_i64,sig]
 split<;>omega
def VB(X:Chunk)(rp:Nat)(r:mg)(u:Value)(post:List Chunk):Prop:=∃v',u= .agg (iR (k9 r).1).toArray/\ix X v' (k9 r).2.b/\post=[pH rp (k9 r).2 v',X]
theorem Qy(X:Chunk)(rp:Nat)(v:Value)(r:mg)(hv:ix X v r.b):SP 237 [.pointer (some ⟨rp,0,none⟩)] [pH rp r v,X] (VB X rp r):=by
 intro W F w hS;apply dwe;delta L9 aF bF fR ai dw;(try simp only[app]at hS)
 refine Gm λb w hS=>?_
 refine Cc (ZC X rp 1 v r hv (by omega)) ?_;clear hS
 rintro u post ⟨v1,rfl,n3,rfl⟩ w hS;(try simp only[app]at hS)
 have iZ:=IF 1 r
 refine yl (by omega) ?_
 refine b9 (λh=>?_) (λh=>?_)
 ·refine Cc (ZC X rp 8 v1 (kj 1 r).2 n3 (by omega)) ?_;clear hS
  rintro u post ⟨v2,rfl,ni,rfl⟩ w hS;(try simp only[app]at hS)
  have eFh:=IF 8 (kj 1 r).2
  refine zO ?_
  rw[UT (by omega),h]
  have e:k9 r=(⟨1,sig (kj 8 (kj 1 r).2).1,⟨#[]⟩⟩,(kj 8 (kj 1 r).2).2):=by
   unfold k9;rw[if_pos (by omega)]
  refine Gn λw hS=>?_
  refine⟨[pH rp (k9 r).2 v2,X],⟨v2,?_,?_,rfl⟩,?_⟩
  ·rw[e];rfl
  ·rw[e];exact ni
  ·rw[e];exact aR hS
 ·refine b9 (λh2=>?_) (λh2=>?_)
  ·refine Cc (YI X rp 4096 v1 (kj 1 r).2 n3 (by omega)) ?_;clear hS
   rintro u post ⟨v2,rfl,ni,rfl⟩ w hS;(try simp only[app]at hS)
   refine Cc (YJ X rp (kF 4096 (kj 1 r).2).1 v2 (kF 4096 (kj 1 r).2).2 ni) ?_;clear hS
   rintro u post ⟨v3,hu,HY,rfl⟩ w hS;(try simp only[app]at hS)
   obtain⟨au,cu,eu,_⟩:=hu.sl hS Xh
   refine Yi ⟨_,_,_,eu⟩ (hu.src hS Xh) Tryz.underlying62 Tryz.underlying9 Tryz.underlying5 ?_
   rw[h2]
   have e:k9 r=(⟨2,0,jz (kY (kF 4096 (kj 1 r).2).1 (kF 4096 (kj 1 r).2).2).1⟩,(kY (kF 4096 (kj 1 r).2).1 (kF 4096 (kj 1 r).2).2).2):=by
    unfold k9 jz;rw[if_neg (by omega),if_pos (by omega)]
   refine Gn λw hS=>?_
   refine⟨[pH rp (k9 r).2 v3,X],⟨v3,?_,?_,rfl⟩,?_⟩
   ·rw[e];rfl
   ·rw[e];exact HY
   ·rw[e];exact aR hS
  ·refine Gp ?_
   have e:k9 r=(uG,if (kj 1 r).2.e=0 then {(kj 1 r).2 with e:=3} else (kj 1 r).2):=by
    unfold k9;rw[if_neg (by omega),if_neg (by omega)]
   refine za (λh3=>?_) (λh3=>?_)
   ·rw[if_pos h3]at e
    refine Gn λw hS=>?_
    refine⟨[pH rp (k9 r).2 v1,X],⟨v1,?_,?_,rfl⟩,?_⟩
    ·rw[e];rfl
    ·rw[e];exact n3
    ·rw[e];exact aR hS
   ·rw[if_neg h3]at e
    refine Gn λw hS=>?_
    refine⟨[pH rp (k9 r).2 v1,X],⟨v1,?_,?_,rfl⟩,?_⟩
    ·rw[e];rfl
    ·rw[e];exact n3
    ·rw[e];exact aR hS
theorem p7(x:ie):(iR x).length=3:=rfl
theorem P':∀(i:Nat) (r:mg),(k_ i r).1.length<=i
 | 0,r=>Nat.le_refl _
 | i+1,r=>by
  unfold k_
  split
  ·have:=P' i (k9 r).2
   simp only[List.length_cons];omega
  ·exact Nat.zero_le _
def uC(r:mg):Int:=if r.e=0 then if 0<r.b.length then 3 else 0 else r.e
theorem BR(b:List UInt8):lL b=if uC (k_ (kF 32767 ⟨b,0⟩).1 (kF 32767 ⟨b,0⟩).2).2=0 then .ok (k_ (kF 32767 ⟨b,0⟩).1 (kF 32767 ⟨b,0⟩).2).1 else .error (uC (k_ (kF 32767 ⟨b,0⟩).1 (kF 32767 ⟨b,0⟩).2).2):=rfl
def se(X:Chunk)(b:List UInt8)(u:Value)(post:List Chunk):Prop:=match lL b with
 | .error e=>u= .tuple #[.slice none 0 0,.int .i64 e]/\post=[X]
 | .ok l=>∃v,u= .tuple #[v,.int .i64 0]/\post=[.ob (bI v 174 3 l.length (l.map iR).flatten),X]
theorem D3(x:ie):∀v∈iR x,v.oneCell'=true:=λv hv=>by
 simp only[iR,List.mem_cons,List.not_mem_nil,or_false]at hv
 rcases hv with rfl|rfl|rfl<;>rfl
theorem y4(X:Chunk)(v:Value)(b:List UInt8)(hv:ix X v b):SP 157 [v] [X] (se X b):=by
 intro W F w hS;apply cR7;delta KP aF bF fR aW d_ ai dw bR;(try simp only[app]at hS)
 obtain⟨a0,c0,rfl,_⟩:=hv.sl hS .hd
 refine yz rfl ?_
 refine⟨_,rfl,zI hS ?_⟩
 clear hS;intro rp w hS
 generalize hm:kF 32767 ⟨b,0⟩=m
 refine⟨λvs w=>∃u v',vs=[u]/\ix X v' (k_ m.1 m.2).2.b/\SL W (.ob (bI u 174 3 (k_ m.1 m.2).1.length ((k_ m.1 m.2).1.map iR).flatten)::pH rp (k_ m.1 m.2).2 v'::X::F) w,?_,?_⟩
 ·have hS:SL W (pH rp ⟨b,0⟩ (.slice a0 b.length c0)::X::F) w:=hS
  refine Cc (YI X rp 32767 _ ⟨b,0⟩ hv (by omega)) ?_;clear hS
  rintro u post ⟨v1,rfl,n3,rfl⟩ w hS;(try simp only[app]at hS)
  rw[hm]at hS n3 ⊢
  have hle:m.1<=32767:=by rw[<- hm];exact TH _ _
  have hS:=bI.nil (t:=174) (sz:=3) hS
  refine⟨λvs w=>∃(u v':Value) (xs:List ie) (i:Nat) (r:mg),vs=[u,.int .i64 i]/\xs.length+i=m.1/\k_ m.1 m.2=(xs++(k_ i r).1,(k_ i r).2)/\ix X v' r.b/\SL W (.ob (bI u 174 3 xs.length (xs.map iR).flatten)::pH rp r v'::X::F) w,λvs _=>match vs with
   | [_,.int _ i]=>i.toNat
   | _=>0,⟨_,v1,[],m.1,m.2,rfl,by simp,by simp,n3,hS⟩,?_⟩
  rintro u1 u2 w1 ⟨u,v',xs,i,r,hv,hx,hf,hr,hS⟩
  cases hv
  refine b9 (λh=>?_) (λh=>?_)
  ·refine Gp ?_
   obtain⟨j,rfl⟩:∃j,i=j+1:=⟨i-1,by omega⟩
   refine za (λh2=>?_) (λh2=>?_)
   ·refine Cc (Qy X rp v' r hr) ?_;clear hS
    rintro u5 post ⟨v2,rfl,ni,rfl⟩ w hS;(try simp only[app]at hS)
    refine zD (cells:=iR (k9 r).1) hS rfl ?_
    clear hS;intro p w hS
    refine zy (m:=1) (cs:=iR (k9 r).1) hS Xr (lX hS .hd rfl) rfl rfl (D3 _) (by omega) (by omega) ?_
    clear hS;intro u' w hS
    refine Gp ?_
    have e:((j+1:Nat):Int)-1=(j:Int):=by omega
    rw[e]
    refine⟨⟨u',v2,xs++[(k9 r).1],j,(k9 r).2,rfl,by simp;omega,?_,ni,?_⟩,?_⟩
    ·rw[hf]
     have:k_ (j+1) r=((k9 r).1::(k_ j (k9 r).2).1,(k_ j (k9 r).2).2):=by
      show (if r.e=0 then _ else _)=_
      rw[if_pos h2]
     rw[this];simp
    ·simp only[List.length_append,List.length_cons,List.length_nil,List.map_append,List.map_cons,List.map_nil,List.flatten_append,List.flatten_cons,List.flatten_nil,List.append_nil]
     exact aR hS
    ·simp only[Int.toNat_natCast];omega
   ·have:k_ (j+1) r=([],r):=by
     show (if r.e=0 then _ else _)=_
     rw[if_neg h2]
    rw[this,List.append_nil]at hf
    refine⟨u1,v',rfl,?_,?_⟩
    ·rw[hf];exact hr
    ·rw[hf];exact hS
  ·obtain rfl:i=0:=by omega
   have:k_ 0 r=([],r):=rfl
   rw[this,List.append_nil]at hf
   refine⟨u1,v',rfl,?_,?_⟩
   ·rw[hf];exact hr
   ·rw[hf];exact hS
 ·rintro u5 w ⟨u,v',hu,oW,hS⟩
  obtain rfl:u5=u:=(List.cons.inj hu).1
  have hd:=BR b
  rw[hm]at hd
  generalize (k_ m.1 m.2).2=r at *
  generalize (k_ m.1 m.2).1=xs at *
  refine⟨λvs w=>vs=[]/\SL W (.ob (bI u5 174 3 xs.length (xs.map iR).flatten)::.pt rp [v',.int .i64 (uC r)] 327::X::F) w,?_,?_⟩
  ·refine b9 (λh=>?_) (λh=>?_)
   ·refine Gp ?_
    refine zM hS Xh oW ?_
    refine b9 (λh2=>?_) (λh2=>?_)
    ·refine Gn λw hS=>?_
     have e:uC r=3:=by unfold uC;rw[if_pos h,if_pos (by omega)]
     rw[e];exact hS
    ·have e:uC r=r.e:=by unfold uC;rw[if_pos h,if_neg (by omega),h]
     rw[e];exact⟨rfl,hS⟩
   ·have e:uC r=r.e:=by unfold uC;rw[if_neg h]
    rw[e];exact⟨rfl,hS⟩
  ·rintro w ⟨_,hS⟩
   refine b9 (λh=>?_) (λh=>?_)
   ·refine Gn λw hS=>?_
    rw[if_neg h]at hd
    refine⟨[X],?_,aR hS⟩
    unfold se;rw[hd];exact⟨rfl,rfl⟩
   ·have h:uC r=0:=by omega
    rw[if_pos h]at hd
    refine⟨[.ob (bI u5 174 3 xs.length (xs.map iR).flatten),X],?_,aR hS⟩
    unfold se;rw[hd];exact⟨u5,rfl,rfl⟩
theorem UL{a:Int}{n:Nat}{k:IntKind}(hn:n<=64){K:Value->Prop}(h:K (.int .u64 (a.fdiv (2 ^ n)))):zc .shr (.int .u64 a) (.int k (n:Int)) K:=by
 refine⟨.int .u64 (a.fdiv (2 ^ n)),?_,h⟩
 have h1:¬((n:Int)<0):=by omega
 simp only[mK,h1,if_false]
 rw[show min (n:Int).toNat IntKind.u64.bits=n by simp only[IntKind.bits];omega]
theorem ZB(b:List UInt8)(v:Value)(x:Int)(n:Nat)(hn:n<=8)(hb:b.length<=140737488355000):SP 284 [v,.int .u64 x,.int .i64 n] [.ob (bI v 5 1 b.length (b.map fI))] (λu post=>post=[.ob (bI u 5 1 (b++iI x n).length ((b++iI x n).map fI))]):=by
 intro W F w hS;apply dFp;delta MU aF ai;(try simp only[app]at hS)
 refine Gp ?_
 refine⟨λvs w=>∃(u:Value) (c:List UInt8) (k:Nat),vs=[u,.int .i64 ((k:Int)-1)]/\k<=n/\c++iI x k=b++iI x n/\SL W (.ob (bI u 5 1 c.length (c.map fI))::F) w,λvs _=>match vs with
  | [_,.int _ i]=>(i+1).toNat
  | _=>0,⟨v,b,n,rfl,Nat.le_refl _,rfl,hS⟩,?_⟩
 rintro u1 u2 w1 ⟨u,c,k,hv,hk,hc,hS⟩
 cases hv
 refine b9 (λh=>?_) (λh=>?_)
 ·obtain⟨j,rfl⟩:∃j,k=j+1:=⟨k-1,by omega⟩
  have e0:((j+1:Nat):Int)-1=(j:Int):=by omega
  rw[e0]
  refine UG (by omega) ?_
  have e1:(8:Int)*(j:Int)=((8*j:Nat):Int):=by omega
  rw[e1]
  refine UL (by omega) ?_
  refine zO ?_
  rw[wrap_u8]
  refine zD (cells:=[fI (j9 (x.fdiv (2 ^ (8*j))))]) hS rfl ?_
  clear hS;intro p w hS
  have kN:c.length+(j+1)=b.length+n:=by
   have:=congrArg List.length hc
   simpa [mE] using this
  refine zy (m:=1) (cs:=[fI (j9 (x.fdiv (2 ^ (8*j))))]) hS Xr (lX hS .hd rfl) rfl rfl (by intro v hv;simp only[List.mem_singleton]at hv;subst hv;rfl) (by omega) (by omega) ?_
  clear hS;intro u' w hS
  refine Gp ?_
  refine⟨⟨u',c++[j9 (x.fdiv (2 ^ (8*j)))],j,rfl,by omega,?_,?_⟩,?_⟩
  ·rw[<- hc];simp[iI]
  ·simp only[List.length_append,List.length_cons,List.length_nil,List.map_append,List.map_cons,List.map_nil]
   exact aR hS
  ·show ((j:Int)-1+1).toNat<((j:Int)+1).toNat
   omega
 ·obtain rfl:k=0:=by omega
  have e:c=b++iI x n:=by simpa [iI] using hc
  rw[e]at hS
  exact⟨_,rfl,hS⟩
theorem qQ(x:ie):SP 285 [.agg (iR x).toArray] [] (eW (.bool (nm x)) []):=by
 intro W F w hS;apply dFq;delta MV aF a_ cw ai;(try simp only[app]at hS)
 refine⟨iR x,rfl,?_⟩
 unfold iR
 refine Gm λb w hS=>?_
 unfold nm
 refine za (λh=>?_) (λh=>?_)
 ·rw[if_pos h]
  refine Gp ?_
  have e:decide (x.s=({data:=#[]}:ByteArray))=decide (x.s=⟨#[]⟩):=rfl
  exact fw hS
 ·rw[if_neg h]
  refine b9 (λh2=>?_) (λh2=>?_)
  ·rw[if_pos h2]
   refine b9 (λh3=>?_) (λh3=>?_)
   ·refine Gp ?_
    rw[decide_eq_true h3,Bool.true_and]
    have e:decide ((x.s.size:Int)<=4096)=decide (x.s.size<=4096):=by congr 1;exact propext ⟨λ_=>by omega,λ_=>by omega⟩
    rw[e]
    exact fw hS
   ·rw[decide_eq_false h3,Bool.false_and]
    exact fw hS
  ·rw[if_neg h2]
   exact fw hS
theorem Qj{P:Program}{t:TypeId}{fs:Array Field}{f:Field}{i:Nat}{vs:List Value}{v:Value}{w:World}{K:Value->Prop}(ht:P.underlying t=some (.struct fs))(hf:fs[i]?=some f)(ha:∀w,(isAgg f.type).run P w= .ok false w)(hv:vs[f.offset]?=some v)(h:K v):
  jZ P (Instr.field t (.agg vs.toArray) i) w K:=by
 refine⟨_,?_,h⟩
 simp[Instr.field,asAgg,run_underlying ht,Result.andThen,hf,part,ha,hv]
theorem PS(x:ie):∀v∈iR x,v.oneCell'=true:=D3 x
theorem vn(x:ie):(iR x).length=3:=rfl
theorem Zz(b:Nat)(ns:List Int)(t:TypeId)(hn:ns.length<=1000):
  SP 225 [.slice (some ⟨b,0,none⟩) ns.length ns.length] [.pt b (ns.map (Value.int .i64)) t] (λu post=>post=[.ob (bI u 174 3 ns.length ((ns.map iF).map iR).flatten)]):=by
 intro W F w hS;apply c_4;delta LV aF ai dw bR;(try simp only[app]at hS)
 have hS:=bI.nil (t:=174) (sz:=3) hS
 refine Gp ?_
 refine⟨λvs w=>∃(i:Nat) (u:Value),vs=[u,.int .i64 i]/\i<=ns.length/\SL W (.ob (bI u 174 3 i (((ns.take i).map iF).map iR).flatten)::.pt b (ns.map (Value.int .i64)) t::F) w,
  λvs _=>match vs with|[_,.int _ i]=>(ns.length-i).toNat|_=>0,⟨0,_,rfl,by omega,hS⟩,?_⟩
 clear hS
 rintro u v8 w ⟨i,_,jR,hi,hS⟩
 cases jR
 refine b9 (λh=>?_) (λh=>?_)
 ·have b8:i<ns.length:=by omega
  refine zH b8 (ye hS Xh (v:=.int .i64 ns[i]) (by simp[b8]) ?_)
  refine Gm λb w hS=>?_
  refine zX (n:=i) (xs:=(ns.take i).map iF) (y:=iF ns[i]) (enc:=iR) hS Xr Xh vn PS rfl (by omega) (by omega) λv2 w hS=>?_
  refine Gp ?_
  refine⟨⟨i+1,_,rfl,by omega,?_⟩,by dsimp only;omega⟩
  rw[List.take_succ_eq_append_getElem b8,List.map_append (f:=iF),List.map_singleton]
  exact aR hS
 ·have:i=ns.length:=by omega
  subst this
  rw[List.take_length]at hS
  exact⟨_,rfl,aR hS⟩
theorem Yd(s:ByteArray):SP 227 [.string s] [] (eW (agg (iR (tF s))) []):=by
 intro W F w hS;apply c_6;delta LX ai dw;(try simp only[app]at hS)
 refine Gm λb w hS=>?_
 (exact fw hS)
theorem bW0(b:Bool):SP 226 [.bool b] [] (eW (.int .i64 (so b)) []):=by
 intro W F w hS;apply c_5;delta LW ai;(try simp only[app]at hS)
 cases b<;>(repeat (first|refine Gp ?_|refine Gw λw hS=>?_|refine Gb λb w hS=>?_))<;>(exact fw hS)
def kr(rp:Nat)(r:e_):zE:=nr λv:Value=>zU True [.pt rp [v,.bool r.bad] 330,.ob (g8 v 174 3 r.l.length (r.l.map iR).flatten)]
theorem kr.iff{W w:World}{rp:Nat}{r:e_}{l:List Chunk}:SL W (.ob (kr rp r)::l) w↔∃v,SL W (.pt rp [v,.bool r.bad] 330::.ob (g8 v 174 3 r.l.length (r.l.map iR).flatten)::l) w:=by
 unfold kr
 simp only[SL.ex,SL.fact,List.cons_append,List.nil_append,true_and]
theorem Yc(v:Value)(l:List ie):SP 158 [v] [.ob (bI v 174 3 l.length (l.map iR).flatten)] (λu post=>∃rp:Nat,u= .pointer (some ⟨rp,0,none⟩)/\post=[.ob (kr rp ⟨l,false⟩)]):=by
 intro W F w hS;apply cR8;delta KQ bR;(try simp only[app]at hS)
 have h1:=bI.one hS
 obtain⟨a,c,rfl,_⟩:=bI.at hS .hd
 refine Gp ?_
 refine zC hS λb w hS=>?_
 refine⟨_,⟨b,rfl,rfl⟩,(kr.iff (r:=⟨l,false⟩)).2 ⟨.slice a l.length c,?_⟩⟩
 exact (g8.of (hS.perm (.swap _ _ _))).perm (.swap _ _ _)
theorem Yb(rp:Nat)(r:e_)(k:Int):SP 238 [.pointer (some ⟨rp,0,none⟩),.int .i64 k] [.ob (kr rp r)] (eW (agg (iR (oZ k r).1)) [.ob (kr rp (oZ k r).2)]):=by
 obtain⟨l,bad⟩:=r
 intro W F w hS;apply dwf;delta L_ aF bF a_ fR ai dw;(try simp only[app]at hS)
 obtain⟨v,hS⟩:=kr.iff.1 hS
 simp only at hS
 refine Gm λb w hS=>?_
 cases bad with
 | true=>
  refine Gn λw hS=>?_
  have e:oZ k ⟨l,true⟩=(uG,⟨l,true⟩):=by unfold oZ;rfl
  rw[e]
  exact⟨_,⟨rfl,rfl⟩,kr.iff.2 ⟨v,aR hS⟩⟩
 | false=>
  refine Gp ?_
  refine zY hS (v:=v) Xh ?_
  refine Gp ?_
  cases l with
  | nil=>
   refine za (λh=>?_) (λh=>absurd rfl h)
   refine Gn λw hS=>?_
   rw[show oZ k ⟨[],false⟩=(uG,⟨[],true⟩) from rfl]
   exact⟨_,⟨rfl,rfl⟩,kr.iff.2 ⟨v,aR hS⟩⟩
  | cons f l=>
   refine za (λh=>by rw[List.length_cons]at h;omega) (λh=>?_)
   refine Gp ?_
   refine yF (j:=0) (k:=.i64) hS (v:=v) Xh (by simp) λab ao hb=>zW ⟨_,.int .i64 f.kind,rfl,hb 0 _ (by decide) rfl,?_⟩
   refine b9 (λhk=>?_) (λhk=>?_)
   ·refine Gn λw hS=>?_
    have e:oZ k ⟨f::l,false⟩=(uG,⟨f::l,true⟩):=by unfold oZ;exact if_neg hk
    rw[e]
    exact⟨_,⟨rfl,rfl⟩,kr.iff.2 ⟨v,aR hS⟩⟩
   ·refine Gp ?_
    refine b_u (j:=0) (k:=.i64) hS (v:=v) (enc:=iR) (xs:=f::l) Xh vn rfl (by simp) ?_
    refine Gm λb w hS=>?_
    refine Q9 (k:=1) (v:=v) (Has.front hS Xr) (by simp) λu hS=>?_
    have hS:SL W (.ob (g8 u 174 3 l.length (l.map iR).flatten)::_) _:=hS
    have h1:=g8.one hS .hd
    refine Gn λw hS=>?_
    have e:oZ k ⟨f::l,false⟩=(f,⟨l,false⟩):=by unfold oZ;exact if_pos (Classical.not_not.1 hk)
    rw[e]
    exact⟨_,⟨rfl,rfl⟩,kr.iff.2 ⟨u,aR hS⟩⟩
theorem yH(rp:Nat)(r:e_):SP 159 [.pointer (some ⟨rp,0,none⟩)] [.ob (kr rp r)] (eW (.int .i64 (ko r).1) [.ob (kr rp (ko r).2)]):=by
 intro W F w hS;apply cR9;delta KR ai;(try simp only[app]at hS)
 refine Cg (Yb rp r 1) λw hS=>?_
 exact Qj Tryz.underlying174 rfl (λw=>by kernel_rfl) rfl ⟨_,⟨rfl,rfl⟩,hS⟩
theorem y6(rp:Nat)(r:e_):SP 162 [.pointer (some ⟨rp,0,none⟩)] [.ob (kr rp r)] (eW (.string (jF r).1) [.ob (kr rp (jF r).2)]):=by
 intro W F w hS;apply cWd;delta KW ai;(try simp only[app]at hS)
 refine Cg (Yb rp r 2) λw hS=>?_
 exact Qj Tryz.underlying174 rfl (λw=>by kernel_rfl) rfl ⟨_,⟨rfl,rfl⟩,hS⟩
theorem kr.bad{W w:World}{rp:Nat}{r:e_}{l:List Chunk}(v:Value)(h:SL W (.pt rp [v,.bool true] 330::.ob (g8 v 174 3 r.l.length (r.l.map iR).flatten)::l) w):SL W (.ob (kr rp {r with bad:=true})::l) w:=kr.iff.2 ⟨v,h⟩
theorem z6(rp:Nat)(r:e_)(m:Int):SP 160 [.pointer (some ⟨rp,0,none⟩),.int .i64 m] [.ob (kr rp r)] (eW (.int .i64 (iN m r).1) [.ob (kr rp (iN m r).2)]):=by
 intro W F w hS;apply cWb;delta KU aF fR ai;(try simp only[app]at hS)
 refine Cg (yH rp r) λw hS=>?_
 have hB:((ko r).1<0\/m<(ko r).1)->iN m r=(0,{(ko r).2 with bad:=true}):=λh=>if_pos h
 have hG:¬((ko r).1<0\/m<(ko r).1)->iN m r=ko r:=λh=>if_neg h
 refine za (λh=>?_) (λh=>?_)
 ·rw[hB (.inl h)]
  obtain⟨v,hS⟩:=kr.iff.1 hS
  refine Gn λw hS=>?_
  exact⟨_,⟨rfl,rfl⟩,kr.bad v hS⟩
 ·refine b9 (λh2=>?_) (λh2=>?_)
  ·rw[hB (.inr h2)]
   obtain⟨v,hS⟩:=kr.iff.1 hS
   refine Gn λw hS=>?_
   exact⟨_,⟨rfl,rfl⟩,kr.bad v hS⟩
  ·rw[hG (by omega)]
   (exact fw hS)
theorem QJ(rp:Nat)(r:e_):SP 239 [.pointer (some ⟨rp,0,none⟩)] [.ob (kr rp r)] (eW (.bool (rJ r).1) [.ob (kr rp (rJ r).2)]):=by
 intro W F w hS;apply dwg;delta Ma ai;(try simp only[app]at hS)
 refine Cg (z6 rp r 1) λw hS=>?_
 exact⟨_,⟨rfl,rfl⟩,hS⟩
theorem QI(rp:Nat)(r:e_):SP 326 [.pointer (some ⟨rp,0,none⟩)] [.ob (kr rp r)] (eW (.bool (!r.bad)) [.ob (kr rp r)]):=by
 intro W F w hS;apply dIr;delta Ns bF;(try simp only[app]at hS)
 obtain⟨v,hS⟩:=kr.iff.1 hS
 refine Gp ?_
 exact⟨_,⟨rfl,rfl⟩,kr.iff.2 ⟨v,hS⟩⟩
theorem Ya(rp:Nat)(r:e_):SP 163 [.pointer (some ⟨rp,0,none⟩)] [.ob (kr rp r)] (eW (.bool (decide (r.bad=false/\r.l=[]))) [.ob (kr rp r)]):=by
 intro W F w hS;apply cWe;delta KX bF dW cw ai;(try simp only[app]at hS)
 obtain⟨v,hS⟩:=kr.iff.1 hS
 refine Gp ?_
 obtain⟨l,bad⟩:=r
 cases bad with
 | true=>
  refine zt ?_
  rw[decide_eq_false (by simp)]
  exact⟨_,⟨rfl,rfl⟩,kr.iff.2 ⟨v,hS⟩⟩
 | false=>
  refine zw ?_
  refine Gp ?_
  refine zY hS (v:=v) Xh ?_
  refine Gp ?_
  have e:decide ((l.length:Int)=0)=decide ((e_.mk l false).bad=false/\(e_.mk l false).l=[]):=by
   rw[decide_eq_decide]
   simp
  rw[e]
  exact⟨_,⟨rfl,rfl⟩,kr.iff.2 ⟨v,hS⟩⟩
def SV(n:Int):Prop:=-9223372036854775808<=n/\n<=9223372036854775807
structure iy where
 table:Int
 key:Int
 gone:Bool
 val:ByteArray
deriving DecidableEq
structure gW where
 aI:Int
 kind:Int
 changes:List iy
 signals:List ByteArray
 mark:Int
def jE(c:iy):List Value:=[.int .i64 c.table,.int .i64 c.key,.bool c.gone,.string c.val]
theorem mP(c:iy):(jE c).length=4:=rfl
theorem GF(c:iy):∀v∈jE c,v.oneCell'=true:=by simp[jE,Value.oneCell']
structure mu where
 aI:Int
 kind:Int
 cv:Value
 sv:Value
 mark:Int
def iG(x:mu):List Value:=[.int .i64 x.aI,.int .i64 x.kind,x.cv,x.sv,.int .i64 x.mark]
structure kS(H:bw)(x:mu)(t:gW):Prop where
 aI:x.aI=t.aI
 kind:x.kind=t.kind
 mark:x.mark=t.mark
 cv:fW H 4 x.cv t.changes.length (t.changes.map jE).flatten
 sv:fW H 1 x.sv t.signals.length (t.signals.map Value.string)
theorem kS.mono{H H':bw}(hh:H.le H'){x:mu}{t:gW}(h:kS H x t):kS H' x t:=⟨h.aI,h.kind,h.mark,h.cv.mono hh,h.sv.mono hh⟩
def kB(C:List Row):Prop:=C.Pairwise (λa b=>a.key<b.key)
def jV(C:List Row)(k:Int):Option ByteArray:=(C.find? (λc=>decide (c.key=k))).map (·.val)
def kE:List Row->Row->List Row
 | [],c=>[c]
 | x::C,c=>if x.key<c.key then x::kE C c else if x.key=c.key then c::C else c::x::C
def mj:List Row->Int->List Row
 | [],_=>[]
 | x::C,k=>if x.key=k then C else x::mj C k
def nC(C:List Row)(c:iy):List Row:=if c.gone then mj C c.key else kE C ⟨c.key,c.val⟩
def wj(t:Int)(C:List Row)(c:iy):List Row:=if c.table=t then (if c.gone then mj C c.key else kE C ⟨c.key,c.val⟩) else C
def wx(t:Int)(l:List gW):List Row:=(l.flatMap (·.changes)).foldl (wj t) []
theorem TE{C:List Row}{c x:Row}(h:x∈kE C c):x=c\/x∈C:=by
 induction C with
 | nil=>simpa [kE] using h
 | cons y C ih=>
  unfold kE at h
  split at h
  ·rcases List.mem_cons.1 h with rfl|h
   ·exact .inr (.head _)
   ·rcases ih h with h|h
    ·exact .inl h
    ·exact .inr (.tail _ h)
  ·split at h
   ·rcases List.mem_cons.1 h with rfl|h
    ·exact .inl rfl
    ·exact .inr (.tail _ h)
   ·rcases List.mem_cons.1 h with rfl|h
    ·exact .inl rfl
    ·exact .inr h
theorem Jb{C:List Row}(h:kB C)(c:Row):kB (kE C c):=by
 unfold kB at *
 induction C with
 | nil=>simp[kE]
 | cons y C ih=>
  rw[List.pairwise_cons]at h
  unfold kE
  split
  ·rename_i iZ
   refine List.pairwise_cons.2 ⟨λz hz=>?_,ih h.2⟩
   rcases TE hz with rfl|hz
   ·exact iZ
   ·exact h.1 z hz
  ·split
   ·rename_i he
    exact List.pairwise_cons.2 ⟨λz hz=>by have:=h.1 z hz;omega,h.2⟩
   ·rename_i h1 h2
    refine List.pairwise_cons.2 ⟨λz hz=>?_,List.pairwise_cons.2 h⟩
    rcases List.mem_cons.1 hz with rfl|hz
    ·omega
    ·have:=h.1 z hz;omega
theorem TD{C:List Row}{k:Int}{x:Row}(h:x∈mj C k):x∈C:=by
 induction C with
 | nil=>exact h
 | cons y C ih=>
  unfold mj at h
  split at h
  ·exact .tail _ h
  ·rcases List.mem_cons.1 h with rfl|h
   ·exact .head _
   ·exact .tail _ (ih h)
theorem U0{C:List Row}(h:kB C)(k:Int):kB (mj C k):=by
 unfold kB at *
 induction C with
 | nil=>exact h
 | cons y C ih=>
  rw[List.pairwise_cons]at h
  unfold mj
  split
  ·exact h.2
  ·exact List.pairwise_cons.2 ⟨λz hz=>h.1 z (TD hz),ih h.2⟩
theorem Rm(C:List Row)(c:Row)(k:Int):jV (kE C c) k=if c.key=k then some c.val else jV C k:=by
 unfold jV
 induction C with
 | nil=>by_cases h:c.key=k<;>simp[kE,h]
 | cons y C ih=>
  unfold kE
  split
  ·by_cases h1:y.key=k
   ·have:c.key≠k:=by omega
    simp[h1,this]
   ·simp only[List.find?_cons,h1,decide_false];exact ih
  ·split
   ·rename_i he
    by_cases h1:c.key=k
    ·simp[h1]
    ·have:y.key≠k:=by omega
     simp[h1,this]
   ·by_cases h1:c.key=k<;>simp[h1]
theorem Rk{C:List Row}(hs:kB C)(k0 k:Int):jV (mj C k0) k=if k0=k then none else jV C k:=by
 unfold jV kB at *
 induction C with
 | nil=>simp[mj]
 | cons y C ih=>
  rw[List.pairwise_cons]at hs
  unfold mj
  split
  ·rename_i he
   by_cases h1:k0=k
   ·subst h1
    have:C.find? (λc=>decide (c.key=k0))=none:=by
     rw[List.find?_eq_none];intro z hz;have:=hs.1 z hz;simp;omega
    simp[this]
   ·have:¬y.key=k:=by omega
    simp[h1,this]
  ·rename_i he
   have Ii:=ih hs.2
   by_cases h1:y.key=k
   ·have:¬k0=k:=by omega
    simp[h1,this]
   ·simp only[List.find?_cons,h1,decide_false];exact Ii
theorem Iq(C:List Row)(c:Row):(kE C c).length<=C.length+1:=by
 induction C with
 | nil=>simp[kE]
 | cons y C ih=>
  unfold kE
  split
  ·simp;omega
  ·split<;>simp
theorem Td(C:List Row)(k:Int):(mj C k).length<=C.length:=by
 induction C with
 | nil=>exact Nat.le_refl _
 | cons y C ih=>unfold mj;split<;>simp;omega
theorem bIf(t:Int)(C:List Row)(c:iy):(wj t C c).length<=C.length+1:=by
 unfold wj
 have:=Iq C ⟨c.key,c.val⟩
 have:=Td C c.key
 split
 ·split<;>omega
 ·omega
theorem bIg{l:List iy}:∀(C:List Row) (t:Int),(l.foldl (wj t) C).length<=C.length+l.length:=by
 induction l with
 | nil=>intro C t;simp
 | cons c l ih=>intro C t;have:=ih (wj t C c) t;have:=bIf t C c;simp only[List.foldl_cons,List.length_cons];omega
def aR8(k:Int)(l4:Nat):Nat:=(min (max k 0) (l4:Int)).toNat
set_option maxRecDepth 100000
open Go.RowKit
def ma(c:iy)(k:Int):Bool:=decide (0<=c.table/\c.table<k/\1<=c.key/\c.key<=1099511627776/\c.val.size<=32/\(c.gone=true->c.val=emp))
theorem qS(c:iy)(k:Int):SP 181 [agg (jE c),.int .i64 k] [] (eW (.bool (ma c k)) []):=by
 intro W F w hS;apply cWx;delta Ld aF a_ cw ai;(try simp only[app]at hS)
 refine zC hS λb w hS=>?_
 unfold jE at hS
 have hF:∀{w:World},¬(0<=c.table/\c.table<k/\1<=c.key/\c.key<=1099511627776/\c.val.size<=32)->SL W (.pt b [.int .i64 c.table,.int .i64 c.key,.bool c.gone,.string c.val] 82::F) w ->
   ∃post,eW (.bool (ma c k)) [] (.bool false) post/\SL W (app post F) w:=λh hS=>⟨_,⟨by rw[show ma c k=false by unfold ma;rw[decide_eq_false_iff_not];exact λk=>h ⟨k.1,k.2.1,k.2.2.1,k.2.2.2.1,k.2.2.2.2.1⟩],rfl⟩,aR hS⟩
 (repeat (first|refine Gp ?_|refine Gw λw hS=>?_|refine za (λ_=>hF (by omega) hS) (λ_=>?_)|refine za (λ_=>?_) (λ_=>hF (by omega) hS)))
 have e:ma c k=decide (c.gone=true->c.val=emp):=by
  unfold ma
  rw[decide_eq_decide]
  exact⟨λh=>h.2.2.2.2.2,λh=>⟨by omega,by omega,by omega,by omega,by omega,h⟩⟩
 rw[e]
 refine yO (λh=>?_) (λh=>?_)
 ·refine Gp ?_
  rw[h]
  have e2:decide (true=true->c.val=emp) = !decide (c.val≠{data:=#[]}):=by
   rw[Bool.eq_iff_iff];simp[emp]
  rw[e2]
  (exact fw hS)
 ·refine Gp ?_
  rw[h,decide_eq_true (by simp)]
  (exact fw hS)
def xZ(x:ie):Prop:=(x.kind=1/\0<=x.n/\x.n<1152921504606846976/\x.s=emp)\/(x.kind=2/\x.n=0/\x.s.size<=4096)
theorem xZ.right{x:ie}(h:xZ x):nm x=true:=by
 unfold nm
 rcases h with ⟨h1,_,_,h2⟩|⟨h1,h2,h3⟩
 ·rw[if_pos h1,h2];rfl
 ·rw[if_neg (by omega),if_pos h1,decide_eq_true h2,decide_eq_true h3];rfl
theorem TQ{n:Nat}(h:n<65536):j5 (iI n 2)=n:=by
 have f:∀k,((n:Int).fdiv (2 ^ (8*k)))=((n / 2 ^ (8*k):Nat):Int):=λk=>by
  have:=tM n (2 ^ (8*k)) (Nat.two_pow_pos _)
  rw[<- this];push_cast;rfl
 unfold iI iI iI
 simp only[f,j5,List.foldl_cons,List.foldl_nil,wL,show (2:Nat) ^ (8*1)=256 from rfl,show (2:Nat) ^ (8*0)=1 from rfl]
 omega
theorem Px:∀(l acc:List ie),(∀x∈l,xZ x)->pk acc l.length ⟨(l.map jL).flatten,0⟩= .ok (acc++l)
 | [],acc,_=>by
  rw[List.map_nil,List.flatten_nil,List.length_nil,PA,if_neg (by simp),List.append_nil]
 | x::l,acc,h=>by
  have hx:=h x (.head _)
  have ih:=Px l (acc++[x]) λy hy=>h y (.tail _ hy)
  obtain⟨kind,n,s⟩:=x
  rw[List.map_cons,List.flatten_cons,List.length_cons]
  rcases hx with ⟨h1,h2,h3,h4⟩|⟨h1,h2,h3⟩
  ·have h1:kind=1:=h1
   have h4:s=emp:=h4
   subst h1 h4
   obtain⟨m,rfl⟩:=Int.eq_ofNat_of_zero_le h2
   have hm:m<1152921504606846976:=by have h3:(m:Int)<1152921504606846976:=h3;omega
   have e:jL ⟨1,(m:Int),emp⟩=j9 1::iI (m:Int) 8:=by
    show j9 1::iI ((m:Int) % 18446744073709551616) 8=_
    rw[show (m:Int) % 18446744073709551616=(m:Int) by omega]
   have hl:=mE (m:Int) 8
   rw[e,List.cons_append,Py (by decide),if_neg (by rw[List.length_append,hl];omega),List.take_left' hl,List.drop_left' hl,TR hm,sig,if_pos (by omega)]
   rw[List.append_assoc]at ih
   exact ih
  ·have h1:kind=2:=h1
   have h2:n=0:=h2
   have h3:s.size<=4096:=h3
   subst h1 h2
   have e:jL ⟨2,0,s⟩=j9 2::(iI (s.size:Nat) 2++s.data.toList):=rfl
   have hl:=mE (s.size:Int) 2
   have hs:s.data.toList.length=s.size:=rfl
   rw[e,List.cons_append,List.append_assoc,Pz (by decide),if_neg (by rw[List.length_append,hl];omega),List.take_left' hl,List.drop_left' hl,TQ (by omega),if_neg (by omega),
    if_neg (by rw[List.length_append,List.length_append,hl];omega),List.take_left' hs,List.drop_left' hs]
   rw[List.append_assoc]at ih
   exact ih
theorem Pu{l:List ie}(hl:l.length<=32767)(h:∀x∈l,xZ x):po l= .ok (iI l.length 2++(l.map jL).flatten)/\lL (iI l.length 2++(l.map jL).flatten)= .ok l:=by
 have h2:=mE (l.length:Int) 2
 have hb:=TQ (n:=l.length) (by omega)
 refine⟨?_,?_⟩
 ·unfold po
  rw[if_neg (by omega),if_pos (List.all_eq_true.2 λx hx=>(h x hx).right)]
 ·have ht:(iI (l.length:Int) 2++(l.map jL).flatten).take 2=iI l.length 2:=List.take_left' h2
  have hd:(iI (l.length:Int) 2++(l.map jL).flatten).drop 2=(l.map jL).flatten:=List.drop_left' h2
  rw[Pv (by rw[List.length_append,h2];omega) (by rw[ht,hb];omega),ht,hd,hb,Px l [] h,List.nil_append]
theorem O9(b:Bool):0<=so b/\so b<=1:=by cases b<;>decide
theorem tg{n:Int}(h:0<=n/\n<=1099511627776):xZ (iF n):=.inl ⟨rfl,h.1,by show n<_;omega,rfl⟩
theorem D8{α β:Type}{f:α->List β}{k:Nat}(h:∀x,(f x).length=k):∀l:List α,((l.map f).flatten).length=l.length*k
 | []=>by simp
 | x::l=>by rw[List.map_cons,List.flatten_cons,List.length_append,h,D8 h l,List.length_cons,Nat.succ_mul,Nat.add_comm]
theorem z'{m n:Int}{l:List ie}(h:0<=n/\n<=m):iN m ⟨iF n::l,false⟩=(n,⟨l,false⟩):=by
 have e:ko ⟨iF n::l,false⟩=(n,⟨l,false⟩):=rfl
 unfold iN
 rw[e,if_neg (by show ¬(n<0\/m<n);omega)]
theorem WE{b:Bool}{l:List ie}:rJ ⟨iF (so b)::l,false⟩=(b,⟨l,false⟩):=by
 unfold rJ
 rw[z' (O9 b)]
 cases b<;>rfl
theorem Tp{α:Type}{one:e_->α × e_}{f:α->List ie}:∀(xs:List α) (l:List ie),(∀x∈xs,∀l,one ⟨f x++l,false⟩=(x,⟨l,false⟩))->iX one xs.length ⟨(xs.map f).flatten++l,false⟩=(xs,⟨l,false⟩)
 | [],l,_=>rfl
 | x::xs,l,h=>by
  have ih:=Tp xs l λy hy=>h y (.tail _ hy)
  have h1:=h x (.head _) ((xs.map f).flatten++l)
  rw[List.map_cons,List.flatten_cons,List.append_assoc,List.length_cons,iX,if_neg (by simp),h1,ih]
theorem BT(n:Int):(jL (iF n)).length=9:=by
 show (j9 1::iI (r_ n) 8).length=9
 rw[List.length_cons,mE]
theorem xy{α β:Type}{f:α->List β}{k:Nat}:∀l:List α,(∀x∈l,(f x).length<=k)->((l.map f).flatten).length<=l.length*k
 | [],_=>by simp
 | x::l,h=>by
  have h1:=h x (.head _)
  have ih:=xy l λy hy=>h y (.tail _ hy)
  rw[List.map_cons,List.flatten_cons,List.length_append,List.length_cons,Nat.succ_mul]
  omega
theorem GG(l:List (List ie)):(l.flatten.map jL).flatten=(l.map λx=>(x.map jL).flatten).flatten:=by
 induction l with
 | nil=>rfl
 | cons x l ih=>simp only[List.flatten_cons,List.map_append,List.flatten_append,List.map_cons,ih]
end Go.Proofs.YtfenmffiidchcaaGreat

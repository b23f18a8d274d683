/- Part of the proof. -/
import Derived.Test.YtmkllimamejcgaaGreatJ5
import Derived.Laws.BytesString
import Derived.Test.YtmkllimamejcgaaGreatQVcS
namespace Go.Proofs.YtmkllimamejcgaaGreat
set_option linter.all false
open Go.RowKit
def uuc:=@run_loadCells_list
def vvx:=@Nat.pow_le_pow_right
def yy1:=@Tryz.underlying9
def wwj:=@Tryz.underlying5
def uu3:=@Bool.false_and
def xx4:=@List.map_singleton
def uu4:=@List.find?_eq_none
def uuv:=@Bool.eq_iff_iff
def uud:=@decide_eq_true_iff
def yyi:=@List.getElem_of_mem
def xx8:=@Int.eq_ofNat_of_zero_le
def uuw:=@List.take_left'
def uux:=@List.drop_left'
section
variable {W w:Α} {l:Ψ} {P:Program}
def awn{t:Ε}{s:Β}{j:Nat}{k:IntKind}{K:Ω->Prop}(ht:P.underlying t=some .string)(hj:j<s.size)(h:K (.int .u8 (s[j]).toNat)):jY P (Instr.index t (.string s) (.int k (j:Int))) w K:=by
 refine⟨_,?_,h⟩;have:s[j]?=some s[j]:=by simp[hj]
 simp[Instr.index,asIntOf,yym ht,Result.andThen,this]
def YJ{src dst e:Ε}{b:Nat}{n:Int}{cap:Nat}{t:Ε}{K:Ω->Prop}(hS:SL W l w)(hm:Has (.pt b [.int .u8 n] t) l)(h1:P.underlying src=some (.slice e))(h2:P.underlying dst=some .string)(h3:P.underlying e=some (.int .u8))
  (h:K (.string ⟨#[UInt8.ofNat n.toNat]⟩)):jY P (convert src dst (.slice (some ⟨b,0,none⟩) 1 cap)) w K:=by
 refine⟨_,?_,h⟩;have hc:w.cell? ⟨b,0,none⟩=some (.int .u8 n):=hS.cell hm rfl;have hl:(loadCells ⟨b,0,none⟩ 1).run P w= .ok ([n].map (Value.int .u8)).toArray w:=by
  refine uuc (P:=P) (w:=w) ⟨b,0,none⟩ [.int .u8 n] (λj v hj=>?_)
  match j,hj with
  | 0,hj=>
   simp at hj;subst hj;rw[yyb];exact hc
 have:=run_bytesToString (P:=P) w ⟨b,0,none⟩ 1 cap [n] hl;simp[convert,yym h1,yym h2,yym h3,Result.andThen,this];rfl
def QL{a b:Β}{K:Ω->Prop}(hr:a.size+b.size<=1000000)(h:K (.string (a++b))):zc .add (.string a) (.string b) K:=by
 refine⟨_,?_,h⟩;have hm:IntKind.i64.max=9223372036854775807:=by decide
 simp only[nH];rw[zzb (by rw[hm];omega)]
end
set_option maxRecDepth 100000
def ji(bs:Δ):Β:=⟨bs.toArray⟩
def TA{a b:Δ}:ji a=ji b↔a=b:=by
 constructor
 ·intro h;have:=yyu ByteArray.data h;exact List.toArray_inj this
 rintro rfl;rfl
def sa(a:Δ):(ji a).size=a.length:=by simp[ji,ByteArray.size]
def fold_push:∀(bs:Δ) (s:Β),(bs.map λb=>(b.toNat:Int)).foldl (λr n=>r.push (UInt8.ofNat n.toNat)) s=⟨s.data++bs.toArray⟩
 | [],s=>by cases s;simp
 | b::bs,s=>by
  simp only[zzn,wwd];rw[fold_push bs];cases s;simp[ByteArray.push]
section
variable {W w:Α} {l:Ψ} {P:Program}
def Zc{src dst e:Ε}{v:Ω}{bs:Δ}{K:Ω->Prop}(hv:∃a n c,v= .slice a n c)(mr:oZ w 1 v bs.length (bs.map ic))(h1:P.underlying src=some (.slice e))(h2:P.underlying dst=some .string)(h3:P.underlying e=some (.int .u8))
  (h:K (.string (ji bs))):jY P (convert src dst v) w K:=by
 refine⟨_,?_,h⟩;obtain⟨a,n,c,rfl⟩:=hv;rw[run_convert_bytes_string w src dst e a n c h1 h3 h2];cases a with
 | none=>
  obtain⟨e1,e2⟩:=mr;have:bs=[]:=by simpa using e2
  subst this;rfl
 | some p=>
  obtain⟨e1,e2,e3⟩:=mr;subst e1;have hl:(loadCells p bs.length).run P w= .ok ((bs.map λb=>(b.toNat:Int)).map (Value.int .u8)).toArray w:=by
   have h4:=uuc (P:=P) (w:=w) p (bs.map ic) e3;rw[zzs]at h4
   rw[h4,xxs];rfl
  rw[run_bytesToString w p bs.length c _ hl,fold_push];simp[ji]
def iD.LR{H:bw}{sz n:Nat}{v:Ω}{cells:Γ}(h:iD H sz v n cells):∃a n c,v= .slice a n c:=by
 obtain⟨_,a,cap,rfl,_,_⟩:=h;exact⟨_,_,_,rfl⟩
end
def SL.mark{W w:Α}{l l':Ψ}{b n:Nat}{cs:Γ}{t:Ε}(h:SL W l w)(u:lk (.pt b cs t) (.pt b cs t) l l')(hn:cs.length=n):SL W l' (w.freeze {block:=b,off:=n} 1):=by
 obtain⟨f,hf,e⟩:=h.tM u.has;obtain⟨x,y⟩:=f;refine h.vI (b:=b) (o':=.cells cs.toArray t (if x == y then (n,n+1) else (min x n,max y (n+1)))) u ?_ ⟨_,?_,rfl⟩ ?_ ?_ rfl rfl rfl
 ·rintro k ⟨f,_,rfl⟩;exact⟨_,rfl⟩
 ·rcases hf with hf|hf
  ·simp only at hf;subst hf;rw[zzc (by simp)];right;simp only;omega
  simp only at hf;split
  ·right;simp only;omega
  right;simp only;omega
 ·show (w.heap.modify b _)[b]?=_;rw[ww2];simp[e]
 intro z hz;show (w.heap.modify b _)[z]?=_;rw[ww2,zzb (by omega)]
abbrev sG(rp:Nat)(r:nA)(v:Ω):Η:=.pt rp [v,.int .i64 r.e] 325
def XE(n:Nat)(r:nA):(lR n r).1.length<=n/\(lR n r).1.length<=r.b.length/\(lR n r).2.b.length<=r.b.length:=by
 unfold lR;split
 ·simp
 split
 ·simp
 simp only[zzf,zzq];omega
def aIz(X:Η)(rp n:Nat)(r:nA)(u:Ω)(post:Ψ):Prop:=∃v',iV X u (lR n r).1/\iV X v' (lR n r).2.b/\post=[sG rp (lR n r).2 v',X]
def YE(X:Η)(rp n:Nat)(v:Ω)(r:nA)(hv:iV X v r.b):SP 281 [.pointer (some ⟨rp,0,none⟩),.int .i64 n] [sG rp r v,X] (aIz X rp n r):=by
 refine Enzz λW F w hS=>?_;apply g_r;delta P_ aI bW ia ai bI;have xq:=hv.one hS Xh;refine⟨λvs w=>vs=[]/\∃e,e=(if r.e=0/\r.b.length<n then 2 else r.e)/\SL W (.pt rp [v,.int .i64 e] 325::X::F) w,?_,?_⟩
 ·refine cF (λh=>?_) (λh=>?_)
  ·refine Gp ?_;refine yo hS Xh hv ?_;refine cF (λh2=>?_) (λh2=>?_)
   ·refine Gn λw hS=>?_;exact⟨2,by rw[zzc ⟨h,by omega⟩],hS⟩
   refine⟨rfl,_,rfl,?_⟩;rw[zzb (by omega)];exact hS
  refine⟨rfl,_,rfl,?_⟩;rw[zzb (by omega)];exact hS
 rintro w ⟨_,e,he,hS⟩;refine Gp ?_;by_cases h1:r.e=0
 ·by_cases h2:r.b.length<n
  ·rw[zzc ⟨h1,h2⟩]at he
   subst he;refine za (λ_=>?_) (λh=>absurd (by decide) h);have e1:lR n r=([],{r with e:=2}):=by unfold lR;rw[zzb (by simp[h1]),zzc h2]
   refine⟨_,⟨v,?_,?_,rfl⟩,?_⟩
   ·rw[e1];exact iV.nil
   ·rw[e1];exact hv
   rw[e1];exact hS
  rw[zzb (by omega),h1]at he
  subst he;refine za (λh=>absurd rfl h) (λ_=>?_);have e1:lR n r=(r.b.take n,{r with b:=r.b.drop n}):=by unfold lR;rw[zzb (by simp[h1]),zzb h2]
  refine Gp ?_;refine awj hS Xh hv (by omega) ?_;intro u hu;refine Gp ?_;refine awk hS Xh hv (by omega) ?_;intro v' uV;have igj:=uV.one hS Xh;refine Gn λw hS=>?_;refine⟨_,⟨v',?_,?_,rfl⟩,?_⟩
  ·rw[e1];exact hu
  ·rw[e1];exact uV
  rw[e1];simp only[h1];exact hS
 rw[zzb (by omega)]at he
 subst he;refine za (λ_=>?_) (λh=>absurd h1 h);have e1:lR n r=([],r):=by unfold lR;rw[zzc h1]
 refine⟨_,⟨v,?_,?_,rfl⟩,?_⟩
 ·rw[e1];exact iV.nil
 ·rw[e1];exact hv
 rw[e1];exact hS
def fFd{a b:Nat}(ha:a<18446744073709551616)(hb:b<18446744073709551616):nH .or (.int .u64 (a:Int)) (.int .u64 (b:Int))=some (.int .u64 ((a ||| b:Nat):Int)):=by
 have h:(a ||| b)<18446744073709551616:=Nat.or_lt_two_pow (n:=64) ha hb;simp only[nH,ww7];congr 2;have e1:(BitVec.ofInt IntKind.u64.bits (a:Int))=BitVec.ofNat 64 a:=vvw 64 a;have e2:(BitVec.ofInt IntKind.u64.bits (b:Int))=BitVec.ofNat 64 b:=vvw 64 b;rw[e1,e2];have e3:(BitVec.ofNat 64 a ||| BitVec.ofNat 64 b).toNat=a ||| b:=by
  rw[BitVec.toNat_or,uub,uub,wwz (by omega),wwz (by omega)]
 show IntKind.u64.wrap (((BitVec.ofNat 64 a ||| BitVec.ofNat 64 b).toNat:Nat):Int)=_;rw[e3,wrap_u64 (by omega) (by omega)]
def fW8{x:Nat}{c:Ζ}{K:Ω->Prop}(h:K (.int .u64 (((x*256+c.toNat) % 18446744073709551616:Nat):Int))):
  zc .shl (.int .u64 (x:Int)) (.int .u64 8) λv=>zJ .u64 (ic c) λy=>zc .or v y K:=by
 have hc:=c.toNat_lt;refine⟨.int .u64 (((x*256) % 18446744073709551616:Nat):Int),?_,?_⟩
 ·show (if (8:Int)<0 then none else some (Value.int .u64 (IntKind.u64.wrap ((x:Int)*2 ^ (min (8:Int).toNat IntKind.u64.bits)))))=_;rw[zzb (by omega)];congr 2
 refine zW ?_;rw[wrap_u64 (by omega) (by omega)];refine⟨_,fFd (by omega) (by omega),?_⟩;have e:(x*256) % 18446744073709551616=((x*256) % 18446744073709551616 / 256) <<< 8:=by rw[ttf];omega
 have e2:(x*256) % 18446744073709551616 ||| c.toNat=(x*256+c.toNat) % 18446744073709551616:=by
  rw[e,<- Nat.shiftLeft_add_eq_or_of_lt (show c.toNat<2 ^ 8 by omega),ttf];omega
 rw[e2];exact h
def Tv{b:Δ}{i:Nat}(h:i<b.length):mR (b.take (i+1))=(mR (b.take i)*256+b[i].toNat) % 18446744073709551616:=by
 rw[show b.take (i+1)=b.take i++[b[i]] by rw[wwr];simp[h]];exact bwk _ _ _ rfl
def aI0(X:Η)(rp n:Nat)(r:nA)(u:Ω)(post:Ψ):Prop:=∃v',u= .int .u64 ((kP n r).1:Nat)/\iV X v' (kP n r).2.b/\post=[sG rp (kP n r).2 v',X]
def Zw(X:Η)(rp n:Nat)(v:Ω)(r:nA)(hv:iV X v r.b)(hn:n<=1000):SP 280 [.pointer (some ⟨rp,0,none⟩),.int .i64 n] [sG rp r v,X] (aI0 X rp n r):=by
 intro W F w hS;apply g_q;delta P' aI ai;(try simp only[app]at hS);refine Cc (YE X rp n v r hv) ?_;clear hS;rintro u post ⟨v',hu,uV,rfl⟩ w hS;(try simp only[app]at hS);have hl:=XE n r;refine yo hS Xh hu ?_;refine⟨λvs w=>∃i:Nat,i<=(lR n r).1.length/\vs=[.int .u64 (mR ((lR n r).1.take i):Nat),.int .i64 i]/\SL W (sG rp (lR n r).2 v'::X::F) w,λvs _=>match vs with
  | [_,.int _ i]=>(lR n r).1.length-i.toNat
  | _=>0,⟨0,by omega,rfl,hS⟩,?_⟩
 rintro v1 v2 w1 ⟨i,hi,hv,hS⟩;cases hv;refine cF (λh=>?_) (λh=>?_)
 ·have hi:i<(lR n r).1.length:=by omega
  refine yV hS Xh hu hi ?_;refine fW8 ?_;refine Gp ?_;refine⟨⟨i+1,by omega,?_,hS⟩,?_⟩
  ·rw[Tv hi]
  simp only[zzv];omega
 have:(lR n r).1.take i=(lR n r).1:=zz2 (by omega);rw[this];exact⟨_,⟨v',rfl,uV,rfl⟩,hS⟩
def Tu:∀(n:Nat) (b:Δ),b.length=n->mR b<256 ^ n
 | 0,b,h=>by
  have:b=[]:=zzo h;subst this;decide
 | n+1,b,h=>by
  have h1:=Tu n (b.take n) (by rw[zzf];omega);have h2:=Tv (b:=b) (i:=n) (by omega);rw[zz2 (by omega)]at h2
  have hc:=(b[n]'(by omega)).toNat_lt;have h3:=Nat.mod_le (mR (b.take n)*256+(b[n]'(by omega)).toNat) 18446744073709551616;rw[h2,Nat.pow_succ];omega
def Mh(n:Nat)(r:nA):(kP n r).1<256 ^ n:=by
 have h1:=Tu _ _ (rfl:(lR n r).1.length=_);have h2:=(XE n r).1;exact Nat.lt_of_lt_of_le h1 (vvx (by omega) h2)
def aIy(X:Η)(rp m:Nat)(r:nA)(u:Ω)(post:Ψ):Prop:=∃v',u= .int .i64 ((lQ m r).1:Nat)/\iV X v' (lQ m r).2.b/\post=[sG rp (lQ m r).2 v',X]
def YC(X:Η)(rp m:Nat)(v:Ω)(r:nA)(hv:iV X v r.b)(hm:m<=100000):SP 208 [.pointer (some ⟨rp,0,none⟩),.int .i64 m] [sG rp r v,X] (aIy X rp m r):=by
 refine Enzz λW F w hS=>?_;apply gR4;delta Pa aI ia ai;refine Cc (Zw X rp 2 v r hv (by omega)) ?_;clear hS;rintro u post ⟨v',rfl,uV,rfl⟩ w hS;(try simp only[app]at hS);have iw:=Mh 2 r;refine yv (by omega) ?_;refine cF (λh=>?_) (λh=>?_)
 ·refine Gn λw hS=>?_;have e:lQ m r=(0,{(kP 2 r).2 with e:=3}):=by unfold lQ;rw[zzc (by omega)]
  refine⟨_,⟨v',?_,?_,rfl⟩,?_⟩
  ·rw[e];rfl
  ·rw[e];exact uV
  rw[e];exact hS
 have e:lQ m r=kP 2 r:=by unfold lQ;rw[zzb (by omega)]
 refine⟨_,⟨v',?_,?_,rfl⟩,?_⟩
 ·rw[e]
 ·rw[e];exact uV
 rw[e];exact hS
def e_r(m:Nat)(r:nA):(lQ m r).1<=m:=by
 unfold lQ;split
 ·exact zz8 _
 rename_i h;exact wwh.1 h
def f_o{n:Nat}(h:n<18446744073709551616):IntKind.i64.wrap (n:Int)=sig n:=by
 rw[IntKind.wrap_i64,sig];split<;>omega
def aIs(X:Η)(rp:Nat)(r:nA)(u:Ω)(post:Ψ):Prop:=∃v',u= .agg (lq (mD r).1).toArray/\iV X v' (mD r).2.b/\post=[sG rp (mD r).2 v',X]
def Qn(X:Η)(rp:Nat)(v:Ω)(r:nA)(hv:iV X v r.b):SP 209 [.pointer (some ⟨rp,0,none⟩)] [sG rp r v,X] (aIs X rp r):=by
 refine Enzz λW F w hS=>?_;apply gR5;delta Pb aI bW ia ai gI;refine Gm λb w hS=>?_;refine Cc (Zw X rp 1 v r hv (by omega)) ?_;clear hS;rintro u post ⟨v1,rfl,vv,rfl⟩ w hS;(try simp only[app]at hS);have iw:=Mh 1 r;refine yv (by omega) ?_;refine cF (λh=>?_) (λh=>?_)
 ·refine Cc (Zw X rp 8 v1 (kP 1 r).2 vv (by omega)) ?_;clear hS;rintro u post ⟨v2,rfl,xw,rfl⟩ w hS;(try simp only[app]at hS);have iga:=Mh 8 (kP 1 r).2;refine zW ?_;rw[f_o (by omega),h];have e:mD r=(⟨1,sig (kP 8 (kP 1 r).2).1,⟨#[]⟩⟩,(kP 8 (kP 1 r).2).2):=by
   unfold mD;rw[zzc (by omega)]
  refine Gn λw hS=>?_;refine⟨[sG rp (mD r).2 v2,X],⟨v2,?_,?_,rfl⟩,?_⟩
  ·rw[e];rfl
  ·rw[e];exact xw
  rw[e];exact aW hS
 refine cF (λh2=>?_) (λh2=>?_)
 ·refine Cc (YC X rp 4096 v1 (kP 1 r).2 vv (by omega)) ?_;clear hS;rintro u post ⟨v2,rfl,xw,rfl⟩ w hS;(try simp only[app]at hS);refine Cc (YE X rp (lQ 4096 (kP 1 r).2).1 v2 (lQ 4096 (kP 1 r).2).2 xw) ?_;clear hS;rintro u post ⟨v3,hu,hv3,rfl⟩ w hS;(try simp only[app]at hS);obtain⟨au,cu,eu,_⟩:=hu.sl hS Xh;refine Zc ⟨_,_,_,eu⟩ (hu.src hS Xh) xxm yy1 wwj ?_;rw[h2];have e:mD r=(⟨2,0,ji (lR (lQ 4096 (kP 1 r).2).1 (lQ 4096 (kP 1 r).2).2).1⟩,(lR (lQ 4096 (kP 1 r).2).1 (lQ 4096 (kP 1 r).2).2).2):=by
   unfold mD ji;rw[zzb (by omega),zzc (by omega)]
  refine Gn λw hS=>?_;refine⟨[sG rp (mD r).2 v3,X],⟨v3,?_,?_,rfl⟩,?_⟩
  ·rw[e];rfl
  ·rw[e];exact hv3
  rw[e];exact aW hS
 refine Gp ?_;have e:mD r=(BX,if (kP 1 r).2.e=0 then {(kP 1 r).2 with e:=3} else (kP 1 r).2):=by
  unfold mD;rw[zzb (by omega),zzb (by omega)]
 refine za (λh3=>?_) (λh3=>?_)
 ·rw[zzc h3]at e
  refine Gn λw hS=>?_;refine⟨[sG rp (mD r).2 v1,X],⟨v1,?_,?_,rfl⟩,?_⟩
  ·rw[e];rfl
  ·rw[e];exact vv
  rw[e];exact aW hS
 rw[zzb h3]at e
 refine Gn λw hS=>?_;refine⟨[sG rp (mD r).2 v1,X],⟨v1,?_,?_,rfl⟩,?_⟩
 ·rw[e];rfl
 ·rw[e];exact vv
 rw[e];exact aW hS
def Fa(x:iL):(lq x).length=3:=rfl
def wV(r:nA):Int:=if r.e=0 then if 0<r.b.length then 3 else 0 else r.e
def J'(b:Δ):nL b=if wV (mg (lQ 32767 ⟨b,0⟩).1 (lQ 32767 ⟨b,0⟩).2).2=0 then .ok (mg (lQ 32767 ⟨b,0⟩).1 (lQ 32767 ⟨b,0⟩).2).1 else .error (wV (mg (lQ 32767 ⟨b,0⟩).1 (lQ 32767 ⟨b,0⟩).2).2):=rfl
def Bq(X:Η)(b:Δ)(u:Ω)(post:Ψ):Prop:=match nL b with
 | .error e=>u= .tuple #[.slice none 0 0,.int .i64 e]/\post=[X]
 | .ok l=>∃v,u= .tuple #[v,.int .i64 0]/\post=[.ob (bR v 327 3 l.length (l.map lq).flatten),X]
def UB(x:iL):∀v∈lq x,v.oneCell'=true:=λv hv=>by
 simp only[lq,zz7,xxj,vvv]at hv;rcases hv with rfl|rfl|rfl<;>rfl
def yA(X:Η)(v:Ω)(b:Δ)(hv:iV X v b):SP 153 [v] [X] (Bq X b):=by
 refine Enzz λW F w hS=>?_;apply gIo;delta Oi aI bW ia aR b_ ai gI bI;obtain⟨a0,c0,rfl,_⟩:=hv.sl hS .hd;refine yT rfl ?_;refine⟨_,rfl,zD hS ?_⟩;clear hS;intro rp w hS;generalize hm:lQ 32767 ⟨b,0⟩=m;refine⟨λvs w=>∃u v',vs=[u]/\iV X v' (mg m.1 m.2).2.b/\SL W (.ob (bR u 327 3 (mg m.1 m.2).1.length ((mg m.1 m.2).1.map lq).flatten)::sG rp (mg m.1 m.2).2 v'::X::F) w,?_,?_⟩
 ·have hS:SL W (sG rp ⟨b,0⟩ (.slice a0 b.length c0)::X::F) w:=hS;refine Cc (YC X rp 32767 _ ⟨b,0⟩ hv (by omega)) ?_;clear hS;rintro u post ⟨v1,rfl,vv,rfl⟩ w hS;(try simp only[app]at hS);rw[hm]at hS vv ⊢
  have hle:m.1<=32767:=by rw[<- hm];exact e_r _ _
  have hS:=bR.nil (t:=327) (sz:=3) hS;refine⟨λvs w=>∃(u v':Ω) (xs:List iL) (i:Nat) (r:nA),vs=[u,.int .i64 i]/\xs.length+i=m.1/\mg m.1 m.2=(xs++(mg i r).1,(mg i r).2)/\iV X v' r.b/\SL W (.ob (bR u 327 3 xs.length (xs.map lq).flatten)::sG rp r v'::X::F) w,λvs _=>match vs with
   | [_,.int _ i]=>i.toNat
   | _=>0,⟨_,v1,[],m.1,m.2,rfl,by simp,by simp,vv,hS⟩,?_⟩
  rintro u1 u2 w1 ⟨u,v',xs,i,r,hv,hx,hf,hr,hS⟩;cases hv;refine cF (λh=>?_) (λh=>?_)
  ·refine Gp ?_;obtain⟨j,rfl⟩:∃j,i=j+1:=⟨i-1,by omega⟩;refine za (λh2=>?_) (λh2=>?_)
   ·refine Cc (Qn X rp v' r hr) ?_;clear hS;rintro u5 post ⟨v2,rfl,xw,rfl⟩ w hS;(try simp only[app]at hS);refine zL (cells:=lq (mD r).1) hS rfl ?_;clear hS;intro p w hS;refine zI (m:=1) (cs:=lq (mD r).1) hS Xr (oG hS .hd rfl) rfl rfl (UB _) (by omega) (by omega) ?_;clear hS;intro u' w hS;refine Gp ?_;have e:((j+1:Nat):Int)-1=(j:Int):=by omega
    rw[e];refine⟨⟨u',v2,xs++[(mD r).1],j,(mD r).2,rfl,by simp;omega,?_,xw,?_⟩,?_⟩
    ·rw[hf];have:mg (j+1) r=((mD r).1::(mg j (mD r).2).1,(mg j (mD r).2).2):=by
      show (if r.e=0 then _ else _)=_;rw[zzc h2]
     rw[this];simp
    ·simp only[zza,zzj,yyo,zzt,zzn,yy4,yys,zz4,xxx,zzw];exact aW hS
    simp only[zzv];omega
   have:mg (j+1) r=([],r):=by
    show (if r.e=0 then _ else _)=_;rw[zzb h2]
   rw[this,zzw]at hf
   refine⟨u1,v',rfl,?_,?_⟩
   ·rw[hf];exact hr
   rw[hf];exact hS
  obtain rfl:i=0:=by omega
  have:mg 0 r=([],r):=rfl;rw[this,zzw]at hf
  refine⟨u1,v',rfl,?_,?_⟩
  ·rw[hf];exact hr
  rw[hf];exact hS
 rintro u5 w ⟨u,v',hu,uV,hS⟩;obtain rfl:u5=u:=(List.cons.inj hu).1;have hd:=J' b;rw[hm]at hd
 generalize (mg m.1 m.2).2=r at *
 generalize (mg m.1 m.2).1=xs at *
 refine⟨λvs w=>vs=[]/\SL W (.ob (bR u5 327 3 xs.length (xs.map lq).flatten)::.pt rp [v',.int .i64 (wV r)] 325::X::F) w,?_,?_⟩
 ·refine cF (λh=>?_) (λh=>?_)
  ·refine Gp ?_;refine yo hS Xh uV ?_;refine cF (λh2=>?_) (λh2=>?_)
   ·refine Gn λw hS=>?_;have e:wV r=3:=by unfold wV;rw[zzc h,zzc (by omega)]
    rw[e];exact hS
   have e:wV r=r.e:=by unfold wV;rw[zzc h,zzb (by omega),h]
   rw[e];exact⟨rfl,hS⟩
  have e:wV r=r.e:=by unfold wV;rw[zzb h]
  rw[e];exact⟨rfl,hS⟩
 rintro w ⟨_,hS⟩;refine cF (λh=>?_) (λh=>?_)
 ·refine Gn λw hS=>?_;rw[zzb h]at hd
  refine⟨[X],?_,aW hS⟩;unfold Bq;rw[hd];exact⟨rfl,rfl⟩
 have h:wV r=0:=by omega
 rw[zzc h]at hd
 refine⟨[.ob (bR u5 327 3 xs.length (xs.map lq).flatten),X],?_,aW hS⟩;unfold Bq;rw[hd];exact⟨u5,rfl,rfl⟩
def f_a{a:Int}{n:Nat}{k:IntKind}(hn:n<=64){K:Ω->Prop}(h:K (.int .u64 (a.fdiv (2 ^ n)))):zc .shr (.int .u64 a) (.int k (n:Int)) K:=by
 refine⟨.int .u64 (a.fdiv (2 ^ n)),?_,h⟩;have h1:¬((n:Int)<0):=by omega
 simp only[nH,h1,vvn];rw[show min (n:Int).toNat IntKind.u64.bits=n by simp only[IntKind.bits];omega]
def Zv(b:Δ)(v:Ω)(x:Int)(n:Nat)(hn:n<=8)(hb:b.length<=140737488355000):SP 283 [v,.int .u64 x,.int .i64 n] [.ob (bR v 5 1 b.length (b.map ic))] (λu post=>post=[.ob (bR u 5 1 (b++jS x n).length ((b++jS x n).map ic))]):=by
 refine Enzz λW F w hS=>?_;apply g_t;delta Ra aI ai;refine Gp ?_;refine⟨λvs w=>∃(u:Ω) (c:Δ) (k:Nat),vs=[u,.int .i64 ((k:Int)-1)]/\k<=n/\c++jS x k=b++jS x n/\SL W (.ob (bR u 5 1 c.length (c.map ic))::F) w,λvs _=>match vs with
  | [_,.int _ i]=>(i+1).toNat
  | _=>0,⟨v,b,n,rfl,zzi _,rfl,hS⟩,?_⟩
 rintro u1 u2 w1 ⟨u,c,k,hv,hk,hc,hS⟩;cases hv;refine cF (λh=>?_) (λh=>?_)
 ·obtain⟨j,rfl⟩:∃j,k=j+1:=⟨k-1,by omega⟩;have e0:((j+1:Nat):Int)-1=(j:Int):=by omega
  rw[e0];refine fW2 (by omega) ?_;have e1:(8:Int)*(j:Int)=((8*j:Nat):Int):=by omega
  rw[e1];refine f_a (by omega) ?_;refine zW ?_;rw[wrap_u8];refine zL (cells:=[ic (lX (x.fdiv (2 ^ (8*j))))]) hS rfl ?_;clear hS;intro p w hS;have sj:c.length+(j+1)=b.length+n:=by
   have:=yyu List.length hc;simpa [pW] using this
  refine zI (m:=1) (cs:=[ic (lX (x.fdiv (2 ^ (8*j))))]) hS Xr (oG hS .hd rfl) rfl rfl (by intro v hv;simp only[zz3]at hv;subst hv;rfl) (by omega) (by omega) ?_;clear hS;intro u' w hS;refine Gp ?_;refine⟨⟨u',c++[lX (x.fdiv (2 ^ (8*j)))],j,rfl,by omega,?_,?_⟩,?_⟩
  ·rw[<- hc];simp[jS]
  ·simp only[zza,zzj,yyo,zzt,zzn,yy4];exact aW hS
  show ((j:Int)-1+1).toNat<((j:Int)+1).toNat;omega
 obtain rfl:k=0:=by omega
 have e:c=b++jS x n:=by simpa [jS] using hc
 rw[e]at hS
 exact⟨_,rfl,hS⟩
def qF(x:iL):SP 284 [.agg (lq x).toArray] [] (e_ (.bool (tH x)) []):=by
 refine Enzz λW F w hS=>?_;apply g_u;delta Rb aI a_ cW ai;refine⟨lq x,rfl,?_⟩;unfold lq;refine Gm λb w hS=>?_;unfold tH;refine za (λh=>?_) (λh=>?_)
 ·rw[zzc h];refine Gp ?_;have e:decide (x.s=({data:=#[]}:Β))=decide (x.s=⟨#[]⟩):=rfl;exact dW hS
 rw[zzb h];refine cF (λh2=>?_) (λh2=>?_)
 ·rw[zzc h2];refine cF (λh3=>?_) (λh3=>?_)
  ·refine Gp ?_;rw[zzm h3,vv6];have e:decide ((x.s.size:Int)<=4096)=decide (x.s.size<=4096):=by congr 1;exact propext ⟨λ_=>by omega,λ_=>by omega⟩
   rw[e];exact dW hS
  rw[zzz h3,uu3];exact dW hS
 rw[zzb h2];exact dW hS
def qI{P:Program}{t:Ε}{fs:Array Field}{f:Field}{i:Nat}{vs:Γ}{v:Ω}{w:Α}{K:Ω->Prop}(ht:P.underlying t=some (.struct fs))(hf:fs[i]?=some f)(ha:∀w,(isAgg f.type).run P w= .ok false w)(hv:vs[f.offset]?=some v)(h:K v):
  jY P (Instr.field t (.agg vs.toArray) i) w K:=by
 refine⟨_,?_,h⟩;simp[Instr.field,asAgg,yym ht,Result.andThen,hf,part,ha,hv]
def Ut(x:iL):∀v∈lq x,v.oneCell'=true:=UB x
def Ki(x:iL):(lq x).length=3:=rfl
def yG(b:Nat)(ns:Ξ)(t:Ε)(hn:ns.length<=1000):
  SP 215 [.slice (some ⟨b,0,none⟩) ns.length ns.length] [.pt b (ns.map (Value.int .i64)) t] (λu post=>post=[.ob (bR u 327 3 ns.length ((ns.map iF).map lq).flatten)]):=by
 refine Enzz λW F w hS=>?_;apply gWb;delta Ph aI ai gI bI;have hS:=bR.nil (t:=327) (sz:=3) hS;refine Gp ?_;refine⟨λvs w=>∃(i:Nat) (u:Ω),vs=[u,.int .i64 i]/\i<=ns.length/\SL W (.ob (bR u 327 3 i (((ns.take i).map iF).map lq).flatten)::.pt b (ns.map (Value.int .i64)) t::F) w,
  λvs _=>match vs with|[_,.int _ i]=>(ns.length-i).toNat|_=>0,⟨0,_,rfl,by omega,hS⟩,?_⟩
 clear hS;rintro u v8 w ⟨i,_,jR,hi,hS⟩;cases jR;refine cF (λh=>?_) (λh=>?_)
 ·have d_:i<ns.length:=by omega
  refine zF d_ (zV hS Xh (v:=.int .i64 ns[i]) (by simp[d_]) ?_);refine Gm λb w hS=>?_;refine yu (n:=i) (xs:=(ns.take i).map iF) (y:=iF ns[i]) (enc:=lq) hS Xr Xh Ki Ut rfl (by omega) (by omega) λv2 w hS=>?_;refine Gp ?_;refine⟨⟨i+1,_,rfl,by omega,?_⟩,by dsimp only;omega⟩;rw[zze d_,zzt (f:=iF),xx4];exact aW hS
 have:i=ns.length:=by omega
 subst this;rw[zz1]at hS
 exact⟨_,rfl,aW hS⟩
def yN(s:Β):SP 217 [.string s] [] (e_ (agg (lq (tF s))) []):=by
 refine Enzz λW F w hS=>?_;apply gWd;delta Pk ai gI;refine Gm λb w hS=>?_;(exact dW hS)
def Zx(b:Bool):SP 216 [.bool b] [] (e_ (.int .i64 (l4 b)) []):=by
 refine Enzz λW F w hS=>?_;apply gWc;delta Pj ai;cases b<;>(repeat (first|refine Gp ?_|refine Gw λw hS=>?_|refine Gb λb w hS=>?_))<;>(exact dW hS)
def j9(rp:Nat)(r:ig):zB:=nT λv:Ω=>zG True [.pt rp [v,.bool r.bad] 330,.ob (iB v 327 3 r.l.length (r.l.map lq).flatten)]
def j9.iff{W w:Α}{rp:Nat}{r:ig}{l:Ψ}:SL W (.ob (j9 rp r)::l) w↔∃v,SL W (.pt rp [v,.bool r.bad] 330::.ob (iB v 327 3 r.l.length (r.l.map lq).flatten)::l) w:=by
 unfold j9;simp only[SL.ex,SL.fact,zzu,zzp,uus]
def Za(v:Ω)(l:List iL):SP 154 [v] [.ob (bR v 327 3 l.length (l.map lq).flatten)] (λu post=>∃rp:Nat,u= .pointer (some ⟨rp,0,none⟩)/\post=[.ob (j9 rp ⟨l,false⟩)]):=by
 refine Enzz λW F w hS=>?_;apply gIp;delta Oj bI;have h1:=bR.one hS;obtain⟨a,c,rfl,_⟩:=bR.at hS .hd;refine Gp ?_;refine zw hS λb w hS=>?_;refine⟨_,⟨b,rfl,rfl⟩,(j9.iff (r:=⟨l,false⟩)).2 ⟨.slice a l.length c,?_⟩⟩;exact (iB.of (hS.perm (.swap _ _ _))).perm (.swap _ _ _)
def Z3(rp:Nat)(r:ig)(k:Int):SP 210 [.pointer (some ⟨rp,0,none⟩),.int .i64 k] [.ob (j9 rp r)] (e_ (agg (lq (uY k r).1)) [.ob (j9 rp (uY k r).2)]):=by
 obtain⟨l,bad⟩:=r;refine Enzz λW F w hS=>?_;apply gR6;delta Pc aI bW a_ ia ai gI;obtain⟨v,hS⟩:=j9.iff.1 hS;simp only at hS;refine Gm λb w hS=>?_;cases bad with
 | true=>
  refine Gn λw hS=>?_;have e:uY k ⟨l,true⟩=(BX,⟨l,true⟩):=by unfold uY;rfl
  rw[e];exact⟨_,⟨rfl,rfl⟩,j9.iff.2 ⟨v,aW hS⟩⟩
 | false=>
  refine Gp ?_;refine zN hS (v:=v) Xh ?_;refine Gp ?_;cases l with
  | nil=>
   refine za (λh=>?_) (λh=>absurd rfl h);refine Gn λw hS=>?_;rw[show uY k ⟨[],false⟩=(BX,⟨[],true⟩) from rfl];exact⟨_,⟨rfl,rfl⟩,j9.iff.2 ⟨v,aW hS⟩⟩
  | cons f l=>
   refine za (λh=>by rw[zzj]at h;omega) (λh=>?_);refine Gp ?_;refine yZ (j:=0) (k:=.i64) hS (v:=v) Xh (by simp) λab ao hb=>yI ⟨_,.int .i64 f.kind,rfl,hb 0 _ (by decide) rfl,?_⟩;refine cF (λhk=>?_) (λhk=>?_)
   ·refine Gn λw hS=>?_;have e:uY k ⟨f::l,false⟩=(BX,⟨f::l,true⟩):=by unfold uY;exact zzb hk
    rw[e];exact⟨_,⟨rfl,rfl⟩,j9.iff.2 ⟨v,aW hS⟩⟩
   refine Gp ?_;refine qJ (j:=0) (k:=.i64) hS (v:=v) (enc:=lq) (xs:=f::l) Xh Ki rfl (by simp) ?_;refine Gm λb w hS=>?_;refine Yc (k:=1) (v:=v) (Has.front hS Xr) (by simp) λu hS=>?_;have hS:SL W (.ob (iB u 327 3 l.length (l.map lq).flatten)::_) _:=hS;have h1:=iB.one hS .hd;refine Gn λw hS=>?_;have e:uY k ⟨f::l,false⟩=(f,⟨l,false⟩):=by unfold uY;exact zzc (Classical.not_not.1 hk)
   rw[e];exact⟨_,⟨rfl,rfl⟩,j9.iff.2 ⟨u,aW hS⟩⟩
def zP(rp:Nat)(r:ig):SP 155 [.pointer (some ⟨rp,0,none⟩)] [.ob (j9 rp r)] (e_ (.int .i64 (kr r).1) [.ob (j9 rp (kr r).2)]):=by
 refine Enzz λW F w hS=>?_;apply gIq;delta Ol ai;refine Cg (Z3 rp r 1) λw hS=>?_;exact qI Tryz.underlying327 rfl (λw=>by kernel_rfl) rfl ⟨_,⟨rfl,rfl⟩,hS⟩
def yC(rp:Nat)(r:ig):SP 158 [.pointer (some ⟨rp,0,none⟩)] [.ob (j9 rp r)] (e_ (.string (ui r).1) [.ob (j9 rp (ui r).2)]):=by
 refine Enzz λW F w hS=>?_;apply gIt;delta Oo ai;refine Cg (Z3 rp r 2) λw hS=>?_;exact qI Tryz.underlying327 rfl (λw=>by kernel_rfl) rfl ⟨_,⟨rfl,rfl⟩,hS⟩
def j9.bad{W w:Α}{rp:Nat}{r:ig}{l:Ψ}(v:Ω)(h:SL W (.pt rp [v,.bool true] 330::.ob (iB v 327 3 r.l.length (r.l.map lq).flatten)::l) w):SL W (.ob (j9 rp {r with bad:=true})::l) w:=j9.iff.2 ⟨v,h⟩
def zy(rp:Nat)(r:ig)(m:Int):SP 156 [.pointer (some ⟨rp,0,none⟩),.int .i64 m] [.ob (j9 rp r)] (e_ (.int .i64 (iJ m r).1) [.ob (j9 rp (iJ m r).2)]):=by
 refine Enzz λW F w hS=>?_;apply gIr;delta Om aI ia ai;refine Cg (zP rp r) λw hS=>?_;have hB:((kr r).1<0\/m<(kr r).1)->iJ m r=(0,{(kr r).2 with bad:=true}):=λh=>zzc h;have hG:¬((kr r).1<0\/m<(kr r).1)->iJ m r=kr r:=λh=>zzb h;refine za (λh=>?_) (λh=>?_)
 ·rw[hB (.inl h)];obtain⟨v,hS⟩:=j9.iff.1 hS;refine Gn λw hS=>?_;exact⟨_,⟨rfl,rfl⟩,j9.bad v hS⟩
 refine cF (λh2=>?_) (λh2=>?_)
 ·rw[hB (.inr h2)];obtain⟨v,hS⟩:=j9.iff.1 hS;refine Gn λw hS=>?_;exact⟨_,⟨rfl,rfl⟩,j9.bad v hS⟩
 rw[hG (by omega)];(exact dW hS)
def y9(rp:Nat)(r:ig):SP 211 [.pointer (some ⟨rp,0,none⟩)] [.ob (j9 rp r)] (e_ (.bool (wR r).1) [.ob (j9 rp (wR r).2)]):=by
 refine Enzz λW F w hS=>?_;apply gR7;delta Pd ai;refine Cg (zy rp r 1) λw hS=>?_;exact⟨_,⟨rfl,rfl⟩,hS⟩
def y7(rp:Nat)(r:ig):SP 272 [.pointer (some ⟨rp,0,none⟩)] [.ob (j9 rp r)] (e_ (.bool (!r.bad)) [.ob (j9 rp r)]):=by
 refine Enzz λW F w hS=>?_;apply g_h;delta P1 bW;obtain⟨v,hS⟩:=j9.iff.1 hS;refine Gp ?_;exact⟨_,⟨rfl,rfl⟩,j9.iff.2 ⟨v,hS⟩⟩
def y6(rp:Nat)(r:ig):SP 159 [.pointer (some ⟨rp,0,none⟩)] [.ob (j9 rp r)] (e_ (.bool (decide (r.bad=false/\r.l=[]))) [.ob (j9 rp r)]):=by
 refine Enzz λW F w hS=>?_;apply gIu;delta Oq bW gi cW ai;obtain⟨v,hS⟩:=j9.iff.1 hS;refine Gp ?_;obtain⟨l,bad⟩:=r;cases bad with
 | true=>
  refine zp ?_;rw[zzz (by simp)];exact⟨_,⟨rfl,rfl⟩,j9.iff.2 ⟨v,hS⟩⟩
 | false=>
  refine zq ?_;refine Gp ?_;refine zN hS (v:=v) Xh ?_;refine Gp ?_;have e:decide ((l.length:Int)=0)=decide ((ig.mk l false).bad=false/\(ig.mk l false).l=[]):=by
   rw[yyg];simp
  rw[e];exact⟨_,⟨rfl,rfl⟩,j9.iff.2 ⟨v,hS⟩⟩
structure jB where
 table:Int
 key:Int
 gone:Bool
 val:Β
deriving DecidableEq
structure fF where
 aw:Int
 kind:Int
 changes:List jB
 signals:Θ
 mark:Int
def kQ(c:jB):Γ:=[.int .i64 c.table,.int .i64 c.key,.bool c.gone,.string c.val]
def wW(c:jB):(kQ c).length=4:=rfl
def Us(c:jB):∀v∈kQ c,v.oneCell'=true:=by simp[kQ,Value.oneCell']
structure s9 where
 aw:Int
 kind:Int
 cv:Ω
 sv:Ω
 mark:Int
def kJ(x:s9):Γ:=[.int .i64 x.aw,.int .i64 x.kind,x.cv,x.sv,.int .i64 x.mark]
structure rH(H:bw)(x:s9)(t:fF):Prop where
 aw:x.aw=t.aw
 kind:x.kind=t.kind
 mark:x.mark=t.mark
 cv:iD H 4 x.cv t.changes.length (t.changes.map kQ).flatten
 sv:iD H 1 x.sv t.signals.length (t.signals.map Value.string)
def lj(C:List Row):Prop:=C.Pairwise (λa b=>a.key<b.key)
def jW(C:List Row)(k:Int):Option Β:=(C.find? (λc=>decide (c.key=k))).map (·.val)
def lW:List Row->Row->List Row
 | [],c=>[c]
 | x::C,c=>if x.key<c.key then x::lW C c else if x.key=c.key then c::C else c::x::C
def ow:List Row->Int->List Row
 | [],_=>[]
 | x::C,k=>if x.key=k then C else x::ow C k
def pI(C:List Row)(c:jB):List Row:=if c.gone then ow C c.key else lW C ⟨c.key,c.val⟩
def AI(t:Int)(C:List Row)(c:jB):List Row:=if c.table=t then (if c.gone then ow C c.key else lW C ⟨c.key,c.val⟩) else C
def B1(t:Int)(l:List fF):List Row:=(l.flatMap (·.changes)).foldl (AI t) []
def Xq{C:List Row}{c x:Row}(h:x∈lW C c):x=c\/x∈C:=by
 induction C with
 | nil=>simpa [lW] using h
 | cons y C ih=>
  unfold lW at h;split at h
  ·rcases zz7.1 h with rfl|h
   ·exact .inr (.head _)
   rcases ih h with h|h
   ·exact .inl h
   exact .inr (.tail _ h)
  split at h
  ·rcases zz7.1 h with rfl|h
   ·exact .inl rfl
   exact .inr (.tail _ h)
  rcases zz7.1 h with rfl|h
  ·exact .inl rfl
  exact .inr h
def MO{C:List Row}(h:lj C)(c:Row):lj (lW C c):=by
 unfold lj at *
 induction C with
 | nil=>simp[lW]
 | cons y C ih=>
  rw[yyj]at h
  unfold lW;split
  ·rename_i iw;refine yyj.2 ⟨λz hz=>?_,ih h.2⟩;rcases Xq hz with rfl|hz
   ·exact iw
   exact h.1 z hz
  split
  ·rename_i he;exact yyj.2 ⟨λz hz=>by have:=h.1 z hz;omega,h.2⟩
  rename_i h1 h2;refine yyj.2 ⟨λz hz=>?_,yyj.2 h⟩;rcases zz7.1 hz with rfl|hz
  ·omega
  have:=h.1 z hz;omega
def Xn{C:List Row}{k:Int}{x:Row}(h:x∈ow C k):x∈C:=by
 induction C with
 | nil=>exact h
 | cons y C ih=>
  unfold ow at h;split at h
  ·exact .tail _ h
  rcases zz7.1 h with rfl|h
  ·exact .head _
  exact .tail _ (ih h)
def aw6{C:List Row}(h:lj C)(k:Int):lj (ow C k):=by
 unfold lj at *
 induction C with
 | nil=>exact h
 | cons y C ih=>
  rw[yyj]at h
  unfold ow;split
  ·exact h.2
  exact yyj.2 ⟨λz hz=>h.1 z (Xn hz),ih h.2⟩
def UT(C:List Row)(c:Row)(k:Int):jW (lW C c) k=if c.key=k then some c.val else jW C k:=by
 unfold jW;induction C with
 | nil=>by_cases h:c.key=k<;>simp[lW,h]
 | cons y C ih=>
  unfold lW;split
  ·by_cases h1:y.key=k
   ·have:c.key≠k:=by omega
    simp[h1,this]
   simp only[xxo,h1,ww6];exact ih
  split
  ·rename_i he;by_cases h1:c.key=k
   ·simp[h1]
   have:y.key≠k:=by omega
   simp[h1,this]
  by_cases h1:c.key=k<;>simp[h1]
def US{C:List Row}(hs:lj C)(k0 k:Int):jW (ow C k0) k=if k0=k then none else jW C k:=by
 unfold jW lj at *
 induction C with
 | nil=>simp[ow]
 | cons y C ih=>
  rw[yyj]at hs
  unfold ow;split
  ·rename_i he;by_cases h1:k0=k
   ·subst h1;have:C.find? (λc=>decide (c.key=k0))=none:=by
     rw[uu4];intro z hz;have:=hs.1 z hz;simp;omega
    simp[this]
   have:¬y.key=k:=by omega
   simp[h1,this]
  rename_i he;have LL:=ih hs.2;by_cases h1:y.key=k
  ·have:¬k0=k:=by omega
   simp[h1,this]
  simp only[xxo,h1,ww6];exact LL
def LW(C:List Row)(c:Row):(lW C c).length<=C.length+1:=by
 induction C with
 | nil=>simp[lW]
 | cons y C ih=>
  unfold lW;split
  ·simp;omega
  split<;>simp
def W4(C:List Row)(k:Int):(ow C k).length<=C.length:=by
 induction C with
 | nil=>exact zzi _
 | cons y C ih=>unfold ow;split<;>simp;omega
def eI9(t:Int)(C:List Row)(c:jB):(AI t C c).length<=C.length+1:=by
 unfold AI;have:=LW C ⟨c.key,c.val⟩;have:=W4 C c.key;split
 ·split<;>omega
 omega
def eWa{l:List jB}:∀(C:List Row) (t:Int),(l.foldl (AI t) C).length<=C.length+l.length:=by
 induction l with
 | nil=>intro C t;simp
 | cons c l ih=>intro C t;have:=ih (AI t C c) t;have:=eI9 t C c;simp only[wwd,zzj];omega
def dIb(k:Int)(fW:Nat):Nat:=(min (max k 0) (fW:Int)).toNat
set_option maxRecDepth 100000
open Go.RowKit
def qD(o:lA)(aw:Int):SP 326 [agg (nN o),.int .i64 aw] [] (e_ (.bool (ph o aw)) []):=by
 refine Enzz λW F w hS=>?_;apply h_r;delta RL aI a_ gi cW ai;refine zw hS λb w hS=>?_;unfold nN at hS;have hF:∀{w:Α},¬(1<=o.aw/\o.aw<=aw/\0<=o.table/\o.table<8/\1<=o.key/\o.key<=1099511627776/\o.val.size<=32)->SL W (.pt b [.int .i64 o.aw,.int .i64 o.table,.int .i64 o.key,.bool o.gone,.string o.val] 390::F) w ->
   ∃post,e_ (.bool (ph o aw)) [] (.bool false) post/\SL W (app post F) w:=λh hS=>⟨_,⟨by rw[show ph o aw=false by unfold ph;rw[yy7];exact λk=>h ⟨k.1,k.2.1,k.2.2.1,k.2.2.2.1,k.2.2.2.2.1,k.2.2.2.2.2.1,k.2.2.2.2.2.2.1⟩],rfl⟩,aW hS⟩
 (repeat (first|refine Gp ?_|refine Gw λw hS=>?_|refine za (λ_=>hF (by omega) hS) (λ_=>?_)|refine za (λ_=>?_) (λ_=>hF (by omega) hS)))
 have e:ph o aw=decide (o.gone=true->o.val=emp):=by
  unfold ph;rw[yyg];exact⟨λh=>h.2.2.2.2.2.2.2,λh=>⟨by omega,by omega,by omega,by omega,by omega,by omega,by omega,h⟩⟩
 rw[e];refine zu (λh=>?_) (λh=>?_)
 ·rw[h,zzm (by simp)];(exact dW hS)
 refine Gp ?_;rw[h];have e2:decide (true=true->o.val=emp)=decide (o.val={data:=#[]}):=by rw[yyg];exact⟨λh=>h rfl,λh _=>h⟩
 rw[e2];(exact dW hS)
def e_8(n:mn)(aw:Int){W w:Α}{F:Ψ}(hS:SL W F w):JF (agg (pc n)) (.int .i64 aw) w λv w'=>∃post,e_ (.bool (nm n aw)) [] v post/\SL W (app post F) w':=by
 delta JF aI a_ cW ai;refine zw hS λb w hS=>?_;unfold pc at hS;have hF:∀{w:Α},¬(1<=n.id/\n.id<=64/\((n.kind=1/\0<=n.table/\n.table<8/\1<=n.weight/\n.weight<=8/\1<=n.at_/\n.at_<=aw/\n.iH=0)\/(n.kind=2/\n.table=0/\n.weight=0/\n.at_=0/\0<=n.iH))) ->
   SL W (.pt b [.int .i64 n.kind,.int .i64 n.id,.int .i64 n.table,.int .i64 n.weight,.int .i64 n.at_,.int .i64 n.iH,.bool n.done] 393::F) w->∃post,e_ (.bool (nm n aw)) [] (.bool false) post/\SL W (app post F) w:=λh hS=>⟨_,⟨by
    rw[show nm n aw=false by
     unfold nm;rw[yy7];rintro ⟨h1,h2,h3⟩;rcases h3 with h3|h3
     ·exact h ⟨h1,h2,.inl ⟨h3.1,h3.2.1,h3.2.2.1,h3.2.2.2.1,h3.2.2.2.2.1,h3.2.2.2.2.2.1,h3.2.2.2.2.2.2.1,h3.2.2.2.2.2.2.2.1⟩⟩
     exact h ⟨h1,h2,.inr ⟨h3.1,h3.2.1,h3.2.2.1,h3.2.2.2.1,h3.2.2.2.2.1⟩⟩],rfl⟩,aW hS⟩
 refine Gp ?_;refine za (λ_=>hF (by omega) hS) (λ_=>?_);refine Gp ?_;refine za (λ_=>hF (by omega) hS) (λ_=>?_);refine cF (λ_=>?_) (λ_=>?_)
 ·(repeat (first|refine Gp ?_|refine Gw λw hS=>?_|refine za (λ_=>hF (by omega) hS) (λ_=>?_)|refine za (λ_=>?_) (λ_=>hF (by omega) hS)))
  have e:nm n aw = !n.done:=by
   unfold nm;rw[uuv,uud];cases n.done<;>simp<;>omega
  rw[e];(exact dW hS)
 (repeat (first|refine Gp ?_|refine Gw λw hS=>?_|refine za (λ_=>hF (by omega) hS) (λ_=>?_)|refine za (λ_=>?_) (λ_=>hF (by omega) hS)))
 have e:nm n aw=decide (n.iH<=1099511627776):=by
  unfold nm;rw[yyg];omega
 rw[e];(exact dW hS)
def Yo(n:mn)(aw:Int):SP 327 [agg (pc n),.int .i64 aw] [] (e_ (.bool (nm n aw)) []):=λW F w hS=>h_s _ _ _ _ (e_8 n aw hS)
def rS(c:jB)(k:Int):Bool:=decide (0<=c.table/\c.table<k/\1<=c.key/\c.key<=1099511627776/\c.val.size<=32/\(c.gone=true->c.val=emp))
def IB{x:eF}(h:¬(1<=x.aw/\x.aw<=1099511627776/\x.ops.length<=4096/\x.notes.length<=256)):jE x=false:=by
 unfold jE;rw[zzz h];rfl
def eWw{x:eF}{i:Nat}(hi:i<x.ops.length)(h:ph x.ops[i] x.aw=false):jE x=false:=by
 cases hm:jE x with
 | false=>rfl
 | true=>
  unfold jE at hm;rw[zz9,zz9,zz5]at hm
  rw[hm.1.2 _ (zzg hi)]at h;cases h
def eWx{x:eF}{i:Nat}(hi:i<x.notes.length)(h:nm x.notes[i] x.aw=false):jE x=false:=by
 cases hm:jE x with
 | false=>rfl
 | true=>
  unfold jE at hm;rw[zz9,zz9,zz5,zz5]at hm
  rw[hm.2 _ (zzg hi)]at h;cases h
def eWy{x:eF}(h:1<=x.aw/\x.aw<=1099511627776/\x.ops.length<=4096/\x.notes.length<=256)(h1:∀j (hj:j<x.ops.length),ph x.ops[j] x.aw=true)(h2:∀j (hj:j<x.notes.length),nm x.notes[j] x.aw=true):jE x=true:=by
 unfold jE;rw[zz9,zz9,zz5,zz5];refine⟨⟨zzm h,λo ho=>?_⟩,λn hn=>?_⟩
 ·obtain⟨j,hj,rfl⟩:=yyi ho;exact h1 j hj
 obtain⟨j,hj,rfl⟩:=yyi hn;exact h2 j hj
def zY(H:bw)(x:mA)(t:eF)(hx:ma H x t):SP 275 [agg (jP x)] [.mem H] (e_ (.bool (jE t)) [.mem H]):=by
 refine Enzz λW F w hS=>?_;apply g_k;delta P4 aI a_ gi cW ai gI;refine zw hS λxb w hS=>?_;unfold jP at hS;rw[hx.aw]at hS
 have hF:∀{w:Α},jE t=false->SL W (.pt xb [.int .i64 t.aw,x.ov,x.nv] 214::.mem H::F) w->∃post,e_ (.bool (jE t)) [.mem H] (.bool false) post/\SL W (app post F) w:=λh hS=>⟨_,⟨by rw[h],rfl⟩,aW hS⟩;refine Gp ?_;refine za (λh=>hF (IB (by omega)) hS) (λh1=>?_);refine Gp ?_;refine za (λh=>hF (IB (by omega)) hS) (λh2=>?_);refine Gp ?_;refine zo hx.ops ?_;refine Gp ?_;refine za (λh=>hF (IB (by omega)) hS) (λh3=>?_);refine Gp ?_;refine zo hx.mO ?_;refine Gp ?_;refine za (λh=>hF (IB (by omega)) hS) (λh4=>?_);refine Gp ?_;refine zo hx.ops ?_;refine⟨λvs w=>∃i:Nat,vs=[.int .i64 i]/\i<=t.ops.length/\(∀j (hj:j<t.ops.length),j<i->ph t.ops[j] t.aw=true)/\SL W (.pt xb [.int .i64 t.aw,x.ov,x.nv] 214::.mem H::F) w,
  λvs _=>match vs with|[.int _ i]=>(t.ops.length-i).toNat|_=>0,⟨0,rfl,by omega,λj hj h=>by omega,hS⟩,?_⟩
 clear hS;rintro v3 w ⟨i,jR,hi,jJ,hS⟩;cases jR;refine cF (λh=>?_) (λh=>?_)
 ·have d_:i<t.ops.length:=by omega
  refine zE hS Xh BV hx.ops (x:=t.ops[i]) (by simp[d_]) d_ ?_;refine Gm λb w hS=>?_;refine Cg (qD t.ops[i] t.aw) λw hS=>?_;refine zu (λh=>hF (eWw d_ h) (aW hS)) (λh=>?_);refine Gp ?_;refine⟨⟨i+1,rfl,by omega,λj hj m_=>?_,aW hS⟩,by dsimp only;omega⟩;by_cases e:j=i
  ·subst e;exact h
  exact jJ j hj (by omega)
 have nX:i=t.ops.length:=by omega
 have iY:∀j (hj:j<t.ops.length),ph t.ops[j] t.aw=true:=λj hj=>jJ j hj (by omega);clear jJ;refine Gp ?_;refine zo hx.mO ?_;refine⟨λvs w=>∃i:Nat,vs=[.int .i64 i]/\i<=t.notes.length/\(∀j (hj:j<t.notes.length),j<i->nm t.notes[j] t.aw=true)/\SL W (.pt xb [.int .i64 t.aw,x.ov,x.nv] 214::.mem H::F) w,
  λvs _=>match vs with|[.int _ i]=>(t.notes.length-i).toNat|_=>0,⟨0,rfl,by omega,λj hj h=>by omega,aW hS⟩,?_⟩
 clear hS;rintro v5 w ⟨i,jR,hi,jJ,hS⟩;cases jR;refine cF (λh=>?_) (λh=>?_)
 ·have d_:i<t.notes.length:=by omega
  refine zE hS Xh BT hx.mO (x:=t.notes[i]) (by simp[d_]) d_ ?_;refine Gm λb w hS=>?_;refine Cg (Yo t.notes[i] t.aw) λw hS=>?_;refine zu (λh=>hF (eWx d_ h) (aW hS)) (λh=>?_);refine Gp ?_;refine⟨⟨i+1,rfl,by omega,λj hj m_=>?_,aW hS⟩,by dsimp only;omega⟩;by_cases e:j=i
  ·subst e;exact h
  exact jJ j hj (by omega)
 rw[eWy (by omega) iY λj hj=>jJ j hj (by omega)];(exact dW hS)
def Ba(x:iL):Prop:=(x.kind=1/\0<=x.n/\x.n<1152921504606846976/\x.s=emp)\/(x.kind=2/\x.n=0/\x.s.size<=4096)
def Ba.right{x:iL}(h:Ba x):tH x=true:=by
 unfold tH;rcases h with ⟨h1,_,_,h2⟩|⟨h1,h2,h3⟩
 ·rw[zzc h1,h2];rfl
 rw[zzb (by omega),zzc h1,zzm h2,zzm h3];rfl
def XM{n:Nat}(h:n<65536):mR (jS n 2)=n:=by
 have f:∀k,((n:Int).fdiv (2 ^ (8*k)))=((n / 2 ^ (8*k):Nat):Int):=λk=>by
  have:=Fb n (2 ^ (8*k)) (Nat.two_pow_pos _);rw[<- this];push_cast;rfl
 unfold jS jS jS;simp only[f,mR,wwd,tti,LY,show (2:Nat) ^ (8*1)=256 from rfl,show (2:Nat) ^ (8*0)=1 from rfl];omega
def T5:∀(l acc:List iL),(∀x∈l,Ba x)->tO acc l.length ⟨(l.map kq).flatten,0⟩= .ok (acc++l)
 | [],acc,_=>by
  rw[yy4,xxx,yyo,bRe,zzb (by simp),zzw]
 | x::l,acc,h=>by
  have hx:=h x (.head _);have ih:=T5 l (acc++[x]) λy hy=>h y (.tail _ hy);obtain⟨kind,n,s⟩:=x;rw[zzn,zz4,zzj];rcases hx with ⟨h1,h2,h3,h4⟩|⟨h1,h2,h3⟩
  ·have h1:kind=1:=h1;have h4:s=emp:=h4;subst h1 h4;obtain⟨m,rfl⟩:=xx8 h2;have hm:m<1152921504606846976:=by have h3:(m:Int)<1152921504606846976:=h3;omega
   have e:kq ⟨1,(m:Int),emp⟩=lX 1::jS (m:Int) 8:=by
    show lX 1::jS ((m:Int) % 18446744073709551616) 8=_;rw[show (m:Int) % 18446744073709551616=(m:Int) by omega]
   have hl:=pW (m:Int) 8;rw[e,zzu,bRc (by decide),zzb (by rw[zza,hl];omega),uuw hl,uux hl,XN hm,sig,zzc (by omega)];rw[zzk]at ih
   exact ih
  have h1:kind=2:=h1;have h2:n=0:=h2;have h3:s.size<=4096:=h3;subst h1 h2;have e:kq ⟨2,0,s⟩=lX 2::(jS (s.size:Nat) 2++s.data.toList):=rfl;have hl:=pW (s.size:Int) 2;have hs:s.data.toList.length=s.size:=rfl;rw[e,zzu,zzk,bRd (by decide),zzb (by rw[zza,hl];omega),uuw hl,uux hl,XM (by omega),zzb (by omega),
   zzb (by rw[zza,zza,hl];omega),uuw hs,uux hs]
  rw[zzk]at ih
  exact ih
def J9{l:List iL}(hl:l.length<=32767)(h:∀x∈l,Ba x):tj l= .ok (jS l.length 2++(l.map kq).flatten)/\nL (jS l.length 2++(l.map kq).flatten)= .ok l:=by
 have h2:=pW (l.length:Int) 2;have hb:=XM (n:=l.length) (by omega);refine⟨?_,?_⟩
 ·unfold tj;rw[zzb (by omega),zzc (zz5.2 λx hx=>(h x hx).right)]
 have ht:(jS (l.length:Int) 2++(l.map kq).flatten).take 2=jS l.length 2:=uuw h2;have hd:(jS (l.length:Int) 2++(l.map kq).flatten).drop 2=(l.map kq).flatten:=uux h2;rw[bRa (by rw[zza,h2];omega) (by rw[ht,hb];omega),ht,hd,hb,T5 l [] h,zzp]
def tC{x:eF}:jE x=true↔(1<=x.aw/\x.aw<=1099511627776/\x.ops.length<=4096/\x.notes.length<=256)/\(∀o∈x.ops,ph o x.aw=true)/\∀n∈x.notes,nm n x.aw=true:=by
 unfold jE;rw[zz9,zz9,zzx,zz5,zz5,and_assoc]
def Gc{o:lA}{aw:Int}:ph o aw=true↔1<=o.aw/\o.aw<=aw/\0<=o.table/\o.table<8/\1<=o.key/\o.key<=1099511627776/\o.val.size<=32/\(o.gone=true->o.val=emp):=by unfold ph;rw[zzx]
def Ga{n:mn}{aw:Int}:nm n aw=true↔1<=n.id/\n.id<=64/\((n.kind=1/\0<=n.table/\n.table<8/\1<=n.weight/\n.weight<=8/\1<=n.at_/\n.at_<=aw/\n.iH=0/\n.done=false)\/(n.kind=2/\n.table=0/\n.weight=0/\n.at_=0/\0<=n.iH/\n.iH<=1099511627776)):=by unfold nm;rw[zzx]
def G7(b:Bool):0<=l4 b/\l4 b<=1:=by cases b<;>decide
def pS{n:Int}(h:0<=n/\n<=1099511627776):Ba (iF n):=.inl ⟨rfl,h.1,by show n<_;omega,rfl⟩
def cF1{x:eF}(h:jE x=true):∀f∈px x,Ba f:=by
 obtain⟨h0,ho,hn⟩:=tC.1 h;intro f hf;unfold px at hf;simp only[zz0,zz7,xx5,zzy,xxj,vvv]at hf;rcases hf with ((rfl|rfl)|⟨l,⟨o,FM,rfl⟩,hf⟩)|rfl|⟨l,⟨n,vq,rfl⟩,hf⟩
 ·exact pS (by omega)
 ·exact pS (by omega)
 ·have h1:=Gc.1 (ho o FM);have hb:=G7 o.gone;unfold uI at hf;simp only[zz7,xxj,vvv]at hf;rcases hf with rfl|rfl|rfl|rfl|rfl
  ·exact pS (by omega)
  ·exact pS (by omega)
  ·exact pS (by omega)
  ·exact pS (by omega)
  exact .inr ⟨rfl,rfl,by show o.val.size<=4096;omega⟩
 ·exact pS (by omega)
 have h1:=Ga.1 (hn n vq);have hb:=G7 n.done;unfold uH at hf;simp only[zz7,xxj,vvv]at hf;rcases hf with rfl|rfl|rfl|rfl|rfl|rfl|rfl<;>exact pS (by omega)
def Ds{α β:Type}{f:α->List β}{k:Nat}(h:∀x,(f x).length=k):∀l:List α,((l.map f).flatten).length=l.length*k
 | []=>by simp
 | x::l=>by rw[zzn,zz4,zza,h,Ds h l,zzj,Nat.succ_mul,uu0]
def cF2(x:eF):(px x).length=3+x.ops.length*5+x.notes.length*7:=by
 unfold px;simp only[zza,zzj,yyo];rw[Ds (f:=uI) (k:=5) (λ_=>rfl),Ds (f:=uH) (k:=7) (λ_=>rfl)];omega
def Ke{x:eF}(h:jE x=true):xS x= .ok (jS (px x).length 2++((px x).map kq).flatten)/\nL (jS (px x).length 2++((px x).map kq).flatten)= .ok (px x):=by
 have hl:=cF2 x;obtain⟨h0,_,_⟩:=tC.1 h;obtain⟨e1,e2⟩:=J9 (l:=px x) (by omega) (cF1 h);exact⟨by unfold xS;rw[zzc h,e1],e2⟩
def uh{m n:Int}{l:List iL}(h:0<=n/\n<=m):iJ m ⟨iF n::l,false⟩=(n,⟨l,false⟩):=by
 have e:kr ⟨iF n::l,false⟩=(n,⟨l,false⟩):=rfl;unfold iJ;rw[e,zzb (by show ¬(n<0\/m<n);omega)]
def JZ{b:Bool}{l:List iL}:wR ⟨iF (l4 b)::l,false⟩=(b,⟨l,false⟩):=by
 unfold wR;rw[uh (G7 b)];cases b<;>rfl
def fw2{o:lA}{l:List iL}(h:0<=o.table/\o.table<=8):s4 ⟨uI o++l,false⟩=(o,⟨l,false⟩):=by
 unfold s4 uI;have e1:kr ⟨[iF o.aw,iF o.table,iF o.key,iF (l4 o.gone),tF o.val]++l,false⟩=(o.aw,⟨[iF o.table,iF o.key,iF (l4 o.gone),tF o.val]++l,false⟩):=rfl;have e2:iJ 8 ⟨[iF o.table,iF o.key,iF (l4 o.gone),tF o.val]++l,false⟩=(o.table,⟨[iF o.key,iF (l4 o.gone),tF o.val]++l,false⟩):=uh h;have e3:kr ⟨[iF o.key,iF (l4 o.gone),tF o.val]++l,false⟩=(o.key,⟨[iF (l4 o.gone),tF o.val]++l,false⟩):=rfl;have e4:wR ⟨[iF (l4 o.gone),tF o.val]++l,false⟩=(o.gone,⟨[tF o.val]++l,false⟩):=JZ;have e5:ui ⟨[tF o.val]++l,false⟩=(o.val,⟨l,false⟩):=rfl;simp only[e1,e2,e3,e4,e5]
def e_7{n:mn}{l:List iL}(h1:0<=n.kind/\n.kind<=2)(h2:0<=n.id/\n.id<=64)(h3:0<=n.table/\n.table<=8)(h4:0<=n.weight/\n.weight<=8):uf ⟨uH n++l,false⟩=(n,⟨l,false⟩):=by
 unfold uf uH;have e1:iJ 2 ⟨[iF n.kind,iF n.id,iF n.table,iF n.weight,iF n.at_,iF n.iH,iF (l4 n.done)]++l,false⟩=(n.kind,⟨[iF n.id,iF n.table,iF n.weight,iF n.at_,iF n.iH,iF (l4 n.done)]++l,false⟩):=uh h1;have e2:iJ 64 ⟨[iF n.id,iF n.table,iF n.weight,iF n.at_,iF n.iH,iF (l4 n.done)]++l,false⟩=(n.id,⟨[iF n.table,iF n.weight,iF n.at_,iF n.iH,iF (l4 n.done)]++l,false⟩):=uh h2;have e3:iJ 8 ⟨[iF n.table,iF n.weight,iF n.at_,iF n.iH,iF (l4 n.done)]++l,false⟩=(n.table,⟨[iF n.weight,iF n.at_,iF n.iH,iF (l4 n.done)]++l,false⟩):=uh h3;have e4:iJ 8 ⟨[iF n.weight,iF n.at_,iF n.iH,iF (l4 n.done)]++l,false⟩=(n.weight,⟨[iF n.at_,iF n.iH,iF (l4 n.done)]++l,false⟩):=uh h4;have e5:kr ⟨[iF n.at_,iF n.iH,iF (l4 n.done)]++l,false⟩=(n.at_,⟨[iF n.iH,iF (l4 n.done)]++l,false⟩):=rfl;have e6:kr ⟨[iF n.iH,iF (l4 n.done)]++l,false⟩=(n.iH,⟨[iF (l4 n.done)]++l,false⟩):=rfl;have e7:wR ⟨[iF (l4 n.done)]++l,false⟩=(n.done,⟨l,false⟩):=JZ;simp only[e1,e2,e3,e4,e5,e6,e7]
def Iz{α:Type}{one:ig->α × ig}{f:α->List iL}:∀(xs:List α) (l:List iL),(∀x∈xs,∀l,one ⟨f x++l,false⟩=(x,⟨l,false⟩))->mU one xs.length ⟨(xs.map f).flatten++l,false⟩=(xs,⟨l,false⟩)
 | [],l,_=>rfl
 | x::xs,l,h=>by
  have ih:=Iz xs l λy hy=>h y (.tail _ hy);have h1:=h x (.head _) ((xs.map f).flatten++l);rw[zzn,zz4,zzk,zzj,mU,zzb (by simp),h1,ih]
def eFx{x:eF}(h:jE x=true):sZ ⟨px x,false⟩=(x,⟨[],false⟩):=by
 obtain⟨h0,ho,hn⟩:=tC.1 h;have e0:px x=iF x.aw::(iF x.ops.length::((x.ops.map uI).flatten++(iF x.notes.length::((x.notes.map uH).flatten++[])))):=by
  unfold px;simp
 rw[e0];unfold sZ;have e1:∀l,kr ⟨iF x.aw::l,false⟩=(x.aw,⟨l,false⟩):=λl=>rfl;have e2:∀l,iJ 4096 ⟨iF x.ops.length::l,false⟩=((x.ops.length:Int),⟨l,false⟩):=λl=>uh (by omega);have e3:∀l,mU s4 x.ops.length ⟨(x.ops.map uI).flatten++l,false⟩=(x.ops,⟨l,false⟩):=λl=>Iz x.ops l λo FM l=>fw2 (by have:=Gc.1 (ho o FM);omega);have e4:∀l,iJ 256 ⟨iF x.notes.length::l,false⟩=((x.notes.length:Int),⟨l,false⟩):=λl=>uh (by omega);have e5:∀l,mU uf x.notes.length ⟨(x.notes.map uH).flatten++l,false⟩=(x.notes,⟨l,false⟩):=λl=>Iz x.notes l λn vq l=>by
  have:=Ga.1 (hn n vq);exact e_7 (by omega) (by omega) (by omega) (by omega)
 simp only[e1,e2,e3,e4,e5,zzv]
def T'{x:eF}(h:jE x=true):∃b,xS x= .ok b/\sQ b= .ok x:=by
 obtain⟨e1,e2⟩:=Ke h;refine⟨_,e1,?_⟩;unfold sQ;rw[e2];have e3:Dg (px x)=some x:=by
  unfold Dg;rw[eFx h];simp only;rw[zzc ⟨trivial,trivial,h⟩]
 simp only[e3]
def AM(n:Int):(kq (iF n)).length=9:=by
 show (lX 1::jS (Bo n) 8).length=9;rw[zzj,pW]
def xU{α β:Type}{f:α->List β}{k:Nat}:∀l:List α,(∀x∈l,(f x).length<=k)->((l.map f).flatten).length<=l.length*k
 | [],_=>by simp
 | x::l,h=>by
  have h1:=h x (.head _);have ih:=xU l λy hy=>h y (.tail _ hy);rw[zzn,zz4,zza,zzj,Nat.succ_mul];omega
def E7(l:List (List iL)):(l.flatten.map kq).flatten=(l.map λx=>(x.map kq).flatten).flatten:=by
 induction l with
 | nil=>rfl
 | cons x l ih=>simp only[zz4,zzt,yys,zzn,ih]
def b_0{x:eF}(h:jE x=true){b:Δ}(hb:xS x= .ok b):b.length<=29+x.ops.length*71+x.notes.length*63:=by
 obtain⟨h0,ho,hn⟩:=tC.1 h;rw[(Ke h).1]at hb
 cases hb;rw[zza,pW];unfold px;simp only[zzt,zzn,yy4,yys,zz4,xxx,zza,zzw,AM];rw[E7,E7,xxs,xxs];have k1:=xU (f:=(λx=>(x.map kq).flatten)∘uI) (k:=71) x.ops λo FM=>by
  have:=(Gc.1 (ho o FM)).2.2.2.2.2.2.1;have e:(kq (tF o.val)).length=3+o.val.size:=by
   show (lX 2::(jS (o.val.size:Nat) 2++o.val.data.toList)).length=_;rw[zzj,zza,pW];have:o.val.data.toList.length=o.val.size:=rfl;omega
  show (((uI o).map kq).flatten).length<=71;unfold uI;simp only[zzn,yy4,zz4,xxx,zza,yyo,AM,e];omega
 have k2:=xU (f:=(λx=>(x.map kq).flatten)∘uH) (k:=63) x.notes λn vq=>by
  show (((uH n).map kq).flatten).length<=63;unfold uH;simp only[zzn,yy4,zz4,xxx,zza,yyo,AM];omega
 omega

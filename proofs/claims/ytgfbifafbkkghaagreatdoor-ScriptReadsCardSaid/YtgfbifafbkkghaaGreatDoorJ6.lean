/- Part. -/
import Derived.Test.YtgfbifafbkkghaaGreatDoorJ5
namespace Go.Proofs.YtgfbifafbkkghaaGreatDoor
set_option linter.all false
open Go.RowKit Go.Proofs.Tryz
def uug:=@Nat.pow_le_pow_right
def yyx:=@underlying9
def yyy:=@underlying5
def wwc:=@List.map_singleton
def uuw:=@Classical.not_not
def uux:=@underlying58
def uur:=@List.find?_eq_none
def xxg:=@Bool.eq_iff_iff
def vv0:=@decide_eq_true_iff
def yyf:=@List.getElem_of_mem
def xxo:=@Int.eq_ofNat_of_zero_le
def xxh:=@List.take_left'
def xxk:=@List.drop_left'
section
variable {W w:Ζ} {l:Β} {P:Program}
def awi{t:Ι}{s:Η}{j:Nat}{k:IntKind}{K:Ε->Prop}(ht:P.underlying t=some .string)(hj:j<s.size)(h:K (.int .u8 (s[j]).toNat)):dC P (Instr.index t (.string s) (.int k (j:Int))) w K:=by
 refine⟨_,?_,h⟩;have:s[j]?=some s[j]:=by simp[hj]
 simp[Instr.index,asIntOf,zzu ht,Result.andThen,this]
def Ye{src dst e:Ι}{b:Nat}{n:Int}{cap:Nat}{t:Ι}{K:Ε->Prop}(hS:SL W l w)(hm:Has (.pt b [.int .u8 n] t) l)(h1:P.underlying src=some (.slice e))(h2:P.underlying dst=some .string)(h3:P.underlying e=some (.int .u8))
  (h:K (.string ⟨#[UInt8.ofNat n.toNat]⟩)):dC P (convert src dst (.slice (some ⟨b,0,none⟩) 1 cap)) w K:=by
 refine⟨_,?_,h⟩;have hc:w.cell? ⟨b,0,none⟩=some (.int .u8 n):=hS.cell hm rfl;have hl:(loadCells ⟨b,0,none⟩ 1).run P w= .ok ([n].map (Value.int .u8)).toArray w:=by
  refine wwp (P:=P) (w:=w) ⟨b,0,none⟩ [.int .u8 n] (λj v hj=>?_)
  match j,hj with
  | 0,hj=>
   simp at hj;subst hj;rw[zz7];exact hc
 have:=run_bytesToString (P:=P) w ⟨b,0,none⟩ 1 cap [n] hl;simp[convert,zzu h1,zzu h2,zzu h3,Result.andThen,this];rfl
def qM{a b:Η}{K:Ε->Prop}(hr:a.size+b.size<=1000000)(h:K (.string (a++b))):zc .add (.string a) (.string b) K:=by
 refine⟨_,?_,h⟩;have hm:IntKind.i64.max=9223372036854775807:=by decide
 simp only[gv];rw[zzb (by rw[hm];omega)]
end
set_option maxRecDepth 100000
def ji(bs:Φ):Η:=⟨bs.toArray⟩
def Jn{a b:Φ}:ji a=ji b↔a=b:=by
 constructor
 ·intro h;have:=yyl ByteArray.data h;exact List.toArray_inj this
 rintro rfl;rfl
def fold_push:∀(bs:Φ) (s:Η),(bs.map λb=>(b.toNat:Int)).foldl (λr n=>r.push (UInt8.ofNat n.toNat)) s=⟨s.data++bs.toArray⟩
 | [],s=>by cases s;simp
 | b::bs,s=>by
  simp only[zzj,xxw];rw[fold_push bs];cases s;simp[ByteArray.push]
section
variable {W w:Ζ} {l:Β} {P:Program}
def yf{src dst e:Ι}{v:Ε}{bs:Φ}{K:Ε->Prop}(hv:∃a n c,v= .slice a n c)(gb:il w 1 v bs.length (bs.map bo))(h1:P.underlying src=some (.slice e))(h2:P.underlying dst=some .string)(h3:P.underlying e=some (.int .u8))
  (h:K (.string (ji bs))):dC P (convert src dst v) w K:=by
 refine⟨_,?_,h⟩;obtain⟨a,n,c,rfl⟩:=hv;rw[run_convert_bytes_string w src dst e a n c h1 h3 h2];cases a with
 | none=>
  obtain⟨e1,e2⟩:=gb;have:bs=[]:=by simpa using e2
  subst this;rfl
 | some p=>
  obtain⟨e1,e2,e3⟩:=gb;subst e1;have hl:(loadCells p bs.length).run P w= .ok ((bs.map λb=>(b.toNat:Int)).map (Value.int .u8)).toArray w:=by
   have h4:=wwp (P:=P) (w:=w) p (bs.map bo) e3;rw[yyh]at h4
   rw[h4,xxj];rfl
  rw[run_bytesToString w p bs.length c _ hl,fold_push];simp[ji]
def tU{a b:Η}{K:Ε->Prop}(hr:a.size+b.size<=9223372036854775807)(h:K (.string (a++b))):zc .add (.string a) (.string b) K:=by
 refine⟨_,?_,h⟩;have hm:IntKind.i64.max=9223372036854775807:=by decide
 simp only[gv];rw[zzb (by rw[hm];omega)]
def bK.pO{H:aX}{sz n:Nat}{v:Ε}{cells:Ξ}(h:bK H sz v n cells):∃a n c,v= .slice a n c:=by
 obtain⟨_,a,cap,rfl,_,_⟩:=h;exact⟨_,_,_,rfl⟩
end
abbrev jT(rp:Nat)(r:fO)(v:Ε):Μ:=.pt rp [v,Γ r.e] 109
def M6(n:Nat)(r:fO):(eN n r).1.length<=n/\(eN n r).1.length<=r.b.length/\(eN n r).2.b.length<=r.b.length:=by
 unfold eN;split
 ·simp
 split
 ·simp
 simp only[zzn,zz0];omega
def Pc(X:Μ)(rp n:Nat)(r:fO)(u:Ε)(post:Β):Prop:=∃v',bN X u (eN n r).1/\bN X v' (eN n r).2.b/\post=[jT rp (eN n r).2 v',X]
def Yc(X:Μ)(rp n:Nat)(v:Ε)(r:fO)(hv:bN X v r.b):SP 108 [Δ rp,Γ n] [jT rp r v,X] (Pc X rp n r):=by
 refine Enzz λW F w hS=>?_;apply aI9;delta aF bd cq ai aZ;have nX:=hv.one hS Xh;refine⟨λvs w=>vs=[]/\∃e,e=(if r.e=0/\r.b.length<n then 2 else r.e)/\SL W (.pt rp [v,Γ e] 109::X::F) w,?_,?_⟩
 ·refine bw (λh=>?_) (λh=>?_)
  ·refine Gp ?_;refine zN hS Xh hv ?_;refine bw (λh2=>?_) (λh2=>?_)
   ·refine Gn λw hS=>?_;exact⟨2,by rw[zzd ⟨h,by omega⟩],hS⟩
   refine⟨rfl,_,rfl,?_⟩;rw[zzb (by omega)];exact hS
  refine⟨rfl,_,rfl,?_⟩;rw[zzb (by omega)];exact hS
 rintro w ⟨_,e,he,hS⟩;refine Gp ?_;by_cases h1:r.e=0
 ·by_cases h2:r.b.length<n
  ·rw[zzd ⟨h1,h2⟩]at he
   subst he;refine Υ ?_;have e1:eN n r=([],{r with e:=2}):=by unfold eN;rw[zzb (by simp[h1]),zzd h2]
   refine⟨_,⟨v,?_,?_,rfl⟩,?_⟩
   ·rw[e1];exact bN.nil
   ·rw[e1];exact hv
   rw[e1];exact hS
  rw[zzb (by omega),h1]at he
  subst he;refine Χ ?_;have e1:eN n r=(r.b.take n,{r with b:=r.b.drop n}):=by unfold eN;rw[zzb (by simp[h1]),zzb h2]
  refine Gp ?_;refine Qk hS Xh hv (by omega) ?_;intro u hu;refine Gp ?_;refine Ql hS Xh hv (by omega) ?_;intro v' lM;have bc6:=lM.one hS Xh;refine Gn λw hS=>?_;refine⟨_,⟨v',?_,?_,rfl⟩,?_⟩
  ·rw[e1];exact hu
  ·rw[e1];exact lM
  rw[e1];simp only[h1];exact hS
 rw[zzb (by omega)]at he
 subst he;refine za (λ_=>?_) (λh=>absurd h1 h);have e1:eN n r=([],r):=by unfold eN;rw[zzd h1]
 refine⟨_,⟨v,?_,?_,rfl⟩,?_⟩
 ·rw[e1];exact bN.nil
 ·rw[e1];exact hv
 rw[e1];exact hS
def Nt{a b:Nat}(ha:a<18446744073709551616)(hb:b<18446744073709551616):gv .or (.int .u64 (a:Int)) (.int .u64 (b:Int))=some (.int .u64 ((a ||| b:Nat):Int)):=by
 have h:(a ||| b)<18446744073709551616:=Nat.or_lt_two_pow (n:=64) ha hb;simp only[gv,vvj];congr 2;have e1:(BitVec.ofInt IntKind.u64.bits (a:Int))=BitVec.ofNat 64 a:=vvl 64 a;have e2:(BitVec.ofInt IntKind.u64.bits (b:Int))=BitVec.ofNat 64 b:=vvl 64 b;rw[e1,e2];have e3:(BitVec.ofNat 64 a ||| BitVec.ofNat 64 b).toNat=a ||| b:=by
  rw[BitVec.toNat_or,vvz,vvz,wwm (by omega),wwm (by omega)]
 show IntKind.u64.wrap (((BitVec.ofNat 64 a ||| BitVec.ofNat 64 b).toNat:Nat):Int)=_;rw[e3,wrap_u64 (by omega) (by omega)]
def awf{x:Nat}{c:Κ}{K:Ε->Prop}(h:K (.int .u64 (((x*256+c.toNat) % 18446744073709551616:Nat):Int))):
  zc .shl (.int .u64 (x:Int)) (.int .u64 8) λv=>zC .u64 (bo c) λy=>zc .or v y K:=by
 have hc:=c.toNat_lt;refine⟨.int .u64 (((x*256) % 18446744073709551616:Nat):Int),?_,?_⟩
 ·show (if (8:Int)<0 then none else some (Value.int .u64 (IntKind.u64.wrap ((x:Int)*2 ^ (min (8:Int).toNat IntKind.u64.bits)))))=_;rw[zzb (by omega)];congr 2
 refine zK ?_;rw[wrap_u64 (by omega) (by omega)];refine⟨_,Nt (by omega) (by omega),?_⟩;have e:(x*256) % 18446744073709551616=((x*256) % 18446744073709551616 / 256) <<< 8:=by rw[vvq];omega
 have e2:(x*256) % 18446744073709551616 ||| c.toNat=(x*256+c.toNat) % 18446744073709551616:=by
  rw[e,<- vva (show c.toNat<2 ^ 8 by omega),vvq];omega
 rw[e2];exact h
def BL{b:Φ}{i:Nat}(h:i<b.length):cF (b.take (i+1))=(cF (b.take i)*256+b[i].toNat) % 18446744073709551616:=by
 rw[show b.take (i+1)=b.take i++[b[i]] by rw[xx4];simp[h]];exact Jh _ _ _ rfl
def Pd(X:Μ)(rp n:Nat)(r:fO)(u:Ε)(post:Β):Prop:=∃v',u= .int .u64 ((dy n r).1:Nat)/\bN X v' (dy n r).2.b/\post=[jT rp (dy n r).2 v',X]
def Zi(X:Μ)(rp n:Nat)(v:Ε)(r:fO)(hv:bN X v r.b)(hn:n<=1000):SP 107 [Δ rp,Γ n] [jT rp r v,X] (Pd X rp n r):=by
 refine Enzz λW F w hS=>?_;apply aI8;delta aF ai;refine Cc (Yc X rp n v r hv) ?_;clear hS;rintro u post ⟨v',hu,lM,rfl⟩ w hS;(try simp only[app]at hS);have hl:=M6 n r;refine zN hS Xh hu ?_;refine⟨λvs w=>∃i:Nat,i<=(eN n r).1.length/\vs=[.int .u64 (cF ((eN n r).1.take i):Nat),Γ i]/\SL W (jT rp (eN n r).2 v'::X::F) w,λvs _=>match vs with
  | [_,.int _ i]=>(eN n r).1.length-i.toNat
  | _=>0,⟨0,by omega,rfl,hS⟩,?_⟩
 rintro v1 v2 w1 ⟨i,hi,hv,hS⟩;cases hv;refine bw (λh=>?_) (λh=>?_)
 ·have hi:i<(eN n r).1.length:=by omega
  refine yA hS Xh hu hi ?_;refine awf ?_;refine Gp ?_;refine⟨⟨i+1,by omega,?_,hS⟩,?_⟩
  ·rw[BL hi]
  simp only[zzy];omega
 have:(eN n r).1.take i=(eN n r).1:=xxb (by omega);rw[this];exact⟨_,⟨v',rfl,lM,rfl⟩,hS⟩
def uG:∀(n:Nat) (b:Φ),b.length=n->cF b<256 ^ n
 | 0,b,h=>by
  have:b=[]:=zzm h;subst this;decide
 | n+1,b,h=>by
  have h1:=uG n (b.take n) (by rw[zzn];omega);have h2:=BL (b:=b) (i:=n) (by omega);rw[xxb (by omega)]at h2
  have hc:=(b[n]'(by omega)).toNat_lt;have h3:=Nat.mod_le (cF (b.take n)*256+(b[n]'(by omega)).toNat) 18446744073709551616;rw[h2,Nat.pow_succ];omega
def DP(n:Nat)(r:fO):(dy n r).1<256 ^ n:=by
 have h1:=uG _ _ (rfl:(eN n r).1.length=_);have h2:=(M6 n r).1;exact Nat.lt_of_lt_of_le h1 (uug (by omega) h2)
def Pb(X:Μ)(rp m:Nat)(r:fO)(u:Ε)(post:Β):Prop:=∃v',u= Γ ((dP m r).1:Nat)/\bN X v' (dP m r).2.b/\post=[jT rp (dP m r).2 v',X]
def Ya(X:Μ)(rp m:Nat)(v:Ε)(r:fO)(hv:bN X v r.b)(hm:m<=100000):SP 64 [Δ rp,Γ m] [jT rp r v,X] (Pb X rp m r):=by
 refine Enzz λW F w hS=>?_;apply a_h;delta aF cq ai;refine Cc (Zi X rp 2 v r hv (by omega)) ?_;clear hS;rintro u post ⟨v',rfl,lM,rfl⟩ w hS;(try simp only[app]at hS);have cA:=DP 2 r;refine ya (by omega) ?_;refine bw (λh=>?_) (λh=>?_)
 ·refine Gn λw hS=>?_;have e:dP m r=(0,{(dy 2 r).2 with e:=3}):=by unfold dP;rw[zzd (by omega)]
  refine⟨_,⟨v',?_,?_,rfl⟩,?_⟩
  ·rw[e];rfl
  ·rw[e];exact lM
  rw[e];exact hS
 have e:dP m r=dy 2 r:=by unfold dP;rw[zzb (by omega)]
 refine⟨_,⟨v',?_,?_,rfl⟩,?_⟩
 ·rw[e]
 ·rw[e];exact lM
 rw[e];exact hS
def M4(m:Nat)(r:fO):(dP m r).1<=m:=by
 unfold dP;split
 ·exact yye _
 rename_i h;exact wwa.1 h
def Og{n:Nat}(h:n<18446744073709551616):IntKind.i64.wrap (n:Int)=sig n:=by
 rw[IntKind.wrap_i64,sig];split<;>omega
def O9(X:Μ)(rp:Nat)(r:fO)(u:Ε)(post:Β):Prop:=∃v',u= .agg (cn (eT r).1).toArray/\bN X v' (eT r).2.b/\post=[jT rp (eT r).2 v',X]
def qt(X:Μ)(rp:Nat)(v:Ε)(r:fO)(hv:bN X v r.b):SP 65 [Δ rp] [jT rp r v,X] (O9 X rp r):=by
 refine Enzz λW F w hS=>?_;apply a_i;delta aF bd cq ai bn;refine Gm λb w hS=>?_;refine Cc (Zi X rp 1 v r hv (by omega)) ?_;clear hS;rintro u post ⟨v1,rfl,l_,rfl⟩ w hS;(try simp only[app]at hS);have cA:=DP 1 r;refine ya (by omega) ?_;refine bw (λh=>?_) (λh=>?_)
 ·refine Cc (Zi X rp 8 v1 (dy 1 r).2 l_ (by omega)) ?_;clear hS;rintro u post ⟨v2,rfl,nY,rfl⟩ w hS;(try simp only[app]at hS);have bcy:=DP 8 (dy 1 r).2;refine zK ?_;rw[Og (by omega),h];have e:eT r=(⟨1,sig (dy 8 (dy 1 r).2).1,⟨#[]⟩⟩,(dy 8 (dy 1 r).2).2):=by
   unfold eT;rw[zzd (by omega)]
  refine Gn λw hS=>?_;refine⟨[jT rp (eT r).2 v2,X],⟨v2,?_,?_,rfl⟩,?_⟩
  ·rw[e];rfl
  ·rw[e];exact nY
  rw[e];exact aI hS
 refine bw (λh2=>?_) (λh2=>?_)
 ·refine Cc (Ya X rp 4096 v1 (dy 1 r).2 l_ (by omega)) ?_;clear hS;rintro u post ⟨v2,rfl,nY,rfl⟩ w hS;(try simp only[app]at hS);refine Cc (Yc X rp (dP 4096 (dy 1 r).2).1 v2 (dP 4096 (dy 1 r).2).2 nY) ?_;clear hS;rintro u post ⟨v3,hu,US,rfl⟩ w hS;(try simp only[app]at hS);obtain⟨au,cu,eu,_⟩:=hu.sl hS Xh;refine yf ⟨_,_,_,eu⟩ (hu.src hS Xh) yyw yyx yyy ?_;rw[h2];have e:eT r=(⟨2,0,ji (eN (dP 4096 (dy 1 r).2).1 (dP 4096 (dy 1 r).2).2).1⟩,(eN (dP 4096 (dy 1 r).2).1 (dP 4096 (dy 1 r).2).2).2):=by
   unfold eT ji;rw[zzb (by omega),zzd (by omega)]
  refine Gn λw hS=>?_;refine⟨[jT rp (eT r).2 v3,X],⟨v3,?_,?_,rfl⟩,?_⟩
  ·rw[e];rfl
  ·rw[e];exact US
  rw[e];exact aI hS
 refine Gp ?_;have e:eT r=(nG,if (dy 1 r).2.e=0 then {(dy 1 r).2 with e:=3} else (dy 1 r).2):=by
  unfold eT;rw[zzb (by omega),zzb (by omega)]
 refine za (λh3=>?_) (λh3=>?_)
 ·rw[zzd h3]at e
  refine Gn λw hS=>?_;refine⟨[jT rp (eT r).2 v1,X],⟨v1,?_,?_,rfl⟩,?_⟩
  ·rw[e];rfl
  ·rw[e];exact l_
  rw[e];exact aI hS
 rw[zzb h3]at e
 refine Gn λw hS=>?_;refine⟨[jT rp (eT r).2 v1,X],⟨v1,?_,?_,rfl⟩,?_⟩
 ·rw[e];rfl
 ·rw[e];exact l_
 rw[e];exact aI hS
def mX(x:bz):(cn x).length=3:=rfl
def J9:∀(i:Nat) (r:fO),(eU i r).1.length<=i
 | 0,r=>zzz _
 | i+1,r=>by
  unfold eU;split
  ·have:=J9 i (eT r).2;simp only[zzg];omega
  exact yye _
def nE(r:fO):Int:=if r.e=0 then if 0<r.b.length then 3 else 0 else r.e
def xg(b:Φ):dK b=if nE (eU (dP 32767 ⟨b,0⟩).1 (dP 32767 ⟨b,0⟩).2).2=0 then .ok (eU (dP 32767 ⟨b,0⟩).1 (dP 32767 ⟨b,0⟩).2).1 else .error (nE (eU (dP 32767 ⟨b,0⟩).1 (dP 32767 ⟨b,0⟩).2).2):=rfl
def lq(X:Μ)(b:Φ)(u:Ε)(post:Β):Prop:=match dK b with
 | .error e=>u= .tuple #[Θ,Γ e]/\post=[X]
 | .ok l=>∃v,u= .tuple #[v,Γ 0]/\post=[.ob (aY v 58 3 l.length (l.map cn).flatten),X]
def xr(x:bz):∀v∈cn x,v.oneCell'=true:=λv hv=>by
 simp only[cn,zzv,yy8,vvf]at hv;rcases hv with rfl|rfl|rfl<;>rfl
def yj(X:Μ)(v:Ε)(b:Φ)(hv:bN X v b):SP 29 [v] [X] (lq X b):=by
 refine Enzz λW F w hS=>?_;apply aYg;delta aF bd cq ba bG ai bn aZ;obtain⟨a0,c0,rfl,_⟩:=hv.sl hS .hd;refine yQ rfl ?_;refine⟨_,rfl,zD hS ?_⟩;clear hS;intro rp w hS;generalize hm:dP 32767 ⟨b,0⟩=m;refine⟨λvs w=>∃u v',vs=[u]/\bN X v' (eU m.1 m.2).2.b/\SL W (.ob (aY u 58 3 (eU m.1 m.2).1.length ((eU m.1 m.2).1.map cn).flatten)::jT rp (eU m.1 m.2).2 v'::X::F) w,?_,?_⟩
 ·have hS:SL W (jT rp ⟨b,0⟩ (.slice a0 b.length c0)::X::F) w:=hS;refine Cc (Ya X rp 32767 _ ⟨b,0⟩ hv (by omega)) ?_;clear hS;rintro u post ⟨v1,rfl,l_,rfl⟩ w hS;(try simp only[app]at hS);rw[hm]at hS l_ ⊢
  have hle:m.1<=32767:=by rw[<- hm];exact M4 _ _
  have hS:=aY.nil (t:=58) (sz:=3) hS;refine⟨λvs w=>∃(u v':Ε) (xs:List bz) (i:Nat) (r:fO),vs=[u,Γ i]/\xs.length+i=m.1/\eU m.1 m.2=(xs++(eU i r).1,(eU i r).2)/\bN X v' r.b/\SL W (.ob (aY u 58 3 xs.length (xs.map cn).flatten)::jT rp r v'::X::F) w,λvs _=>match vs with
   | [_,.int _ i]=>i.toNat
   | _=>0,⟨_,v1,[],m.1,m.2,rfl,by simp,by simp,l_,hS⟩,?_⟩
  rintro u1 u2 w1 ⟨u,v',xs,i,r,hv,hx,hf,hr,hS⟩;cases hv;refine bw (λh=>?_) (λh=>?_)
  ·refine Gp ?_;obtain⟨j,rfl⟩:∃j,i=j+1:=⟨i-1,by omega⟩;refine za (λh2=>?_) (λh2=>?_)
   ·refine Cc (qt X rp v' r hr) ?_;clear hS;rintro u5 post ⟨v2,rfl,nY,rfl⟩ w hS;(try simp only[app]at hS);refine zA (cells:=cn (eT r).1) hS rfl ?_;clear hS;intro p w hS;refine zx (m:=1) (cs:=cn (eT r).1) hS Xr (fC hS .hd rfl) rfl rfl (xr _) (by omega) (by omega) ?_;clear hS;intro u' w hS;refine Gp ?_;have e:((j+1:Nat):Int)-1=(j:Int):=by omega
    rw[e];refine⟨⟨u',v2,xs++[(eT r).1],j,(eT r).2,rfl,by simp;omega,?_,nY,?_⟩,?_⟩
    ·rw[hf];have:eU (j+1) r=((eT r).1::(eU j (eT r).2).1,(eU j (eT r).2).2):=by
      show (if r.e=0 then _ else _)=_;rw[zzd h2]
     rw[this];simp
    ·simp only[zza,zzg,yym,zzx,zzj,xxa,yy1,zzt,xxs,zz4];exact aI hS
    simp only[zzy];omega
   have:eU (j+1) r=([],r):=by
    show (if r.e=0 then _ else _)=_;rw[zzb h2]
   rw[this,zz4]at hf
   refine⟨u1,v',rfl,?_,?_⟩
   ·rw[hf];exact hr
   rw[hf];exact hS
  obtain rfl:i=0:=by omega
  have:eU 0 r=([],r):=rfl;rw[this,zz4]at hf
  refine⟨u1,v',rfl,?_,?_⟩
  ·rw[hf];exact hr
  rw[hf];exact hS
 rintro u5 w ⟨u,v',hu,lM,hS⟩;obtain rfl:u5=u:=(List.cons.inj hu).1;have hd:=xg b;rw[hm]at hd
 generalize (eU m.1 m.2).2=r at *
 generalize (eU m.1 m.2).1=xs at *
 refine⟨λvs w=>vs=[]/\SL W (.ob (aY u5 58 3 xs.length (xs.map cn).flatten)::.pt rp [v',Γ (nE r)] 109::X::F) w,?_,?_⟩
 ·refine bw (λh=>?_) (λh=>?_)
  ·refine Gp ?_;refine zN hS Xh lM ?_;refine bw (λh2=>?_) (λh2=>?_)
   ·refine Gn λw hS=>?_;have e:nE r=3:=by unfold nE;rw[zzd h,zzd (by omega)]
    rw[e];exact hS
   have e:nE r=r.e:=by unfold nE;rw[zzd h,zzb (by omega),h]
   rw[e];exact⟨rfl,hS⟩
  have e:nE r=r.e:=by unfold nE;rw[zzb h]
  rw[e];exact⟨rfl,hS⟩
 rintro w ⟨_,hS⟩;refine bw (λh=>?_) (λh=>?_)
 ·refine Gn λw hS=>?_;rw[zzb h]at hd
  refine⟨[X],?_,aI hS⟩;unfold lq;rw[hd];exact⟨rfl,rfl⟩
 have h:nE r=0:=by omega
 rw[zzd h]at hd
 refine⟨[.ob (aY u5 58 3 xs.length (xs.map cn).flatten),X],?_,aI hS⟩;unfold lq;rw[hd];exact⟨u5,rfl,rfl⟩
def N9{a:Int}{n:Nat}{k:IntKind}(hn:n<=64){K:Ε->Prop}(h:K (.int .u64 (a.fdiv (2 ^ n)))):zc .shr (.int .u64 a) (.int k (n:Int)) K:=by
 refine⟨.int .u64 (a.fdiv (2 ^ n)),?_,h⟩;have h1:¬((n:Int)<0):=by omega
 simp only[gv,h1,wwq];rw[show min (n:Int).toNat IntKind.u64.bits=n by simp only[IntKind.bits];omega]
def Zh(b:Φ)(v:Ε)(x:Int)(n:Nat)(hn:n<=8)(hb:b.length<=140737488355000):SP 54 [v,.int .u64 x,Γ n] [.ob (aY v 5 1 b.length (b.map bo))] (λu post=>post=[.ob (aY u 5 1 (b++bI x n).length ((b++bI x n).map bo))]):=by
 refine Enzz λW F w hS=>?_;apply aZ6;delta aF ai;refine Gp ?_;refine⟨λvs w=>∃(u:Ε) (c:Φ) (k:Nat),vs=[u,Γ ((k:Int)-1)]/\k<=n/\c++bI x k=b++bI x n/\SL W (.ob (aY u 5 1 c.length (c.map bo))::F) w,λvs _=>match vs with
  | [_,.int _ i]=>(i+1).toNat
  | _=>0,⟨v,b,n,rfl,zzz _,rfl,hS⟩,?_⟩
 rintro u1 u2 w1 ⟨u,c,k,hv,hk,hc,hS⟩;cases hv;refine bw (λh=>?_) (λh=>?_)
 ·obtain⟨j,rfl⟩:∃j,k=j+1:=⟨k-1,by omega⟩;have e0:((j+1:Nat):Int)-1=(j:Int):=by omega
  rw[e0];refine N4 (by omega) ?_;have e1:(8:Int)*(j:Int)=((8*j:Nat):Int):=by omega
  rw[e1];refine N9 (by omega) ?_;refine zK ?_;rw[wrap_u8];refine zA (cells:=[bo (cO (x.fdiv (2 ^ (8*j))))]) hS rfl ?_;clear hS;intro p w hS;have na:c.length+(j+1)=b.length+n:=by
   have:=yyl List.length hc;simpa [eg] using this
  refine zx (m:=1) (cs:=[bo (cO (x.fdiv (2 ^ (8*j))))]) hS Xr (fC hS .hd rfl) rfl rfl (by intro v hv;simp only[zz8]at hv;subst hv;rfl) (by omega) (by omega) ?_;clear hS;intro u' w hS;refine Gp ?_;refine⟨⟨u',c++[cO (x.fdiv (2 ^ (8*j)))],j,rfl,by omega,?_,?_⟩,?_⟩
  ·rw[<- hc];simp[bI]
  ·simp only[zza,zzg,yym,zzx,zzj,xxa];exact aI hS
  show ((j:Int)-1+1).toNat<((j:Int)+1).toNat;omega
 obtain rfl:k=0:=by omega
 have e:c=b++bI x n:=by simpa [bI] using hc
 rw[e]at hS
 exact⟨_,rfl,hS⟩
def Y3(x:bz):SP 55 [.agg (cn x).toArray] [] (bj (.bool (fB x)) []):=by
 refine Enzz λW F w hS=>?_;apply aZ7;delta aF aW bc ai;refine⟨cn x,rfl,?_⟩;unfold cn;refine Gm λb w hS=>?_;unfold fB;refine za (λh=>?_) (λh=>?_)
 ·rw[zzd h];refine Gp ?_;have e:decide (x.s=({data:=#[]}:Η))=decide (x.s=⟨#[]⟩):=rfl;exact bt hS
 rw[zzb h];refine bw (λh2=>?_) (λh2=>?_)
 ·rw[zzd h2];refine bw (λh3=>?_) (λh3=>?_)
  ·refine Gp ?_;rw[zzr h3,uu1];have e:decide ((x.s.size:Int)<=4096)=decide (x.s.size<=4096):=by congr 1;exact propext ⟨λ_=>by omega,λ_=>by omega⟩
   rw[e];exact bt hS
  rw[zz5 h3,Bool.false_and];exact bt hS
 rw[zzb h2];exact bt hS
def Y9{P:Program}{t:Ι}{fs:Array Field}{f:Field}{i:Nat}{vs:Ξ}{v:Ε}{w:Ζ}{K:Ε->Prop}(ht:P.underlying t=some (.struct fs))(hf:fs[i]?=some f)(ha:∀w,(isAgg f.type).run P w= .ok false w)(hv:vs[f.offset]?=some v)(h:K v):
  dC P (Instr.field t (.agg vs.toArray) i) w K:=by
 refine⟨_,?_,h⟩;simp[Instr.field,asAgg,zzu ht,Result.andThen,hf,part,ha,hv]
def JW(x:bz):∀v∈cn x,v.oneCell'=true:=xr x
def oJ(x:bz):(cn x).length=3:=rfl
def yT(b:Nat)(ns:Ω)(t:Ι)(hn:ns.length<=1000):
  SP 22 [.slice (some ⟨b,0,none⟩) ns.length ns.length] [.pt b (ns.map (Value.int .i64)) t] (λu post=>post=[.ob (aY u 58 3 ns.length ((ns.map iF).map cn).flatten)]):=by
 refine Enzz λW F w hS=>?_;apply aXg;delta aF ai bn aZ;have hS:=aY.nil (t:=58) (sz:=3) hS;refine Gp ?_;refine⟨λvs w=>∃(i:Nat) (u:Ε),vs=[u,Γ i]/\i<=ns.length/\SL W (.ob (aY u 58 3 i (((ns.take i).map iF).map cn).flatten)::.pt b (ns.map (Value.int .i64)) t::F) w,
  λvs _=>match vs with|[_,.int _ i]=>(ns.length-i).toNat|_=>0,⟨0,_,rfl,by omega,hS⟩,?_⟩
 clear hS;rintro u v8 w ⟨i,_,b9,hi,hS⟩;cases b9;refine bw (λh=>?_) (λh=>?_)
 ·have bg:i<ns.length:=by omega
  refine zM bg (zT hS Xh (v:=Γ ns[i]) (by simp[bg]) ?_);refine Gm λb w hS=>?_;refine ye (n:=i) (xs:=(ns.take i).map iF) (y:=iF ns[i]) (enc:=cn) hS Xr Xh oJ JW rfl (by omega) (by omega) λv2 w hS=>?_;refine Gp ?_;refine⟨⟨i+1,_,rfl,by omega,?_⟩,by dsimp only;omega⟩;rw[zzh bg,zzx (f:=iF),wwc];exact aI hS
 have:i=ns.length:=by omega
 subst this;rw[zz6]at hS
 exact⟨_,rfl,aI hS⟩
def yH(s:Η):SP 102 [.string s] [] (bj (agg (cn (tF s))) []):=by
 refine Enzz λW F w hS=>?_;apply aI3;delta ai bn;refine Gm λb w hS=>?_;(exact bt hS)
def Yd(b:Bool):SP 103 [.bool b] [] (bj (Γ (jh b)) []):=by
 refine Enzz λW F w hS=>?_;apply aI4;delta ai;cases b<;>(repeat (first|refine Gp ?_|refine Gw λw hS=>?_|refine Gb λb w hS=>?_))<;>(exact bt hS)
def b8(rp:Nat)(r:bf):zw:=gi λv:Ε=>zG True [.pt rp [v,.bool r.bad] 112,.ob (bP v 58 3 r.l.length (r.l.map cn).flatten)]
def b8.iff{W w:Ζ}{rp:Nat}{r:bf}{l:Β}:SL W (.ob (b8 rp r)::l) w↔∃v,SL W (.pt rp [v,.bool r.bad] 112::.ob (bP v 58 3 r.l.length (r.l.map cn).flatten)::l) w:=by
 unfold b8;simp only[SL.ex,SL.fact,zzq,zzp,vv7]
def yF(v:Ε)(l:List bz):SP 30 [v] [.ob (aY v 58 3 l.length (l.map cn).flatten)] (λu post=>∃rp:Nat,u= Δ rp/\post=[.ob (b8 rp ⟨l,false⟩)]):=by
 refine Enzz λW F w hS=>?_;apply aYm;delta aZ;have h1:=aY.one hS;obtain⟨a,c,rfl,_⟩:=aY.at hS .hd;refine Gp ?_;refine zu hS λb w hS=>?_;refine⟨_,⟨b,rfl,rfl⟩,(b8.iff (r:=⟨l,false⟩)).2 ⟨.slice a l.length c,?_⟩⟩;exact (bP.of (hS.perm (.swap _ _ _))).perm (.swap _ _ _)
def ZH(rp:Nat)(r:bf)(k:Int):SP 109 [Δ rp,Γ k] [.ob (b8 rp r)] (bj (agg (cn (iB k r).1)) [.ob (b8 rp (iB k r).2)]):=by
 obtain⟨l,bad⟩:=r;refine Enzz λW F w hS=>?_;apply aRa;delta aF bd aW cq wT ai bn;obtain⟨v,hS⟩:=b8.iff.1 hS;simp only at hS;refine Gm λb w hS=>?_;cases bad with
 | true=>
  refine Gn λw hS=>?_;have e:iB k ⟨l,true⟩=(nG,⟨l,true⟩):=by unfold iB;rfl
  rw[e];exact⟨_,⟨rfl,rfl⟩,b8.iff.2 ⟨v,aI hS⟩⟩
 | false=>
  refine Gp ?_;refine yq hS (v:=v) Xh ?_;refine Gp ?_;cases l with
  | nil=>
   refine za (λh=>?_) (λh=>absurd rfl h);refine Gn λw hS=>?_;rw[show iB k ⟨[],false⟩=(nG,⟨[],true⟩) from rfl];exact⟨_,⟨rfl,rfl⟩,b8.iff.2 ⟨v,aI hS⟩⟩
  | cons f l=>
   refine za (λh=>by rw[zzg]at h;omega) (λh=>?_);refine Gp ?_;refine Zc (j:=0) (k:=.i64) hS (v:=v) Xh (by simp) λab ao hb=>yR ⟨_,Γ f.kind,rfl,hb 0 _ (by decide) rfl,?_⟩;refine bw (λhk=>?_) (λhk=>?_)
   ·refine Gn λw hS=>?_;have e:iB k ⟨f::l,false⟩=(nG,⟨f::l,true⟩):=by unfold iB;exact zzb hk
    rw[e];exact⟨_,⟨rfl,rfl⟩,b8.iff.2 ⟨v,aI hS⟩⟩
   refine Gp ?_;refine aiy (j:=0) (k:=.i64) hS (v:=v) (enc:=cn) (xs:=f::l) Xh oJ rfl (by simp) ?_;refine Gm λb w hS=>?_;refine N' (k:=1) (v:=v) (Has.front hS Xr) (by simp) λu hS=>?_;have hS:SL W (.ob (bP u 58 3 l.length (l.map cn).flatten)::_) _:=hS;have h1:=bP.one hS .hd;refine Gn λw hS=>?_;have e:iB k ⟨f::l,false⟩=(f,⟨l,false⟩):=by unfold iB;exact zzd (uuw.1 hk)
   rw[e];exact⟨_,⟨rfl,rfl⟩,b8.iff.2 ⟨u,aI hS⟩⟩
def zE(rp:Nat)(r:bf):SP 66 [Δ rp] [.ob (b8 rp r)] (bj (Γ (cG r).1) [.ob (b8 rp (cG r).2)]):=by
 refine Enzz λW F w hS=>?_;apply a_j;delta ai;refine Cg (ZH rp r 1) λw hS=>?_;exact Y9 uux rfl (λw=>by kernel_rfl) rfl ⟨_,⟨rfl,rfl⟩,hS⟩
def zZ(rp:Nat)(r:bf):SP 110 [Δ rp] [.ob (b8 rp r)] (bj (.string (cJ r).1) [.ob (b8 rp (cJ r).2)]):=by
 refine Enzz λW F w hS=>?_;apply aRc;delta ai;refine Cg (ZH rp r 2) λw hS=>?_;exact Y9 uux rfl (λw=>by kernel_rfl) rfl ⟨_,⟨rfl,rfl⟩,hS⟩
def b8.bad{W w:Ζ}{rp:Nat}{r:bf}{l:Β}(v:Ε)(h:SL W (.pt rp [v,.bool true] 112::.ob (bP v 58 3 r.l.length (r.l.map cn).flatten)::l) w):SL W (.ob (b8 rp {r with bad:=true})::l) w:=b8.iff.2 ⟨v,h⟩
def zo(rp:Nat)(r:bf)(m:Int):SP 31 [Δ rp,Γ m] [.ob (b8 rp r)] (bj (Γ (bm m r).1) [.ob (b8 rp (bm m r).2)]):=by
 refine Enzz λW F w hS=>?_;apply aYr;delta aF cq ai;refine Cg (zE rp r) λw hS=>?_;have hB:((cG r).1<0\/m<(cG r).1)->bm m r=(0,{(cG r).2 with bad:=true}):=λh=>zzd h;have hG:¬((cG r).1<0\/m<(cG r).1)->bm m r=cG r:=λh=>zzb h;refine za (λh=>?_) (λh=>?_)
 ·rw[hB (.inl h)];obtain⟨v,hS⟩:=b8.iff.1 hS;refine Gn λw hS=>?_;exact⟨_,⟨rfl,rfl⟩,b8.bad v hS⟩
 refine bw (λh2=>?_) (λh2=>?_)
 ·rw[hB (.inr h2)];obtain⟨v,hS⟩:=b8.iff.1 hS;refine Gn λw hS=>?_;exact⟨_,⟨rfl,rfl⟩,b8.bad v hS⟩
 rw[hG (by omega)];(exact bt hS)
def yE(rp:Nat)(r:bf):SP 111 [Δ rp] [.ob (b8 rp r)] (bj (.bool (iu r).1) [.ob (b8 rp (iu r).2)]):=by
 refine Enzz λW F w hS=>?_;apply aRd;delta ai;refine Cg (zo rp r 1) λw hS=>?_;exact⟨_,⟨rfl,rfl⟩,hS⟩
def yD(rp:Nat)(r:bf):SP 32 [Δ rp] [.ob (b8 rp r)] (bj (.bool (!r.bad)) [.ob (b8 rp r)]):=by
 refine Enzz λW F w hS=>?_;apply aY2;delta bd;obtain⟨v,hS⟩:=b8.iff.1 hS;refine Gp ?_;exact⟨_,⟨rfl,rfl⟩,b8.iff.2 ⟨v,hS⟩⟩
def yC(rp:Nat)(r:bf):SP 34 [Δ rp] [.ob (b8 rp r)] (bj (.bool (decide (r.bad=false/\r.l=[]))) [.ob (b8 rp r)]):=by
 refine Enzz λW F w hS=>?_;apply aY8;delta bd bD bc ai;obtain⟨v,hS⟩:=b8.iff.1 hS;refine Gp ?_;obtain⟨l,bad⟩:=r;cases bad with
 | true=>
  refine zs ?_;rw[zz5 (by simp)];exact⟨_,⟨rfl,rfl⟩,b8.iff.2 ⟨v,hS⟩⟩
 | false=>
  refine zt ?_;refine Gp ?_;refine yq hS (v:=v) Xh ?_;refine Gp ?_;have e:decide ((l.length:Int)=0)=decide ((bf.mk l false).bad=false/\(bf.mk l false).l=[]):=by
   rw[yyd];simp
  rw[e];exact⟨_,⟨rfl,rfl⟩,b8.iff.2 ⟨v,hS⟩⟩
structure bY where
 table:Int
 key:Int
 gone:Bool
 val:Η
deriving DecidableEq
structure bS where
 aR:Int
 kind:Int
 changes:List bY
 signals:Ψ
 mark:Int
def dh(c:bY):Ξ:=[Γ c.table,Γ c.key,.bool c.gone,.string c.val]
def kM(c:bY):(dh c).length=4:=rfl
def xk(c:bY):∀v∈dh c,v.oneCell'=true:=by simp[dh,Value.oneCell']
structure mM where
 aR:Int
 kind:Int
 cv:Ε
 sv:Ε
 mark:Int
def fj(x:mM):Ξ:=[Γ x.aR,Γ x.kind,x.cv,x.sv,Γ x.mark]
structure mL(H:aX)(x:mM)(t:bS):Prop where
 aR:x.aR=t.aR
 kind:x.kind=t.kind
 mark:x.mark=t.mark
 cv:bK H 4 x.cv t.changes.length (t.changes.map dh).flatten
 sv:bK H 1 x.sv t.signals.length (t.signals.map Value.string)
def ek(C:List Row):Prop:=C.Pairwise (λa b=>a.key<b.key)
def cP(C:List Row)(k:Int):Option Η:=(C.find? (λc=>decide (c.key=k))).map (·.val)
def eW:List Row->Row->List Row
 | [],c=>[c]
 | x::C,c=>if x.key<c.key then x::eW C c else if x.key=c.key then c::C else c::x::C
def gH:List Row->Int->List Row
 | [],_=>[]
 | x::C,k=>if x.key=k then C else x::gH C k
def iE(C:List Row)(c:bY):List Row:=if c.gone then gH C c.key else eW C ⟨c.key,c.val⟩
def pj(t:Int)(C:List Row)(c:bY):List Row:=if c.table=t then (if c.gone then gH C c.key else eW C ⟨c.key,c.val⟩) else C
def rF(t:Int)(l:List bS):List Row:=(l.flatMap (·.changes)).foldl (pj t) []
def MQ{C:List Row}{c x:Row}(h:x∈eW C c):x=c\/x∈C:=by
 induction C with
 | nil=>simpa [eW] using h
 | cons y C ih=>
  unfold eW at h;split at h
  ·rcases zzv.1 h with rfl|h
   ·exact .inr (.head _)
   rcases ih h with h|h
   ·exact .inl h
   exact .inr (.tail _ h)
  split at h
  ·rcases zzv.1 h with rfl|h
   ·exact .inl rfl
   exact .inr (.tail _ h)
  rcases zzv.1 h with rfl|h
  ·exact .inl rfl
  exact .inr h
def Ef{C:List Row}(h:ek C)(c:Row):ek (eW C c):=by
 unfold ek at *
 induction C with
 | nil=>simp[eW]
 | cons y C ih=>
  rw[yyc]at h
  unfold eW;split
  ·rename_i cA;refine yyc.2 ⟨λz hz=>?_,ih h.2⟩;rcases MQ hz with rfl|hz
   ·exact cA
   exact h.1 z hz
  split
  ·rename_i he;exact yyc.2 ⟨λz hz=>by have:=h.1 z hz;omega,h.2⟩
  rename_i h1 h2;refine yyc.2 ⟨λz hz=>?_,yyc.2 h⟩;rcases zzv.1 hz with rfl|hz
  ·omega
  have:=h.1 z hz;omega
def MO{C:List Row}{k:Int}{x:Row}(h:x∈gH C k):x∈C:=by
 induction C with
 | nil=>exact h
 | cons y C ih=>
  unfold gH at h;split at h
  ·exact .tail _ h
  rcases zzv.1 h with rfl|h
  ·exact .head _
  exact .tail _ (ih h)
def Oq{C:List Row}(h:ek C)(k:Int):ek (gH C k):=by
 unfold ek at *
 induction C with
 | nil=>exact h
 | cons y C ih=>
  rw[yyc]at h
  unfold gH;split
  ·exact h.2
  exact yyc.2 ⟨λz hz=>h.1 z (MO hz),ih h.2⟩
def Km(C:List Row)(c:Row)(k:Int):cP (eW C c) k=if c.key=k then some c.val else cP C k:=by
 unfold cP;induction C with
 | nil=>by_cases h:c.key=k<;>simp[eW,h]
 | cons y C ih=>
  unfold eW;split
  ·by_cases h1:y.key=k
   ·have:c.key≠k:=by omega
    simp[h1,this]
   simp only[xxq,h1,wwk];exact ih
  split
  ·rename_i he;by_cases h1:c.key=k
   ·simp[h1]
   have:y.key≠k:=by omega
   simp[h1,this]
  by_cases h1:c.key=k<;>simp[h1]
def Kl{C:List Row}(hs:ek C)(k0 k:Int):cP (gH C k0) k=if k0=k then none else cP C k:=by
 unfold cP ek at *
 induction C with
 | nil=>simp[gH]
 | cons y C ih=>
  rw[yyc]at hs
  unfold gH;split
  ·rename_i he;by_cases h1:k0=k
   ·subst h1;have:C.find? (λc=>decide (c.key=k0))=none:=by
     rw[uur];intro z hz;have:=hs.1 z hz;simp;omega
    simp[this]
   have:¬y.key=k:=by omega
   simp[h1,this]
  rename_i he;have Dp:=ih hs.2;by_cases h1:y.key=k
  ·have:¬k0=k:=by omega
   simp[h1,this]
  simp only[xxq,h1,wwk];exact Dp
def Dz(C:List Row)(c:Row):(eW C c).length<=C.length+1:=by
 induction C with
 | nil=>simp[eW]
 | cons y C ih=>
  unfold eW;split
  ·simp;omega
  split<;>simp
def Mg(C:List Row)(k:Int):(gH C k).length<=C.length:=by
 induction C with
 | nil=>exact zzz _
 | cons y C ih=>unfold gH;split<;>simp;omega
def VL(t:Int)(C:List Row)(c:bY):(pj t C c).length<=C.length+1:=by
 unfold pj;have:=Dz C ⟨c.key,c.val⟩;have:=Mg C c.key;split
 ·split<;>omega
 omega
def VM{l:List bY}:∀(C:List Row) (t:Int),(l.foldl (pj t) C).length<=C.length+l.length:=by
 induction l with
 | nil=>intro C t;simp
 | cons c l ih=>intro C t;have:=ih (pj t C c) t;have:=VL t C c;simp only[xxw,zzg];omega
def TY(k:Int)(cC:Nat):Nat:=(min (max k 0) (cC:Int)).toNat
set_option maxRecDepth 100000
open Go.RowKit
def YW(o:fr)(aR:Int):SP 313 [agg (kN o),Γ aR] [] (bj (.bool (jB o aR)) []):=by
 refine Enzz λW F w hS=>?_;apply aYv;delta aF aW bD bc ai;refine zu hS λb w hS=>?_;unfold kN at hS;have hF:∀{w:Ζ},¬(1<=o.aR/\o.aR<=aR/\0<=o.table/\o.table<8/\1<=o.key/\o.key<=1099511627776/\o.val.size<=32)->SL W (.pt b [Γ o.aR,Γ o.table,Γ o.key,.bool o.gone,.string o.val] 379::F) w ->
   ∃post,bj (.bool (jB o aR)) [] (.bool false) post/\SL W (app post F) w:=λh hS=>⟨_,⟨by rw[show jB o aR=false by unfold jB;rw[yyq];exact λk=>h ⟨k.1,k.2.1,k.2.2.1,k.2.2.2.1,k.2.2.2.2.1,k.2.2.2.2.2.1,k.2.2.2.2.2.2.1⟩],rfl⟩,aI hS⟩
 (repeat (first|refine Gp ?_|refine Gw λw hS=>?_|refine za (λ_=>hF (by omega) hS) (λ_=>?_)|refine za (λ_=>?_) (λ_=>hF (by omega) hS)))
 have e:jB o aR=decide (o.gone=true->o.val=emp):=by
  unfold jB;rw[yyd];exact⟨λh=>h.2.2.2.2.2.2.2,λh=>⟨by omega,by omega,by omega,by omega,by omega,by omega,by omega,h⟩⟩
 rw[e];refine zr (λh=>?_) (λh=>?_)
 ·rw[h,zzr (by simp)];(exact bt hS)
 refine Gp ?_;rw[h];have e2:decide (true=true->o.val=emp)=decide (o.val={data:=#[]}):=by rw[yyd];exact⟨λh=>h rfl,λh _=>h⟩
 rw[e2];(exact bt hS)
def WR(n:gD)(aR:Int){W w:Ζ}{F:Β}(hS:SL W F w):Bs (agg (lY n)) (Γ aR) w λv w'=>∃post,bj (.bool (iU n aR)) [] v post/\SL W (app post F) w':=by
 delta Bs aF aW bc ai;refine zu hS λb w hS=>?_;unfold lY at hS;have hF:∀{w:Ζ},¬(1<=n.id/\n.id<=64/\((n.kind=1/\0<=n.table/\n.table<8/\1<=n.weight/\n.weight<=8/\1<=n.at_/\n.at_<=aR/\n.cN=0)\/(n.kind=2/\n.table=0/\n.weight=0/\n.at_=0/\0<=n.cN))) ->
   SL W (.pt b [Γ n.kind,Γ n.id,Γ n.table,Γ n.weight,Γ n.at_,Γ n.cN,.bool n.done] 382::F) w->∃post,bj (.bool (iU n aR)) [] (.bool false) post/\SL W (app post F) w:=λh hS=>⟨_,⟨by
    rw[show iU n aR=false by
     unfold iU;rw[yyq];rintro ⟨h1,h2,h3⟩;rcases h3 with h3|h3
     ·exact h ⟨h1,h2,.inl ⟨h3.1,h3.2.1,h3.2.2.1,h3.2.2.2.1,h3.2.2.2.2.1,h3.2.2.2.2.2.1,h3.2.2.2.2.2.2.1,h3.2.2.2.2.2.2.2.1⟩⟩
     exact h ⟨h1,h2,.inr ⟨h3.1,h3.2.1,h3.2.2.1,h3.2.2.2.1,h3.2.2.2.2.1⟩⟩],rfl⟩,aI hS⟩
 refine Gp ?_;refine za (λ_=>hF (by omega) hS) (λ_=>?_);refine Gp ?_;refine za (λ_=>hF (by omega) hS) (λ_=>?_);refine bw (λ_=>?_) (λ_=>?_)
 ·(repeat (first|refine Gp ?_|refine Gw λw hS=>?_|refine za (λ_=>hF (by omega) hS) (λ_=>?_)|refine za (λ_=>?_) (λ_=>hF (by omega) hS)))
  have e:iU n aR = !n.done:=by
   unfold iU;rw[xxg,vv0];cases n.done<;>simp<;>omega
  rw[e];(exact bt hS)
 (repeat (first|refine Gp ?_|refine Gw λw hS=>?_|refine za (λ_=>hF (by omega) hS) (λ_=>?_)|refine za (λ_=>?_) (λ_=>hF (by omega) hS)))
 have e:iU n aR=decide (n.cN<=1099511627776):=by
  unfold iU;rw[yyd];omega
 rw[e];(exact bt hS)
def ZT(n:gD)(aR:Int):SP 314 [agg (lY n),Γ aR] [] (bj (.bool (iU n aR)) []):=λW F w hS=>aYw _ _ _ _ (WR n aR hS)
def fQ(c:bY)(k:Int):Bool:=decide (0<=c.table/\c.table<k/\1<=c.key/\c.key<=1099511627776/\c.val.size<=32/\(c.gone=true->c.val=emp))
def Y4(c:bY)(k:Int):SP 106 [agg (dh c),Γ k] [] (bj (.bool (fQ c k)) []):=by
 refine Enzz λW F w hS=>?_;apply aI7;delta aF aW bc ai;refine zu hS λb w hS=>?_;unfold dh at hS;have hF:∀{w:Ζ},¬(0<=c.table/\c.table<k/\1<=c.key/\c.key<=1099511627776/\c.val.size<=32)->SL W (.pt b [Γ c.table,Γ c.key,.bool c.gone,.string c.val] 70::F) w ->
   ∃post,bj (.bool (fQ c k)) [] (.bool false) post/\SL W (app post F) w:=λh hS=>⟨_,⟨by rw[show fQ c k=false by unfold fQ;rw[yyq];exact λk=>h ⟨k.1,k.2.1,k.2.2.1,k.2.2.2.1,k.2.2.2.2.1⟩],rfl⟩,aI hS⟩
 (repeat (first|refine Gp ?_|refine Gw λw hS=>?_|refine za (λ_=>hF (by omega) hS) (λ_=>?_)|refine za (λ_=>?_) (λ_=>hF (by omega) hS)))
 have e:fQ c k=decide (c.gone=true->c.val=emp):=by
  unfold fQ;rw[yyd];exact⟨λh=>h.2.2.2.2.2,λh=>⟨by omega,by omega,by omega,by omega,by omega,h⟩⟩
 rw[e];refine Zl (λh=>?_) (λh=>?_)
 ·refine Gp ?_;rw[h];have e2:decide (true=true->c.val=emp) = !decide (c.val≠{data:=#[]}):=by
   rw[xxg];simp[emp]
  rw[e2];(exact bt hS)
 refine Gp ?_;rw[h,zzr (by simp)];(exact bt hS)
def Av{x:bV}(h:¬(1<=x.aR/\x.aR<=1099511627776/\x.ops.length<=4096/\x.notes.length<=256)):fy x=false:=by
 unfold fy;rw[zz5 h];rfl
def Wd{x:bV}{i:Nat}(hi:i<x.ops.length)(h:jB x.ops[i] x.aR=false):fy x=false:=by
 cases hm:fy x with
 | false=>rfl
 | true=>
  unfold fy at hm;rw[zzk,zzk,zzw]at hm
  rw[hm.1.2 _ (zzi hi)]at h;cases h
def We{x:bV}{i:Nat}(hi:i<x.notes.length)(h:iU x.notes[i] x.aR=false):fy x=false:=by
 cases hm:fy x with
 | false=>rfl
 | true=>
  unfold fy at hm;rw[zzk,zzk,zzw,zzw]at hm
  rw[hm.2 _ (zzi hi)]at h;cases h
def Wf{x:bV}(h:1<=x.aR/\x.aR<=1099511627776/\x.ops.length<=4096/\x.notes.length<=256)(h1:∀j (hj:j<x.ops.length),jB x.ops[j] x.aR=true)(h2:∀j (hj:j<x.notes.length),iU x.notes[j] x.aR=true):fy x=true:=by
 unfold fy;rw[zzk,zzk,zzw,zzw];refine⟨⟨zzr h,λo ho=>?_⟩,λn hn=>?_⟩
 ·obtain⟨j,hj,rfl⟩:=yyf ho;exact h1 j hj
 obtain⟨j,hj,rfl⟩:=yyf hn;exact h2 j hj
def yY(H:aX)(x:rh)(t:bV)(hx:jF H x t):SP 268 [agg (kn x)] [.mem H] (bj (.bool (fy t)) [.mem H]):=by
 refine Enzz λW F w hS=>?_;apply aX0;delta aF aW bD bc ai bn;refine zu hS λxb w hS=>?_;unfold kn at hS;rw[hx.aR]at hS
 have hF:∀{w:Ζ},fy t=false->SL W (.pt xb [Γ t.aR,x.ov,x.nv] 263::.mem H::F) w->∃post,bj (.bool (fy t)) [.mem H] (.bool false) post/\SL W (app post F) w:=λh hS=>⟨_,⟨by rw[h],rfl⟩,aI hS⟩;refine Gp ?_;refine za (λh=>hF (Av (by omega)) hS) (λh1=>?_);refine Gp ?_;refine za (λh=>hF (Av (by omega)) hS) (λh2=>?_);refine Gp ?_;refine zh hx.ops ?_;refine Gp ?_;refine za (λh=>hF (Av (by omega)) hS) (λh3=>?_);refine Gp ?_;refine zh hx.iC ?_;refine Gp ?_;refine za (λh=>hF (Av (by omega)) hS) (λh4=>?_);refine Gp ?_;refine zh hx.ops ?_;refine⟨λvs w=>∃i:Nat,vs=[Γ i]/\i<=t.ops.length/\(∀j (hj:j<t.ops.length),j<i->jB t.ops[j] t.aR=true)/\SL W (.pt xb [Γ t.aR,x.ov,x.nv] 263::.mem H::F) w,
  λvs _=>match vs with|[.int _ i]=>(t.ops.length-i).toNat|_=>0,⟨0,rfl,by omega,λj hj h=>by omega,hS⟩,?_⟩
 clear hS;rintro v3 w ⟨i,b9,hi,b5,hS⟩;cases b9;refine bw (λh=>?_) (λh=>?_)
 ·have bg:i<t.ops.length:=by omega
  refine zy hS Xh B' hx.ops (x:=t.ops[i]) (by simp[bg]) bg ?_;refine Gm λb w hS=>?_;refine Cg (YW t.ops[i] t.aR) λw hS=>?_;refine zr (λh=>hF (Wd bg h) (aI hS)) (λh=>?_);refine Gp ?_;refine⟨⟨i+1,rfl,by omega,λj hj gJ=>?_,aI hS⟩,by dsimp only;omega⟩;by_cases e:j=i
  ·subst e;exact h
  exact b5 j hj (by omega)
 have eM:i=t.ops.length:=by omega
 have dH:∀j (hj:j<t.ops.length),jB t.ops[j] t.aR=true:=λj hj=>b5 j hj (by omega);clear b5;refine Gp ?_;refine zh hx.iC ?_;refine⟨λvs w=>∃i:Nat,vs=[Γ i]/\i<=t.notes.length/\(∀j (hj:j<t.notes.length),j<i->iU t.notes[j] t.aR=true)/\SL W (.pt xb [Γ t.aR,x.ov,x.nv] 263::.mem H::F) w,
  λvs _=>match vs with|[.int _ i]=>(t.notes.length-i).toNat|_=>0,⟨0,rfl,by omega,λj hj h=>by omega,aI hS⟩,?_⟩
 clear hS;rintro v5 w ⟨i,b9,hi,b5,hS⟩;cases b9;refine bw (λh=>?_) (λh=>?_)
 ·have bg:i<t.notes.length:=by omega
  refine zy hS Xh B9 hx.iC (x:=t.notes[i]) (by simp[bg]) bg ?_;refine Gm λb w hS=>?_;refine Cg (ZT t.notes[i] t.aR) λw hS=>?_;refine zr (λh=>hF (We bg h) (aI hS)) (λh=>?_);refine Gp ?_;refine⟨⟨i+1,rfl,by omega,λj hj gJ=>?_,aI hS⟩,by dsimp only;omega⟩;by_cases e:j=i
  ·subst e;exact h
  exact b5 j hj (by omega)
 rw[Wf (by omega) dH λj hj=>b5 j hj (by omega)];(exact bt hS)
def k7(x:bz):Prop:=(x.kind=1/\0<=x.n/\x.n<1152921504606846976/\x.s=emp)\/(x.kind=2/\x.n=0/\x.s.size<=4096)
def k7.right{x:bz}(h:k7 x):fB x=true:=by
 unfold fB;rcases h with ⟨h1,_,_,h2⟩|⟨h1,h2,h3⟩
 ·rw[zzd h1,h2];rfl
 rw[zzb (by omega),zzd h1,zzr h2,zzr h3];rfl
def tK{n:Nat}(h:n<65536):cF (bI n 2)=n:=by
 have f:∀k,((n:Int).fdiv (2 ^ (8*k)))=((n / 2 ^ (8*k):Nat):Int):=λk=>by
  have:=rB n (2 ^ (8*k)) (uuk _);rw[<- this];push_cast;rfl
 unfold bI bI bI;simp only[f,cF,xxw,uu5,As,show (2:Nat) ^ (8*1)=256 from rfl,show (2:Nat) ^ (8*0)=1 from rfl];omega
def JG:∀(l acc:List bz),(∀x∈l,k7 x)->iw acc l.length ⟨(l.map bO).flatten,0⟩= .ok (acc++l)
 | [],acc,_=>by
  rw[xxa,xxs,yym,xi,zzb (by simp),zz4]
 | x::l,acc,h=>by
  have hx:=h x (.head _);have ih:=JG l (acc++[x]) λy hy=>h y (.tail _ hy);obtain⟨kind,n,s⟩:=x;rw[zzj,zzt,zzg];rcases hx with ⟨h1,h2,h3,h4⟩|⟨h1,h2,h3⟩
  ·have h1:kind=1:=h1;have h4:s=emp:=h4;subst h1 h4;obtain⟨m,rfl⟩:=xxo h2;have hm:m<1152921504606846976:=by have h3:(m:Int)<1152921504606846976:=h3;omega
   have e:bO ⟨1,(m:Int),emp⟩=cO 1::bI (m:Int) 8:=by
    show cO 1::bI ((m:Int) % 18446744073709551616) 8=_;rw[show (m:Int) % 18446744073709551616=(m:Int) by omega]
   have hl:=eg (m:Int) 8;rw[e,zzq,sO (by decide),zzb (by rw[zza,hl];omega),xxh hl,xxk hl,AF hm,sig,zzd (by omega)];rw[zze]at ih
   exact ih
  have h1:kind=2:=h1;have h2:n=0:=h2;have h3:s.size<=4096:=h3;subst h1 h2;have e:bO ⟨2,0,s⟩=cO 2::(bI (s.size:Nat) 2++s.data.toList):=rfl;have hl:=eg (s.size:Int) 2;have hs:s.data.toList.length=s.size:=rfl;rw[e,zzq,zze,sP (by decide),zzb (by rw[zza,hl];omega),xxh hl,xxk hl,tK (by omega),zzb (by omega),
   zzb (by rw[zza,zza,hl];omega),xxh hs,xxk hs]
  rw[zze]at ih
  exact ih
def xf{l:List bz}(hl:l.length<=32767)(h:∀x∈l,k7 x):gl l= .ok (bI l.length 2++(l.map bO).flatten)/\dK (bI l.length 2++(l.map bO).flatten)= .ok l:=by
 have h2:=eg (l.length:Int) 2;have hb:=tK (n:=l.length) (by omega);refine⟨?_,?_⟩
 ·unfold gl;rw[zzb (by omega),zzd (zzw.2 λx hx=>(h x hx).right)]
 have ht:(bI (l.length:Int) 2++(l.map bO).flatten).take 2=bI l.length 2:=xxh h2;have hd:(bI (l.length:Int) 2++(l.map bO).flatten).drop 2=(l.map bO).flatten:=xxk h2;rw[uO (by rw[zza,h2];omega) (by rw[ht,hb];omega),ht,hd,hb,JG l [] h,zzp]
def vU{x:bV}:fy x=true↔(1<=x.aR/\x.aR<=1099511627776/\x.ops.length<=4096/\x.notes.length<=256)/\(∀o∈x.ops,jB o x.aR=true)/\∀n∈x.notes,iU n x.aR=true:=by
 unfold fy;rw[zzk,zzk,zzo,zzw,zzw,and_assoc]
def Jj(b:Bool):0<=jh b/\jh b<=1:=by cases b<;>decide
def ma{n:Int}(h:0<=n/\n<=1099511627776):k7 (iF n):=.inl ⟨rfl,h.1,by show n<_;omega,rfl⟩
def Cp{α β:Type}{f:α->List β}{k:Nat}(h:∀x,(f x).length=k):∀l:List α,((l.map f).flatten).length=l.length*k
 | []=>by simp
 | x::l=>by rw[zzj,zzt,zza,h,Cp h l,zzg,Nat.succ_mul,Nat.add_comm]
def p7{m n:Int}{l:List bz}(h:0<=n/\n<=m):bm m ⟨iF n::l,false⟩=(n,⟨l,false⟩):=by
 have e:cG ⟨iF n::l,false⟩=(n,⟨l,false⟩):=rfl;unfold bm;rw[e,zzb (by show ¬(n<0\/m<n);omega)]
def P1{b:Bool}{l:List bz}:iu ⟨iF (jh b)::l,false⟩=(b,⟨l,false⟩):=by
 unfold iu;rw[p7 (Jj b)];cases b<;>rfl
def My{α:Type}{one:bf->α × bf}{f:α->List bz}:∀(xs:List α) (l:List bz),(∀x∈xs,∀l,one ⟨f x++l,false⟩=(x,⟨l,false⟩))->bW one xs.length ⟨(xs.map f).flatten++l,false⟩=(xs,⟨l,false⟩)
 | [],l,_=>rfl
 | x::xs,l,h=>by
  have ih:=My xs l λy hy=>h y (.tail _ hy);have h1:=h x (.head _) ((xs.map f).flatten++l);rw[zzj,zzt,zze,zzg,bW,zzb (by simp),h1,ih]
def uR(n:Int):(bO (iF n)).length=9:=by
 show (cO 1::bI (jP n) 8).length=9;rw[zzg,eg]
def sY{α β:Type}{f:α->List β}{k:Nat}:∀l:List α,(∀x∈l,(f x).length<=k)->((l.map f).flatten).length<=l.length*k
 | [],_=>by simp
 | x::l,h=>by
  have h1:=h x (.head _);have ih:=sY l λy hy=>h y (.tail _ hy);rw[zzj,zzt,zza,zzg,Nat.succ_mul];omega
def B6(l:List (List bz)):(l.flatten.map bO).flatten=(l.map λx=>(x.map bO).flatten).flatten:=by
 induction l with
 | nil=>rfl
 | cons x l ih=>simp only[zzt,zzx,yy1,zzj,ih]

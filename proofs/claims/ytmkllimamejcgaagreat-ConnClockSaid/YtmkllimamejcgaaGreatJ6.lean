/- Part of the proof. -/
import Derived.Test.YtmkllimamejcgaaGreatJ5
import Derived.Laws.BytesString
import Derived.Test.YtmkllimamejcgaaGreatQVcS
namespace Go.Proofs.YtmkllimamejcgaaGreat
set_option linter.all false
open Go.RowKit
def uuc:=@run_loadCells_list
def vvy:=@Nat.pow_le_pow_right
def yy1:=@Tryz.underlying9
def wwk:=@Tryz.underlying5
def uu3:=@Bool.false_and
def xx7:=@List.map_singleton
def uu4:=@List.find?_eq_none
def uuv:=@Bool.eq_iff_iff
def uud:=@decide_eq_true_iff
def yyi:=@List.getElem_of_mem
def wwb:=@Int.eq_ofNat_of_zero_le
def uuw:=@List.take_left'
def uux:=@List.drop_left'
section
variable {W w:Ζ} {l:Β} {P:Program}
def WL{t:Ι}{s:Η}{j:Nat}{k:IntKind}{K:Ε->Prop}(ht:P.underlying t=some .string)(hj:j<s.size)(h:K (.int .u8 (s[j]).toNat)):eW P (Instr.index t (.string s) (.int k (j:Int))) w K:=by
 refine⟨_,?_,h⟩;have:s[j]?=some s[j]:=by simp[hj]
 simp[Instr.index,asIntOf,yyn ht,Result.andThen,this]
def YL{src dst e:Ι}{b:Nat}{n:Int}{cap:Nat}{t:Ι}{K:Ε->Prop}(hS:SL W l w)(hm:Has (.pt b [.int .u8 n] t) l)(h1:P.underlying src=some (.slice e))(h2:P.underlying dst=some .string)(h3:P.underlying e=some (.int .u8))
  (h:K (.string ⟨#[UInt8.ofNat n.toNat]⟩)):eW P (convert src dst (.slice (some ⟨b,0,none⟩) 1 cap)) w K:=by
 refine⟨_,?_,h⟩;have hc:w.cell? ⟨b,0,none⟩=some (.int .u8 n):=hS.cell hm rfl;have hl:(loadCells ⟨b,0,none⟩ 1).run P w= .ok ([n].map (Value.int .u8)).toArray w:=by
  refine uuc (P:=P) (w:=w) ⟨b,0,none⟩ [.int .u8 n] (λj v hj=>?_)
  match j,hj with
  | 0,hj=>
   simp at hj;subst hj;rw[yyb];exact hc
 have:=run_bytesToString (P:=P) w ⟨b,0,none⟩ 1 cap [n] hl;simp[convert,yyn h1,yyn h2,yyn h3,Result.andThen,this];rfl
def QQ{a b:Η}{K:Ε->Prop}(hr:a.size+b.size<=1000000)(h:K (.string (a++b))):zc .add (.string a) (.string b) K:=by
 refine⟨_,?_,h⟩;have hm:IntKind.i64.max=9223372036854775807:=by decide
 simp only[jw];rw[zzb (by rw[hm];omega)]
end
set_option maxRecDepth 100000
def dW(bs:Φ):Η:=⟨bs.toArray⟩
def Rb{a b:Φ}:dW a=dW b↔a=b:=by
 constructor
 ·intro h;have:=yyu ByteArray.data h;exact List.toArray_inj this
 rintro rfl;rfl
def mM(a:Φ):(dW a).size=a.length:=by simp[dW,ByteArray.size]
def fold_push:∀(bs:Φ) (s:Η),(bs.map λb=>(b.toNat:Int)).foldl (λr n=>r.push (UInt8.ofNat n.toNat)) s=⟨s.data++bs.toArray⟩
 | [],s=>by cases s;simp
 | b::bs,s=>by
  simp only[zzo,xx4];rw[fold_push bs];cases s;simp[ByteArray.push]
section
variable {W w:Ζ} {l:Β} {P:Program}
def Zd{src dst e:Ι}{v:Ε}{bs:Φ}{K:Ε->Prop}(hv:∃a n c,v= .slice a n c)(iw:kE w 1 v bs.length (bs.map cX))(h1:P.underlying src=some (.slice e))(h2:P.underlying dst=some .string)(h3:P.underlying e=some (.int .u8))
  (h:K (.string (dW bs))):eW P (convert src dst v) w K:=by
 refine⟨_,?_,h⟩;obtain⟨a,n,c,rfl⟩:=hv;rw[run_convert_bytes_string w src dst e a n c h1 h3 h2];cases a with
 | none=>
  obtain⟨e1,e2⟩:=iw;have:bs=[]:=by simpa using e2
  subst this;rfl
 | some p=>
  obtain⟨e1,e2,e3⟩:=iw;subst e1;have hl:(loadCells p bs.length).run P w= .ok ((bs.map λb=>(b.toNat:Int)).map (Value.int .u8)).toArray w:=by
   have h4:=uuc (P:=P) (w:=w) p (bs.map cX) e3;rw[zzn]at h4
   rw[h4,xxs];rfl
  rw[run_bytesToString w p bs.length c _ hl,fold_push];simp[dW]
def dx.Jr{H:bw}{sz n:Nat}{v:Ε}{cells:Ξ}(h:dx H sz v n cells):∃a n c,v= .slice a n c:=by
 obtain⟨_,a,cap,rfl,_,_⟩:=h;exact⟨_,_,_,rfl⟩
end
def SL.mark{W w:Ζ}{l l':Β}{b n:Nat}{cs:Ξ}{t:Ι}(h:SL W l w)(u:ga (.pt b cs t) (.pt b cs t) l l')(hn:cs.length=n):SL W l' (w.freeze {block:=b,off:=n} 1):=by
 obtain⟨f,hf,e⟩:=h.oK u.has;obtain⟨x,y⟩:=f;refine h.rK (b:=b) (o':=.cells cs.toArray t (if x == y then (n,n+1) else (min x n,max y (n+1)))) u ?_ ⟨_,?_,rfl⟩ ?_ ?_ rfl rfl rfl
 ·rintro k ⟨f,_,rfl⟩;exact⟨_,rfl⟩
 ·rcases hf with hf|hf
  ·simp only at hf;subst hf;rw[zzc (by simp)];right;simp only;omega
  simp only at hf;split
  ·right;simp only;omega
  right;simp only;omega
 ·show (w.heap.modify b _)[b]?=_;rw[ww3];simp[e]
 intro z hz;show (w.heap.modify b _)[z]?=_;rw[ww3,zzb (by omega)]
abbrev nf(rp:Nat)(r:jj)(v:Ε):Μ:=.pt rp [v,Γ r.e] 325
def VA(n:Nat)(r:jj):(gJ n r).1.length<=n/\(gJ n r).1.length<=r.b.length/\(gJ n r).2.b.length<=r.b.length:=by
 unfold gJ;split
 ·simp
 split
 ·simp
 simp only[zzf,zzr];omega
def X6(X:Μ)(rp n:Nat)(r:jj)(u:Ε)(post:Β):Prop:=∃v',dP X u (gJ n r).1/\dP X v' (gJ n r).2.b/\post=[nf rp (gJ n r).2 v',X]
def YG(X:Μ)(rp n:Nat)(v:Ε)(r:jj)(hv:dP X v r.b):SP 281 [Δ rp,Γ n] [nf rp r v,X] (X6 X rp n r):=by
 refine Enzz λW F w hS=>?_;apply cHd;delta NQ aI bU cV ai bR;have tz:=hv.one hS Xh;refine⟨λvs w=>vs=[]/\∃e,e=(if r.e=0/\r.b.length<n then 2 else r.e)/\SL W (.pt rp [v,Γ e] 325::X::F) w,?_,?_⟩
 ·refine bY (λh=>?_) (λh=>?_)
  ·refine Gp ?_;refine yp hS Xh hv ?_;refine bY (λh2=>?_) (λh2=>?_)
   ·refine Gn λw hS=>?_;exact⟨2,by rw[zzc ⟨h,by omega⟩],hS⟩
   refine⟨rfl,_,rfl,?_⟩;rw[zzb (by omega)];exact hS
  refine⟨rfl,_,rfl,?_⟩;rw[zzb (by omega)];exact hS
 rintro w ⟨_,e,he,hS⟩;refine Gp ?_;by_cases h1:r.e=0
 ·by_cases h2:r.b.length<n
  ·rw[zzc ⟨h1,h2⟩]at he
   subst he;refine za (λ_=>?_) (λh=>absurd (by decide) h);have e1:gJ n r=([],{r with e:=2}):=by unfold gJ;rw[zzb (by simp[h1]),zzc h2]
   refine⟨_,⟨v,?_,?_,rfl⟩,?_⟩
   ·rw[e1];exact dP.nil
   ·rw[e1];exact hv
   rw[e1];exact hS
  rw[zzb (by omega),h1]at he
  subst he;refine za (λh=>absurd rfl h) (λ_=>?_);have e1:gJ n r=(r.b.take n,{r with b:=r.b.drop n}):=by unfold gJ;rw[zzb (by simp[h1]),zzb h2]
  refine Gp ?_;refine WH hS Xh hv (by omega) ?_;intro u hu;refine Gp ?_;refine WI hS Xh hv (by omega) ?_;intro v' pT;have cNe:=pT.one hS Xh;refine Gn λw hS=>?_;refine⟨_,⟨v',?_,?_,rfl⟩,?_⟩
  ·rw[e1];exact hu
  ·rw[e1];exact pT
  rw[e1];simp only[h1];exact hS
 rw[zzb (by omega)]at he
 subst he;refine za (λ_=>?_) (λh=>absurd h1 h);have e1:gJ n r=([],r):=by unfold gJ;rw[zzc h1]
 refine⟨_,⟨v,?_,?_,rfl⟩,?_⟩
 ·rw[e1];exact dP.nil
 ·rw[e1];exact hv
 rw[e1];exact hS
def b_k{a b:Nat}(ha:a<18446744073709551616)(hb:b<18446744073709551616):jw .or (.int .u64 (a:Int)) (.int .u64 (b:Int))=some (.int .u64 ((a ||| b:Nat):Int)):=by
 have h:(a ||| b)<18446744073709551616:=Nat.or_lt_two_pow (n:=64) ha hb;simp only[jw,ww8];congr 2;have e1:(BitVec.ofInt IntKind.u64.bits (a:Int))=BitVec.ofNat 64 a:=vvx 64 a;have e2:(BitVec.ofInt IntKind.u64.bits (b:Int))=BitVec.ofNat 64 b:=vvx 64 b;rw[e1,e2];have e3:(BitVec.ofNat 64 a ||| BitVec.ofNat 64 b).toNat=a ||| b:=by
  rw[BitVec.toNat_or,uub,uub,ww1 (by omega),ww1 (by omega)]
 show IntKind.u64.wrap (((BitVec.ofNat 64 a ||| BitVec.ofNat 64 b).toNat:Nat):Int)=_;rw[e3,wrap_u64 (by omega) (by omega)]
def czi{x:Nat}{c:Κ}{K:Ε->Prop}(h:K (.int .u64 (((x*256+c.toNat) % 18446744073709551616:Nat):Int))):
  zc .shl (.int .u64 (x:Int)) (.int .u64 8) λv=>zL .u64 (cX c) λy=>zc .or v y K:=by
 have hc:=c.toNat_lt;refine⟨.int .u64 (((x*256) % 18446744073709551616:Nat):Int),?_,?_⟩
 ·show (if (8:Int)<0 then none else some (Value.int .u64 (IntKind.u64.wrap ((x:Int)*2 ^ (min (8:Int).toNat IntKind.u64.bits)))))=_;rw[zzb (by omega)];congr 2
 refine zW ?_;rw[wrap_u64 (by omega) (by omega)];refine⟨_,b_k (by omega) (by omega),?_⟩;have e:(x*256) % 18446744073709551616=((x*256) % 18446744073709551616 / 256) <<< 8:=by rw[ttg];omega
 have e2:(x*256) % 18446744073709551616 ||| c.toNat=(x*256+c.toNat) % 18446744073709551616:=by
  rw[e,<- Nat.shiftLeft_add_eq_or_of_lt (show c.toNat<2 ^ 8 by omega),ttg];omega
 rw[e2];exact h
def P9{b:Φ}{i:Nat}(h:i<b.length):iQ (b.take (i+1))=(iQ (b.take i)*256+b[i].toNat) % 18446744073709551616:=by
 rw[show b.take (i+1)=b.take i++[b[i]] by rw[wwt];simp[h]];exact aFz _ _ _ rfl
def X7(X:Μ)(rp n:Nat)(r:jj)(u:Ε)(post:Β):Prop:=∃v',u= .int .u64 ((fM n r).1:Nat)/\dP X v' (fM n r).2.b/\post=[nf rp (fM n r).2 v',X]
def Zx(X:Μ)(rp n:Nat)(v:Ε)(r:jj)(hv:dP X v r.b)(hn:n<=1000):SP 280 [Δ rp,Γ n] [nf rp r v,X] (X7 X rp n r):=by
 refine Enzz λW F w hS=>?_;apply cHc;delta NP aI ai;refine Cc (YG X rp n v r hv) ?_;clear hS;rintro u post ⟨v',hu,pT,rfl⟩ w hS;(try simp only[app]at hS);have hl:=VA n r;refine yp hS Xh hu ?_;refine⟨λvs w=>∃i:Nat,i<=(gJ n r).1.length/\vs=[.int .u64 (iQ ((gJ n r).1.take i):Nat),Γ i]/\SL W (nf rp (gJ n r).2 v'::X::F) w,λvs _=>match vs with
  | [_,.int _ i]=>(gJ n r).1.length-i.toNat
  | _=>0,⟨0,by omega,rfl,hS⟩,?_⟩
 rintro v1 v2 w1 ⟨i,hi,hv,hS⟩;cases hv;refine bY (λh=>?_) (λh=>?_)
 ·have hi:i<(gJ n r).1.length:=by omega
  refine yY hS Xh hu hi ?_;refine czi ?_;refine Gp ?_;refine⟨⟨i+1,by omega,?_,hS⟩,?_⟩
  ·rw[P9 hi]
  simp only[zzw];omega
 have:(gJ n r).1.take i=(gJ n r).1:=zz2 (by omega);rw[this];exact⟨_,⟨v',rfl,pT,rfl⟩,hS⟩
def P8:∀(n:Nat) (b:Φ),b.length=n->iQ b<256 ^ n
 | 0,b,h=>by
  have:b=[]:=zzp h;subst this;decide
 | n+1,b,h=>by
  have h1:=P8 n (b.take n) (by rw[zzf];omega);have h2:=P9 (b:=b) (i:=n) (by omega);rw[zz2 (by omega)]at h2
  have hc:=(b[n]'(by omega)).toNat_lt;have h3:=Nat.mod_le (iQ (b.take n)*256+(b[n]'(by omega)).toNat) 18446744073709551616;rw[h2,Nat.pow_succ];omega
def JO(n:Nat)(r:jj):(fM n r).1<256 ^ n:=by
 have h1:=P8 _ _ (rfl:(gJ n r).1.length=_);have h2:=(VA n r).1;exact Nat.lt_of_lt_of_le h1 (vvy (by omega) h2)
def X5(X:Μ)(rp m:Nat)(r:jj)(u:Ε)(post:Β):Prop:=∃v',u= Γ ((gI m r).1:Nat)/\dP X v' (gI m r).2.b/\post=[nf rp (gI m r).2 v',X]
def YE(X:Μ)(rp m:Nat)(v:Ε)(r:jj)(hv:dP X v r.b)(hm:m<=100000):SP 208 [Δ rp,Γ m] [nf rp r v,X] (X5 X rp m r):=by
 refine Enzz λW F w hS=>?_;apply cFq;delta MP aI cV ai;refine Cc (Zx X rp 2 v r hv (by omega)) ?_;clear hS;rintro u post ⟨v',rfl,pT,rfl⟩ w hS;(try simp only[app]at hS);have dd:=JO 2 r;refine yz (by omega) ?_;refine bY (λh=>?_) (λh=>?_)
 ·refine Gn λw hS=>?_;have e:gI m r=(0,{(fM 2 r).2 with e:=3}):=by unfold gI;rw[zzc (by omega)]
  refine⟨_,⟨v',?_,?_,rfl⟩,?_⟩
  ·rw[e];rfl
  ·rw[e];exact pT
  rw[e];exact hS
 have e:gI m r=fM 2 r:=by unfold gI;rw[zzb (by omega)]
 refine⟨_,⟨v',?_,?_,rfl⟩,?_⟩
 ·rw[e]
 ·rw[e];exact pT
 rw[e];exact hS
def bYz(m:Nat)(r:jj):(gI m r).1<=m:=by
 unfold gI;split
 ·exact zz4 _
 rename_i h;exact wwi.1 h
def czz{n:Nat}(h:n<18446744073709551616):IntKind.i64.wrap (n:Int)=sig n:=by
 rw[IntKind.wrap_i64,sig];split<;>omega
def X2(X:Μ)(rp:Nat)(r:jj)(u:Ε)(post:Β):Prop:=∃v',u= .agg (gd (iE r).1).toArray/\dP X v' (iE r).2.b/\post=[nf rp (iE r).2 v',X]
def Qs(X:Μ)(rp:Nat)(v:Ε)(r:jj)(hv:dP X v r.b):SP 209 [Δ rp] [nf rp r v,X] (X2 X rp r):=by
 refine Enzz λW F w hS=>?_;apply cFr;delta MQ aI bU cV ai cP;refine Gm λb w hS=>?_;refine Cc (Zx X rp 1 v r hv (by omega)) ?_;clear hS;rintro u post ⟨v1,rfl,rr,rfl⟩ w hS;(try simp only[app]at hS);have dd:=JO 1 r;refine yz (by omega) ?_;refine bY (λh=>?_) (λh=>?_)
 ·refine Cc (Zx X rp 8 v1 (fM 1 r).2 rr (by omega)) ?_;clear hS;rintro u post ⟨v2,rfl,tD,rfl⟩ w hS;(try simp only[app]at hS);have cM3:=JO 8 (fM 1 r).2;refine zW ?_;rw[czz (by omega),h];have e:iE r=(⟨1,sig (fM 8 (fM 1 r).2).1,⟨#[]⟩⟩,(fM 8 (fM 1 r).2).2):=by
   unfold iE;rw[zzc (by omega)]
  refine Gn λw hS=>?_;refine⟨[nf rp (iE r).2 v2,X],⟨v2,?_,?_,rfl⟩,?_⟩
  ·rw[e];rfl
  ·rw[e];exact tD
  rw[e];exact aW hS
 refine bY (λh2=>?_) (λh2=>?_)
 ·refine Cc (YE X rp 4096 v1 (fM 1 r).2 rr (by omega)) ?_;clear hS;rintro u post ⟨v2,rfl,tD,rfl⟩ w hS;(try simp only[app]at hS);refine Cc (YG X rp (gI 4096 (fM 1 r).2).1 v2 (gI 4096 (fM 1 r).2).2 tD) ?_;clear hS;rintro u post ⟨v3,hu,hv3,rfl⟩ w hS;(try simp only[app]at hS);obtain⟨au,cu,eu,_⟩:=hu.sl hS Xh;refine Zd ⟨_,_,_,eu⟩ (hu.src hS Xh) xxm yy1 wwk ?_;rw[h2];have e:iE r=(⟨2,0,dW (gJ (gI 4096 (fM 1 r).2).1 (gI 4096 (fM 1 r).2).2).1⟩,(gJ (gI 4096 (fM 1 r).2).1 (gI 4096 (fM 1 r).2).2).2):=by
   unfold iE dW;rw[zzb (by omega),zzc (by omega)]
  refine Gn λw hS=>?_;refine⟨[nf rp (iE r).2 v3,X],⟨v3,?_,?_,rfl⟩,?_⟩
  ·rw[e];rfl
  ·rw[e];exact hv3
  rw[e];exact aW hS
 refine Gp ?_;have e:iE r=(wL,if (fM 1 r).2.e=0 then {(fM 1 r).2 with e:=3} else (fM 1 r).2):=by
  unfold iE;rw[zzb (by omega),zzb (by omega)]
 refine za (λh3=>?_) (λh3=>?_)
 ·rw[zzc h3]at e
  refine Gn λw hS=>?_;refine⟨[nf rp (iE r).2 v1,X],⟨v1,?_,?_,rfl⟩,?_⟩
  ·rw[e];rfl
  ·rw[e];exact rr
  rw[e];exact aW hS
 rw[zzb h3]at e
 refine Gn λw hS=>?_;refine⟨[nf rp (iE r).2 v1,X],⟨v1,?_,?_,rfl⟩,?_⟩
 ·rw[e];rfl
 ·rw[e];exact rr
 rw[e];exact aW hS
def Ci(x:dD):(gd x).length=3:=rfl
def sZ(r:jj):Int:=if r.e=0 then if 0<r.b.length then 3 else 0 else r.e
def Hz(b:Φ):jz b=if sZ (ia (gI 32767 ⟨b,0⟩).1 (gI 32767 ⟨b,0⟩).2).2=0 then .ok (ia (gI 32767 ⟨b,0⟩).1 (gI 32767 ⟨b,0⟩).2).1 else .error (sZ (ia (gI 32767 ⟨b,0⟩).1 (gI 32767 ⟨b,0⟩).2).2):=rfl
def vW(X:Μ)(b:Φ)(u:Ε)(post:Β):Prop:=match jz b with
 | .error e=>u= .tuple #[Θ,Γ e]/\post=[X]
 | .ok l=>∃v,u= .tuple #[v,Γ 0]/\post=[.ob (bI v 327 3 l.length (l.map gd).flatten),X]
def Sn(x:dD):∀v∈gd x,v.oneCell'=true:=λv hv=>by
 simp only[gd,zz8,xxj,vvw]at hv;rcases hv with rfl|rfl|rfl<;>rfl
def yE(X:Μ)(v:Ε)(b:Φ)(hv:dP X v b):SP 153 [v] [X] (vW X b):=by
 refine Enzz λW F w hS=>?_;apply cD9;delta LU aI bU cV aR bV ai cP bR;obtain⟨a0,c0,rfl,_⟩:=hv.sl hS .hd;refine yX rfl ?_;refine⟨_,rfl,zE hS ?_⟩;clear hS;intro rp w hS;generalize hm:gI 32767 ⟨b,0⟩=m;refine⟨λvs w=>∃u v',vs=[u]/\dP X v' (ia m.1 m.2).2.b/\SL W (.ob (bI u 327 3 (ia m.1 m.2).1.length ((ia m.1 m.2).1.map gd).flatten)::nf rp (ia m.1 m.2).2 v'::X::F) w,?_,?_⟩
 ·have hS:SL W (nf rp ⟨b,0⟩ (.slice a0 b.length c0)::X::F) w:=hS;refine Cc (YE X rp 32767 _ ⟨b,0⟩ hv (by omega)) ?_;clear hS;rintro u post ⟨v1,rfl,rr,rfl⟩ w hS;(try simp only[app]at hS);rw[hm]at hS rr ⊢
  have hle:m.1<=32767:=by rw[<- hm];exact bYz _ _
  have hS:=bI.nil (t:=327) (sz:=3) hS;refine⟨λvs w=>∃(u v':Ε) (xs:List dD) (i:Nat) (r:jj),vs=[u,Γ i]/\xs.length+i=m.1/\ia m.1 m.2=(xs++(ia i r).1,(ia i r).2)/\dP X v' r.b/\SL W (.ob (bI u 327 3 xs.length (xs.map gd).flatten)::nf rp r v'::X::F) w,λvs _=>match vs with
   | [_,.int _ i]=>i.toNat
   | _=>0,⟨_,v1,[],m.1,m.2,rfl,by simp,by simp,rr,hS⟩,?_⟩
  rintro u1 u2 w1 ⟨u,v',xs,i,r,hv,hx,hf,hr,hS⟩;cases hv;refine bY (λh=>?_) (λh=>?_)
  ·refine Gp ?_;obtain⟨j,rfl⟩:∃j,i=j+1:=⟨i-1,by omega⟩;refine za (λh2=>?_) (λh2=>?_)
   ·refine Cc (Qs X rp v' r hr) ?_;clear hS;rintro u5 post ⟨v2,rfl,tD,rfl⟩ w hS;(try simp only[app]at hS);refine zN (cells:=gd (iE r).1) hS rfl ?_;clear hS;intro p w hS;refine zJ (m:=1) (cs:=gd (iE r).1) hS Xr (j8 hS .hd rfl) rfl rfl (Sn _) (by omega) (by omega) ?_;clear hS;intro u' w hS;refine Gp ?_;have e:((j+1:Nat):Int)-1=(j:Int):=by omega
    rw[e];refine⟨⟨u',v2,xs++[(iE r).1],j,(iE r).2,rfl,by simp;omega,?_,tD,?_⟩,?_⟩
    ·rw[hf];have:ia (j+1) r=((iE r).1::(ia j (iE r).2).1,(ia j (iE r).2).2):=by
      show (if r.e=0 then _ else _)=_;rw[zzc h2]
     rw[this];simp
    ·simp only[zza,zzh,yyp,zzs,zzo,yy4,yys,zz5,xxz,zzx];exact aW hS
    simp only[zzw];omega
   have:ia (j+1) r=([],r):=by
    show (if r.e=0 then _ else _)=_;rw[zzb h2]
   rw[this,zzx]at hf
   refine⟨u1,v',rfl,?_,?_⟩
   ·rw[hf];exact hr
   rw[hf];exact hS
  obtain rfl:i=0:=by omega
  have:ia 0 r=([],r):=rfl;rw[this,zzx]at hf
  refine⟨u1,v',rfl,?_,?_⟩
  ·rw[hf];exact hr
  rw[hf];exact hS
 rintro u5 w ⟨u,v',hu,pT,hS⟩;obtain rfl:u5=u:=(List.cons.inj hu).1;have hd:=Hz b;rw[hm]at hd
 generalize (ia m.1 m.2).2=r at *
 generalize (ia m.1 m.2).1=xs at *
 refine⟨λvs w=>vs=[]/\SL W (.ob (bI u5 327 3 xs.length (xs.map gd).flatten)::.pt rp [v',Γ (sZ r)] 325::X::F) w,?_,?_⟩
 ·refine bY (λh=>?_) (λh=>?_)
  ·refine Gp ?_;refine yp hS Xh pT ?_;refine bY (λh2=>?_) (λh2=>?_)
   ·refine Gn λw hS=>?_;have e:sZ r=3:=by unfold sZ;rw[zzc h,zzc (by omega)]
    rw[e];exact hS
   have e:sZ r=r.e:=by unfold sZ;rw[zzc h,zzb (by omega),h]
   rw[e];exact⟨rfl,hS⟩
  have e:sZ r=r.e:=by unfold sZ;rw[zzb h]
  rw[e];exact⟨rfl,hS⟩
 rintro w ⟨_,hS⟩;refine bY (λh=>?_) (λh=>?_)
 ·refine Gn λw hS=>?_;rw[zzb h]at hd
  refine⟨[X],?_,aW hS⟩;unfold vW;rw[hd];exact⟨rfl,rfl⟩
 have h:sZ r=0:=by omega
 rw[zzc h]at hd
 refine⟨[.ob (bI u5 327 3 xs.length (xs.map gd).flatten),X],?_,aW hS⟩;unfold vW;rw[hd];exact⟨u5,rfl,rfl⟩
def czk{a:Int}{n:Nat}{k:IntKind}(hn:n<=64){K:Ε->Prop}(h:K (.int .u64 (a.fdiv (2 ^ n)))):zc .shr (.int .u64 a) (.int k (n:Int)) K:=by
 refine⟨.int .u64 (a.fdiv (2 ^ n)),?_,h⟩;have h1:¬((n:Int)<0):=by omega
 simp only[jw,h1,vvo];rw[show min (n:Int).toNat IntKind.u64.bits=n by simp only[IntKind.bits];omega]
def Zw(b:Φ)(v:Ε)(x:Int)(n:Nat)(hn:n<=8)(hb:b.length<=140737488355000):SP 283 [v,.int .u64 x,Γ n] [.ob (bI v 5 1 b.length (b.map cX))] (λu post=>post=[.ob (bI u 5 1 (b++eQ x n).length ((b++eQ x n).map cX))]):=by
 refine Enzz λW F w hS=>?_;apply cHf;delta NS aI ai;refine Gp ?_;refine⟨λvs w=>∃(u:Ε) (c:Φ) (k:Nat),vs=[u,Γ ((k:Int)-1)]/\k<=n/\c++eQ x k=b++eQ x n/\SL W (.ob (bI u 5 1 c.length (c.map cX))::F) w,λvs _=>match vs with
  | [_,.int _ i]=>(i+1).toNat
  | _=>0,⟨v,b,n,rfl,zzi _,rfl,hS⟩,?_⟩
 rintro u1 u2 w1 ⟨u,c,k,hv,hk,hc,hS⟩;cases hv;refine bY (λh=>?_) (λh=>?_)
 ·obtain⟨j,rfl⟩:∃j,k=j+1:=⟨k-1,by omega⟩;have e0:((j+1:Nat):Int)-1=(j:Int):=by omega
  rw[e0];refine czc (by omega) ?_;have e1:(8:Int)*(j:Int)=((8*j:Nat):Int):=by omega
  rw[e1];refine czk (by omega) ?_;refine zW ?_;rw[wrap_u8];refine zN (cells:=[cX (gO (x.fdiv (2 ^ (8*j))))]) hS rfl ?_;clear hS;intro p w hS;have oV:c.length+(j+1)=b.length+n:=by
   have:=yyu List.length hc;simpa [lJ] using this
  refine zJ (m:=1) (cs:=[cX (gO (x.fdiv (2 ^ (8*j))))]) hS Xr (j8 hS .hd rfl) rfl rfl (by intro v hv;simp only[zz3]at hv;subst hv;rfl) (by omega) (by omega) ?_;clear hS;intro u' w hS;refine Gp ?_;refine⟨⟨u',c++[gO (x.fdiv (2 ^ (8*j)))],j,rfl,by omega,?_,?_⟩,?_⟩
  ·rw[<- hc];simp[eQ]
  ·simp only[zza,zzh,yyp,zzs,zzo,yy4];exact aW hS
  show ((j:Int)-1+1).toNat<((j:Int)+1).toNat;omega
 obtain rfl:k=0:=by omega
 have e:c=b++eQ x n:=by simpa [eQ] using hc
 rw[e]at hS
 exact⟨_,rfl,hS⟩
def qK(x:dD):SP 284 [.agg (gd x).toArray] [] (cC (.bool (oC x)) []):=by
 refine Enzz λW F w hS=>?_;apply cHg;delta NT aI a_ cw ai;refine⟨gd x,rfl,?_⟩;unfold gd;refine Gm λb w hS=>?_;unfold oC;refine za (λh=>?_) (λh=>?_)
 ·rw[zzc h];refine Gp ?_;have e:decide (x.s=({data:=#[]}:Η))=decide (x.s=⟨#[]⟩):=rfl;exact cA hS
 rw[zzb h];refine bY (λh2=>?_) (λh2=>?_)
 ·rw[zzc h2];refine bY (λh3=>?_) (λh3=>?_)
  ·refine Gp ?_;rw[zzl h3,vv6];have e:decide ((x.s.size:Int)<=4096)=decide (x.s.size<=4096):=by congr 1;exact propext ⟨λ_=>by omega,λ_=>by omega⟩
   rw[e];exact cA hS
  rw[zzz h3,uu3];exact cA hS
 rw[zzb h2];exact cA hS
def qN{P:Program}{t:Ι}{fs:Array Field}{f:Field}{i:Nat}{vs:Ξ}{v:Ε}{w:Ζ}{K:Ε->Prop}(ht:P.underlying t=some (.struct fs))(hf:fs[i]?=some f)(ha:∀w,(isAgg f.type).run P w= .ok false w)(hv:vs[f.offset]?=some v)(h:K v):
  eW P (Instr.field t (.agg vs.toArray) i) w K:=by
 refine⟨_,?_,h⟩;simp[Instr.field,asAgg,yyn ht,Result.andThen,hf,part,ha,hv]
def Sd(x:dD):∀v∈gd x,v.oneCell'=true:=Sn x
def HK(x:dD):(gd x).length=3:=rfl
def yJ(b:Nat)(ns:Ω)(t:Ι)(hn:ns.length<=1000):
  SP 215 [.slice (some ⟨b,0,none⟩) ns.length ns.length] [.pt b (ns.map (Value.int .i64)) t] (λu post=>post=[.ob (bI u 327 3 ns.length ((ns.map iF).map gd).flatten)]):=by
 refine Enzz λW F w hS=>?_;apply cFx;delta MX aI ai cP bR;have hS:=bI.nil (t:=327) (sz:=3) hS;refine Gp ?_;refine⟨λvs w=>∃(i:Nat) (u:Ε),vs=[u,Γ i]/\i<=ns.length/\SL W (.ob (bI u 327 3 i (((ns.take i).map iF).map gd).flatten)::.pt b (ns.map (Value.int .i64)) t::F) w,
  λvs _=>match vs with|[_,.int _ i]=>(ns.length-i).toNat|_=>0,⟨0,_,rfl,by omega,hS⟩,?_⟩
 clear hS;rintro u v8 w ⟨i,_,eP,hi,hS⟩;cases eP;refine bY (λh=>?_) (λh=>?_)
 ·have cx:i<ns.length:=by omega
  refine zG cx (zV hS Xh (v:=Γ ns[i]) (by simp[cx]) ?_);refine Gm λb w hS=>?_;refine yy (n:=i) (xs:=(ns.take i).map iF) (y:=iF ns[i]) (enc:=gd) hS Xr Xh HK Sd rfl (by omega) (by omega) λv2 w hS=>?_;refine Gp ?_;refine⟨⟨i+1,_,rfl,by omega,?_⟩,by dsimp only;omega⟩;rw[zze cx,zzs (f:=iF),xx7];exact aW hS
 have:i=ns.length:=by omega
 subst this;rw[zz0]at hS
 exact⟨_,rfl,aW hS⟩
def yO(s:Η):SP 217 [.string s] [] (cC (agg (gd (tF s))) []):=by
 refine Enzz λW F w hS=>?_;apply cFz;delta MZ ai cP;refine Gm λb w hS=>?_;(exact cA hS)
def Zy(b:Bool):SP 216 [.bool b] [] (cC (Γ (gS b)) []):=by
 refine Enzz λW F w hS=>?_;apply cFy;delta MY ai;cases b<;>(repeat (first|refine Gp ?_|refine Gw λw hS=>?_|refine Gb λb w hS=>?_))<;>(exact cA hS)
def fe(rp:Nat)(r:cY):zC:=jF λv:Ε=>zH True [.pt rp [v,.bool r.bad] 330,.ob (dq v 327 3 r.l.length (r.l.map gd).flatten)]
def fe.iff{W w:Ζ}{rp:Nat}{r:cY}{l:Β}:SL W (.ob (fe rp r)::l) w↔∃v,SL W (.pt rp [v,.bool r.bad] 330::.ob (dq v 327 3 r.l.length (r.l.map gd).flatten)::l) w:=by
 unfold fe;simp only[SL.ex,SL.fact,zzu,zzq,uuk]
def Zb(v:Ε)(l:List dD):SP 154 [v] [.ob (bI v 327 3 l.length (l.map gd).flatten)] (λu post=>∃rp:Nat,u= Δ rp/\post=[.ob (fe rp ⟨l,false⟩)]):=by
 refine Enzz λW F w hS=>?_;apply cEa;delta LV bR;have h1:=bI.one hS;obtain⟨a,c,rfl,_⟩:=bI.at hS .hd;refine Gp ?_;refine zw hS λb w hS=>?_;refine⟨_,⟨b,rfl,rfl⟩,(fe.iff (r:=⟨l,false⟩)).2 ⟨.slice a l.length c,?_⟩⟩;exact (dq.of (hS.perm (.swap _ _ _))).perm (.swap _ _ _)
def Z6(rp:Nat)(r:cY)(k:Int):SP 210 [Δ rp,Γ k] [.ob (fe rp r)] (cC (agg (gd (pV k r).1)) [.ob (fe rp (pV k r).2)]):=by
 obtain⟨l,bad⟩:=r;refine Enzz λW F w hS=>?_;apply cFs;delta MR aI bU a_ cV D_ ai cP;obtain⟨v,hS⟩:=fe.iff.1 hS;simp only at hS;refine Gm λb w hS=>?_;cases bad with
 | true=>
  refine Gn λw hS=>?_;have e:pV k ⟨l,true⟩=(wL,⟨l,true⟩):=by unfold pV;rfl
  rw[e];exact⟨_,⟨rfl,rfl⟩,fe.iff.2 ⟨v,aW hS⟩⟩
 | false=>
  refine Gp ?_;refine zK hS (v:=v) Xh ?_;refine Gp ?_;cases l with
  | nil=>
   refine za (λh=>?_) (λh=>absurd rfl h);refine Gn λw hS=>?_;rw[show pV k ⟨[],false⟩=(wL,⟨[],true⟩) from rfl];exact⟨_,⟨rfl,rfl⟩,fe.iff.2 ⟨v,aW hS⟩⟩
  | cons f l=>
   refine za (λh=>by rw[zzh]at h;omega) (λh=>?_);refine Gp ?_;refine y2 (j:=0) (k:=.i64) hS (v:=v) Xh (by simp) λab ao hb=>yL ⟨_,Γ f.kind,rfl,hb 0 _ (by decide) rfl,?_⟩;refine bY (λhk=>?_) (λhk=>?_)
   ·refine Gn λw hS=>?_;have e:pV k ⟨f::l,false⟩=(wL,⟨f::l,true⟩):=by unfold pV;exact zzb hk
    rw[e];exact⟨_,⟨rfl,rfl⟩,fe.iff.2 ⟨v,aW hS⟩⟩
   refine Gp ?_;refine qO (j:=0) (k:=.i64) hS (v:=v) (enc:=gd) (xs:=f::l) Xh HK rfl (by simp) ?_;refine Gm λb w hS=>?_;refine Yd (k:=1) (v:=v) (Has.front hS Xr) (by simp) λu hS=>?_;have hS:SL W (.ob (dq u 327 3 l.length (l.map gd).flatten)::_) _:=hS;have h1:=dq.one hS .hd;refine Gn λw hS=>?_;have e:pV k ⟨f::l,false⟩=(f,⟨l,false⟩):=by unfold pV;exact zzc (Classical.not_not.1 hk)
   rw[e];exact⟨_,⟨rfl,rfl⟩,fe.iff.2 ⟨u,aW hS⟩⟩
def zP(rp:Nat)(r:cY):SP 155 [Δ rp] [.ob (fe rp r)] (cC (Γ (fu r).1) [.ob (fe rp (fu r).2)]):=by
 refine Enzz λW F w hS=>?_;apply cEb;delta LW ai;refine Cg (Z6 rp r 1) λw hS=>?_;exact qN Tryz.underlying327 rfl (λw=>by kernel_rfl) rfl ⟨_,⟨rfl,rfl⟩,hS⟩
def yG(rp:Nat)(r:cY):SP 158 [Δ rp] [.ob (fe rp r)] (cC (.string (pd r).1) [.ob (fe rp (pd r).2)]):=by
 refine Enzz λW F w hS=>?_;apply cEe;delta LZ ai;refine Cg (Z6 rp r 2) λw hS=>?_;exact qN Tryz.underlying327 rfl (λw=>by kernel_rfl) rfl ⟨_,⟨rfl,rfl⟩,hS⟩
def fe.bad{W w:Ζ}{rp:Nat}{r:cY}{l:Β}(v:Ε)(h:SL W (.pt rp [v,.bool true] 330::.ob (dq v 327 3 r.l.length (r.l.map gd).flatten)::l) w):SL W (.ob (fe rp {r with bad:=true})::l) w:=fe.iff.2 ⟨v,h⟩
def zy(rp:Nat)(r:cY)(m:Int):SP 156 [Δ rp,Γ m] [.ob (fe rp r)] (cC (Γ (dB m r).1) [.ob (fe rp (dB m r).2)]):=by
 refine Enzz λW F w hS=>?_;apply cEc;delta LX aI cV ai;refine Cg (zP rp r) λw hS=>?_;have hB:((fu r).1<0\/m<(fu r).1)->dB m r=(0,{(fu r).2 with bad:=true}):=λh=>zzc h;have hG:¬((fu r).1<0\/m<(fu r).1)->dB m r=fu r:=λh=>zzb h;refine za (λh=>?_) (λh=>?_)
 ·rw[hB (.inl h)];obtain⟨v,hS⟩:=fe.iff.1 hS;refine Gn λw hS=>?_;exact⟨_,⟨rfl,rfl⟩,fe.bad v hS⟩
 refine bY (λh2=>?_) (λh2=>?_)
 ·rw[hB (.inr h2)];obtain⟨v,hS⟩:=fe.iff.1 hS;refine Gn λw hS=>?_;exact⟨_,⟨rfl,rfl⟩,fe.bad v hS⟩
 rw[hG (by omega)];(exact cA hS)
def Za(rp:Nat)(r:cY):SP 211 [Δ rp] [.ob (fe rp r)] (cC (.bool (sV r).1) [.ob (fe rp (sV r).2)]):=by
 refine Enzz λW F w hS=>?_;apply cFt;delta MT ai;refine Cg (zy rp r 1) λw hS=>?_;exact⟨_,⟨rfl,rfl⟩,hS⟩
def y8(rp:Nat)(r:cY):SP 272 [Δ rp] [.ob (fe rp r)] (cC (.bool (!r.bad)) [.ob (fe rp r)]):=by
 refine Enzz λW F w hS=>?_;apply cG3;delta NG bU;obtain⟨v,hS⟩:=fe.iff.1 hS;refine Gp ?_;exact⟨_,⟨rfl,rfl⟩,fe.iff.2 ⟨v,hS⟩⟩
def y7(rp:Nat)(r:cY):SP 159 [Δ rp] [.ob (fe rp r)] (cC (.bool (decide (r.bad=false/\r.l=[]))) [.ob (fe rp r)]):=by
 refine Enzz λW F w hS=>?_;apply cEf;delta L1 bU cL cw ai;obtain⟨v,hS⟩:=fe.iff.1 hS;refine Gp ?_;obtain⟨l,bad⟩:=r;cases bad with
 | true=>
  refine zp ?_;rw[zzz (by simp)];exact⟨_,⟨rfl,rfl⟩,fe.iff.2 ⟨v,hS⟩⟩
 | false=>
  refine zq ?_;refine Gp ?_;refine zK hS (v:=v) Xh ?_;refine Gp ?_;have e:decide ((l.length:Int)=0)=decide ((cY.mk l false).bad=false/\(cY.mk l false).l=[]):=by
   rw[yyg];simp
  rw[e];exact⟨_,⟨rfl,rfl⟩,fe.iff.2 ⟨v,hS⟩⟩
structure eh where
 table:Int
 key:Int
 gone:Bool
 val:Η
deriving DecidableEq
structure cH where
 aw:Int
 kind:Int
 changes:List eh
 signals:Ψ
 mark:Int
def fN(c:eh):Ξ:=[Γ c.table,Γ c.key,.bool c.gone,.string c.val]
def s3(c:eh):(fN c).length=4:=rfl
def Sc(c:eh):∀v∈fN c,v.oneCell'=true:=by simp[fN,Value.oneCell']
structure mK where
 aw:Int
 kind:Int
 cv:Ε
 sv:Ε
 mark:Int
def fm(x:mK):Ξ:=[Γ x.aw,Γ x.kind,x.cv,x.sv,Γ x.mark]
structure lz(H:bw)(x:mK)(t:cH):Prop where
 aw:x.aw=t.aw
 kind:x.kind=t.kind
 mark:x.mark=t.mark
 cv:dx H 4 x.cv t.changes.length (t.changes.map fN).flatten
 sv:dx H 1 x.sv t.signals.length (t.signals.map Value.string)
def f_(C:List Row):Prop:=C.Pairwise (λa b=>a.key<b.key)
def eU(C:List Row)(k:Int):Option Η:=(C.find? (λc=>decide (c.key=k))).map (·.val)
def gN:List Row->Row->List Row
 | [],c=>[c]
 | x::C,c=>if x.key<c.key then x::gN C c else if x.key=c.key then c::C else c::x::C
def jT:List Row->Int->List Row
 | [],_=>[]
 | x::C,k=>if x.key=k then C else x::jT C k
def lq(C:List Row)(c:eh):List Row:=if c.gone then jT C c.key else gN C ⟨c.key,c.val⟩
def u0(t:Int)(C:List Row)(c:eh):List Row:=if c.table=t then (if c.gone then jT C c.key else gN C ⟨c.key,c.val⟩) else C
def wP(t:Int)(l:List cH):List Row:=(l.flatMap (·.changes)).foldl (u0 t) []
def Vp{C:List Row}{c x:Row}(h:x∈gN C c):x=c\/x∈C:=by
 induction C with
 | nil=>simpa [gN] using h
 | cons y C ih=>
  unfold gN at h;split at h
  ·rcases zz8.1 h with rfl|h
   ·exact .inr (.head _)
   rcases ih h with h|h
   ·exact .inl h
   exact .inr (.tail _ h)
  split at h
  ·rcases zz8.1 h with rfl|h
   ·exact .inl rfl
   exact .inr (.tail _ h)
  rcases zz8.1 h with rfl|h
  ·exact .inl rfl
  exact .inr h
def Km{C:List Row}(h:f_ C)(c:Row):f_ (gN C c):=by
 unfold f_ at *
 induction C with
 | nil=>simp[gN]
 | cons y C ih=>
  rw[yyj]at h
  unfold gN;split
  ·rename_i dd;refine yyj.2 ⟨λz hz=>?_,ih h.2⟩;rcases Vp hz with rfl|hz
   ·exact dd
   exact h.1 z hz
  split
  ·rename_i he;exact yyj.2 ⟨λz hz=>by have:=h.1 z hz;omega,h.2⟩
  rename_i h1 h2;refine yyj.2 ⟨λz hz=>?_,yyj.2 h⟩;rcases zz8.1 hz with rfl|hz
  ·omega
  have:=h.1 z hz;omega
def Vn{C:List Row}{k:Int}{x:Row}(h:x∈jT C k):x∈C:=by
 induction C with
 | nil=>exact h
 | cons y C ih=>
  unfold jT at h;split at h
  ·exact .tail _ h
  rcases zz8.1 h with rfl|h
  ·exact .head _
  exact .tail _ (ih h)
def W5{C:List Row}(h:f_ C)(k:Int):f_ (jT C k):=by
 unfold f_ at *
 induction C with
 | nil=>exact h
 | cons y C ih=>
  rw[yyj]at h
  unfold jT;split
  ·exact h.2
  exact yyj.2 ⟨λz hz=>h.1 z (Vn hz),ih h.2⟩
def SI(C:List Row)(c:Row)(k:Int):eU (gN C c) k=if c.key=k then some c.val else eU C k:=by
 unfold eU;induction C with
 | nil=>by_cases h:c.key=k<;>simp[gN,h]
 | cons y C ih=>
  unfold gN;split
  ·by_cases h1:y.key=k
   ·have:c.key≠k:=by omega
    simp[h1,this]
   simp only[xxo,h1,ww7];exact ih
  split
  ·rename_i he;by_cases h1:c.key=k
   ·simp[h1]
   have:y.key≠k:=by omega
   simp[h1,this]
  by_cases h1:c.key=k<;>simp[h1]
def SH{C:List Row}(hs:f_ C)(k0 k:Int):eU (jT C k0) k=if k0=k then none else eU C k:=by
 unfold eU f_ at *
 induction C with
 | nil=>simp[jT]
 | cons y C ih=>
  rw[yyj]at hs
  unfold jT;split
  ·rename_i he;by_cases h1:k0=k
   ·subst h1;have:C.find? (λc=>decide (c.key=k0))=none:=by
     rw[uu4];intro z hz;have:=hs.1 z hz;simp;omega
    simp[this]
   have:¬y.key=k:=by omega
   simp[h1,this]
  rename_i he;have Jl:=ih hs.2;by_cases h1:y.key=k
  ·have:¬k0=k:=by omega
   simp[h1,this]
  simp only[xxo,h1,ww7];exact Jl
def Jv(C:List Row)(c:Row):(gN C c).length<=C.length+1:=by
 induction C with
 | nil=>simp[gN]
 | cons y C ih=>
  unfold gN;split
  ·simp;omega
  split<;>simp
def U7(C:List Row)(k:Int):(jT C k).length<=C.length:=by
 induction C with
 | nil=>exact zzi _
 | cons y C ih=>unfold jT;split<;>simp;omega
def bXh(t:Int)(C:List Row)(c:eh):(u0 t C c).length<=C.length+1:=by
 unfold u0;have:=Jv C ⟨c.key,c.val⟩;have:=U7 C c.key;split
 ·split<;>omega
 omega
def bXi{l:List eh}:∀(C:List Row) (t:Int),(l.foldl (u0 t) C).length<=C.length+l.length:=by
 induction l with
 | nil=>intro C t;simp
 | cons c l ih=>intro C t;have:=ih (u0 t C c) t;have:=bXh t C c;simp only[xx4,zzh];omega
def bRm(k:Int)(cJ:Nat):Nat:=(min (max k 0) (cJ:Int)).toNat
set_option maxRecDepth 100000
open Go.RowKit
def qI(o:gl)(aw:Int):SP 326 [agg (jB o),Γ aw] [] (cC (.bool (kO o aw)) []):=by
 refine Enzz λW F w hS=>?_;apply cIc;delta On aI a_ cL cw ai;refine zw hS λb w hS=>?_;unfold jB at hS;have hF:∀{w:Ζ},¬(1<=o.aw/\o.aw<=aw/\0<=o.table/\o.table<8/\1<=o.key/\o.key<=1099511627776/\o.val.size<=32)->SL W (.pt b [Γ o.aw,Γ o.table,Γ o.key,.bool o.gone,.string o.val] 390::F) w ->
   ∃post,cC (.bool (kO o aw)) [] (.bool false) post/\SL W (app post F) w:=λh hS=>⟨_,⟨by rw[show kO o aw=false by unfold kO;rw[yy7];exact λk=>h ⟨k.1,k.2.1,k.2.2.1,k.2.2.2.1,k.2.2.2.2.1,k.2.2.2.2.2.1,k.2.2.2.2.2.2.1⟩],rfl⟩,aW hS⟩
 (repeat (first|refine Gp ?_|refine Gw λw hS=>?_|refine za (λ_=>hF (by omega) hS) (λ_=>?_)|refine za (λ_=>?_) (λ_=>hF (by omega) hS)))
 have e:kO o aw=decide (o.gone=true->o.val=emp):=by
  unfold kO;rw[yyg];exact⟨λh=>h.2.2.2.2.2.2.2,λh=>⟨by omega,by omega,by omega,by omega,by omega,by omega,by omega,h⟩⟩
 rw[e];refine zu (λh=>?_) (λh=>?_)
 ·rw[h,zzl (by simp)];(exact cA hS)
 refine Gp ?_;rw[h];have e2:decide (true=true->o.val=emp)=decide (o.val={data:=#[]}):=by rw[yyg];exact⟨λh=>h rfl,λh _=>h⟩
 rw[e2];(exact cA hS)
def bZg(n:il)(aw:Int){W w:Ζ}{F:Β}(hS:SL W F w):GR (agg (kI n)) (Γ aw) w λv w'=>∃post,cC (.bool (jg n aw)) [] v post/\SL W (app post F) w':=by
 delta GR aI a_ cw ai;refine zw hS λb w hS=>?_;unfold kI at hS;have hF:∀{w:Ζ},¬(1<=n.id/\n.id<=64/\((n.kind=1/\0<=n.table/\n.table<8/\1<=n.weight/\n.weight<=8/\1<=n.at_/\n.at_<=aw/\n.dz=0)\/(n.kind=2/\n.table=0/\n.weight=0/\n.at_=0/\0<=n.dz))) ->
   SL W (.pt b [Γ n.kind,Γ n.id,Γ n.table,Γ n.weight,Γ n.at_,Γ n.dz,.bool n.done] 393::F) w->∃post,cC (.bool (jg n aw)) [] (.bool false) post/\SL W (app post F) w:=λh hS=>⟨_,⟨by
    rw[show jg n aw=false by
     unfold jg;rw[yy7];rintro ⟨h1,h2,h3⟩;rcases h3 with h3|h3
     ·exact h ⟨h1,h2,.inl ⟨h3.1,h3.2.1,h3.2.2.1,h3.2.2.2.1,h3.2.2.2.2.1,h3.2.2.2.2.2.1,h3.2.2.2.2.2.2.1,h3.2.2.2.2.2.2.2.1⟩⟩
     exact h ⟨h1,h2,.inr ⟨h3.1,h3.2.1,h3.2.2.1,h3.2.2.2.1,h3.2.2.2.2.1⟩⟩],rfl⟩,aW hS⟩
 refine Gp ?_;refine za (λ_=>hF (by omega) hS) (λ_=>?_);refine Gp ?_;refine za (λ_=>hF (by omega) hS) (λ_=>?_);refine bY (λ_=>?_) (λ_=>?_)
 ·(repeat (first|refine Gp ?_|refine Gw λw hS=>?_|refine za (λ_=>hF (by omega) hS) (λ_=>?_)|refine za (λ_=>?_) (λ_=>hF (by omega) hS)))
  have e:jg n aw = !n.done:=by
   unfold jg;rw[uuv,uud];cases n.done<;>simp<;>omega
  rw[e];(exact cA hS)
 (repeat (first|refine Gp ?_|refine Gw λw hS=>?_|refine za (λ_=>hF (by omega) hS) (λ_=>?_)|refine za (λ_=>?_) (λ_=>hF (by omega) hS)))
 have e:jg n aw=decide (n.dz<=1099511627776):=by
  unfold jg;rw[yyg];omega
 rw[e];(exact cA hS)
def Yp(n:il)(aw:Int):SP 327 [agg (kI n),Γ aw] [] (cC (.bool (jg n aw)) []):=λW F w hS=>cId _ _ _ _ (bZg n aw hS)
def mB(c:eh)(k:Int):Bool:=decide (0<=c.table/\c.table<k/\1<=c.key/\c.key<=1099511627776/\c.val.size<=32/\(c.gone=true->c.val=emp))
def FP{x:cD}(h:¬(1<=x.aw/\x.aw<=1099511627776/\x.ops.length<=4096/\x.notes.length<=256)):ep x=false:=by
 unfold ep;rw[zzz h];rfl
def bX4{x:cD}{i:Nat}(hi:i<x.ops.length)(h:kO x.ops[i] x.aw=false):ep x=false:=by
 cases hm:ep x with
 | false=>rfl
 | true=>
  unfold ep at hm;rw[zz9,zz9,zz6]at hm
  rw[hm.1.2 _ (zzg hi)]at h;cases h
def bX5{x:cD}{i:Nat}(hi:i<x.notes.length)(h:jg x.notes[i] x.aw=false):ep x=false:=by
 cases hm:ep x with
 | false=>rfl
 | true=>
  unfold ep at hm;rw[zz9,zz9,zz6,zz6]at hm
  rw[hm.2 _ (zzg hi)]at h;cases h
def bX6{x:cD}(h:1<=x.aw/\x.aw<=1099511627776/\x.ops.length<=4096/\x.notes.length<=256)(h1:∀j (hj:j<x.ops.length),kO x.ops[j] x.aw=true)(h2:∀j (hj:j<x.notes.length),jg x.notes[j] x.aw=true):ep x=true:=by
 unfold ep;rw[zz9,zz9,zz6,zz6];refine⟨⟨zzl h,λo ho=>?_⟩,λn hn=>?_⟩
 ·obtain⟨j,hj,rfl⟩:=yyi ho;exact h1 j hj
 obtain⟨j,hj,rfl⟩:=yyi hn;exact h2 j hj
def zZ(H:bw)(x:iA)(t:cD)(hx:gZ H x t):SP 275 [agg (eJ x)] [.mem H] (cC (.bool (ep t)) [.mem H]):=by
 refine Enzz λW F w hS=>?_;apply cG6;delta NJ aI a_ cL cw ai cP;refine zw hS λxb w hS=>?_;unfold eJ at hS;rw[hx.aw]at hS
 have hF:∀{w:Ζ},ep t=false->SL W (.pt xb [Γ t.aw,x.ov,x.nv] 214::.mem H::F) w->∃post,cC (.bool (ep t)) [.mem H] (.bool false) post/\SL W (app post F) w:=λh hS=>⟨_,⟨by rw[h],rfl⟩,aW hS⟩;refine Gp ?_;refine za (λh=>hF (FP (by omega)) hS) (λh1=>?_);refine Gp ?_;refine za (λh=>hF (FP (by omega)) hS) (λh2=>?_);refine Gp ?_;refine zo hx.ops ?_;refine Gp ?_;refine za (λh=>hF (FP (by omega)) hS) (λh3=>?_);refine Gp ?_;refine zo hx.iN ?_;refine Gp ?_;refine za (λh=>hF (FP (by omega)) hS) (λh4=>?_);refine Gp ?_;refine zo hx.ops ?_;refine⟨λvs w=>∃i:Nat,vs=[Γ i]/\i<=t.ops.length/\(∀j (hj:j<t.ops.length),j<i->kO t.ops[j] t.aw=true)/\SL W (.pt xb [Γ t.aw,x.ov,x.nv] 214::.mem H::F) w,
  λvs _=>match vs with|[.int _ i]=>(t.ops.length-i).toNat|_=>0,⟨0,rfl,by omega,λj hj h=>by omega,hS⟩,?_⟩
 clear hS;rintro v3 w ⟨i,eP,hi,eE,hS⟩;cases eP;refine bY (λh=>?_) (λh=>?_)
 ·have cx:i<t.ops.length:=by omega
  refine zD hS Xh wJ hx.ops (x:=t.ops[i]) (by simp[cx]) cx ?_;refine Gm λb w hS=>?_;refine Cg (qI t.ops[i] t.aw) λw hS=>?_;refine zu (λh=>hF (bX4 cx h) (aW hS)) (λh=>?_);refine Gp ?_;refine⟨⟨i+1,rfl,by omega,λj hj iX=>?_,aW hS⟩,by dsimp only;omega⟩;by_cases e:j=i
  ·subst e;exact h
  exact eE j hj (by omega)
 have jL:i=t.ops.length:=by omega
 have dS:∀j (hj:j<t.ops.length),kO t.ops[j] t.aw=true:=λj hj=>eE j hj (by omega);clear eE;refine Gp ?_;refine zo hx.iN ?_;refine⟨λvs w=>∃i:Nat,vs=[Γ i]/\i<=t.notes.length/\(∀j (hj:j<t.notes.length),j<i->jg t.notes[j] t.aw=true)/\SL W (.pt xb [Γ t.aw,x.ov,x.nv] 214::.mem H::F) w,
  λvs _=>match vs with|[.int _ i]=>(t.notes.length-i).toNat|_=>0,⟨0,rfl,by omega,λj hj h=>by omega,aW hS⟩,?_⟩
 clear hS;rintro v5 w ⟨i,eP,hi,eE,hS⟩;cases eP;refine bY (λh=>?_) (λh=>?_)
 ·have cx:i<t.notes.length:=by omega
  refine zD hS Xh wI hx.iN (x:=t.notes[i]) (by simp[cx]) cx ?_;refine Gm λb w hS=>?_;refine Cg (Yp t.notes[i] t.aw) λw hS=>?_;refine zu (λh=>hF (bX5 cx h) (aW hS)) (λh=>?_);refine Gp ?_;refine⟨⟨i+1,rfl,by omega,λj hj iX=>?_,aW hS⟩,by dsimp only;omega⟩;by_cases e:j=i
  ·subst e;exact h
  exact eE j hj (by omega)
 rw[bX6 (by omega) dS λj hj=>eE j hj (by omega)];(exact cA hS)
def vF(x:dD):Prop:=(x.kind=1/\0<=x.n/\x.n<1152921504606846976/\x.s=emp)\/(x.kind=2/\x.n=0/\x.s.size<=4096)
def vF.right{x:dD}(h:vF x):oC x=true:=by
 unfold oC;rcases h with ⟨h1,_,_,h2⟩|⟨h1,h2,h3⟩
 ·rw[zzc h1,h2];rfl
 rw[zzb (by omega),zzc h1,zzl h2,zzl h3];rfl
def VI{n:Nat}(h:n<65536):iQ (eQ n 2)=n:=by
 have f:∀k,((n:Int).fdiv (2 ^ (8*k)))=((n / 2 ^ (8*k):Nat):Int):=λk=>by
  have:=Cj n (2 ^ (8*k)) (Nat.two_pow_pos _);rw[<- this];push_cast;rfl
 unfold eQ eQ eQ;simp only[f,iQ,xx4,ttj,Jx,show (2:Nat) ^ (8*1)=256 from rfl,show (2:Nat) ^ (8*0)=1 from rfl];omega
def RH:∀(l acc:List dD),(∀x∈l,vF x)->oM acc l.length ⟨(l.map fr).flatten,0⟩= .ok (acc++l)
 | [],acc,_=>by
  rw[yy4,xxz,yyp,aWm,zzb (by simp),zzx]
 | x::l,acc,h=>by
  have hx:=h x (.head _);have ih:=RH l (acc++[x]) λy hy=>h y (.tail _ hy);obtain⟨kind,n,s⟩:=x;rw[zzo,zz5,zzh];rcases hx with ⟨h1,h2,h3,h4⟩|⟨h1,h2,h3⟩
  ·have h1:kind=1:=h1;have h4:s=emp:=h4;subst h1 h4;obtain⟨m,rfl⟩:=wwb h2;have hm:m<1152921504606846976:=by have h3:(m:Int)<1152921504606846976:=h3;omega
   have e:fr ⟨1,(m:Int),emp⟩=gO 1::eQ (m:Int) 8:=by
    show gO 1::eQ ((m:Int) % 18446744073709551616) 8=_;rw[show (m:Int) % 18446744073709551616=(m:Int) by omega]
   have hl:=lJ (m:Int) 8;rw[e,zzu,aWk (by decide),zzb (by rw[zza,hl];omega),uuw hl,uux hl,VK hm,sig,zzc (by omega)];rw[zzk]at ih
   exact ih
  have h1:kind=2:=h1;have h2:n=0:=h2;have h3:s.size<=4096:=h3;subst h1 h2;have e:fr ⟨2,0,s⟩=gO 2::(eQ (s.size:Nat) 2++s.data.toList):=rfl;have hl:=lJ (s.size:Int) 2;have hs:s.data.toList.length=s.size:=rfl;rw[e,zzu,zzk,aWl (by decide),zzb (by rw[zza,hl];omega),uuw hl,uux hl,VI (by omega),zzb (by omega),
   zzb (by rw[zza,zza,hl];omega),uuw hs,uux hs]
  rw[zzk]at ih
  exact ih
def Hy{l:List dD}(hl:l.length<=32767)(h:∀x∈l,vF x):n_ l= .ok (eQ l.length 2++(l.map fr).flatten)/\jz (eQ l.length 2++(l.map fr).flatten)= .ok l:=by
 have h2:=lJ (l.length:Int) 2;have hb:=VI (n:=l.length) (by omega);refine⟨?_,?_⟩
 ·unfold n_;rw[zzb (by omega),zzc (zz6.2 λx hx=>(h x hx).right)]
 have ht:(eQ (l.length:Int) 2++(l.map fr).flatten).take 2=eQ l.length 2:=uuw h2;have hd:(eQ (l.length:Int) 2++(l.map fr).flatten).drop 2=(l.map fr).flatten:=uux h2;rw[aWi (by rw[zza,h2];omega) (by rw[ht,hb];omega),ht,hd,hb,RH l [] h,zzq]
def oy{x:cD}:ep x=true↔(1<=x.aw/\x.aw<=1099511627776/\x.ops.length<=4096/\x.notes.length<=256)/\(∀o∈x.ops,kO o x.aw=true)/\∀n∈x.notes,jg n x.aw=true:=by
 unfold ep;rw[zz9,zz9,zzy,zz6,zz6,and_assoc]
def Dl{o:gl}{aw:Int}:kO o aw=true↔1<=o.aw/\o.aw<=aw/\0<=o.table/\o.table<8/\1<=o.key/\o.key<=1099511627776/\o.val.size<=32/\(o.gone=true->o.val=emp):=by unfold kO;rw[zzy]
def Dk{n:il}{aw:Int}:jg n aw=true↔1<=n.id/\n.id<=64/\((n.kind=1/\0<=n.table/\n.table<8/\1<=n.weight/\n.weight<=8/\1<=n.at_/\n.at_<=aw/\n.dz=0/\n.done=false)\/(n.kind=2/\n.table=0/\n.weight=0/\n.at_=0/\0<=n.dz/\n.dz<=1099511627776)):=by unfold jg;rw[zzy]
def Ei(b:Bool):0<=gS b/\gS b<=1:=by cases b<;>decide
def lF{n:Int}(h:0<=n/\n<=1099511627776):vF (iF n):=.inl ⟨rfl,h.1,by show n<_;omega,rfl⟩
def bwz{x:cD}(h:ep x=true):∀f∈kV x,vF f:=by
 obtain⟨h0,ho,hn⟩:=oy.1 h;intro f hf;unfold kV at hf;simp only[zz1,zz8,xx8,zzv,xxj,vvw]at hf;rcases hf with ((rfl|rfl)|⟨l,⟨o,CX,rfl⟩,hf⟩)|rfl|⟨l,⟨n,rj,rfl⟩,hf⟩
 ·exact lF (by omega)
 ·exact lF (by omega)
 ·have h1:=Dl.1 (ho o CX);have hb:=Ei o.gone;unfold pG at hf;simp only[zz8,xxj,vvw]at hf;rcases hf with rfl|rfl|rfl|rfl|rfl
  ·exact lF (by omega)
  ·exact lF (by omega)
  ·exact lF (by omega)
  ·exact lF (by omega)
  exact .inr ⟨rfl,rfl,by show o.val.size<=4096;omega⟩
 ·exact lF (by omega)
 have h1:=Dk.1 (hn n rj);have hb:=Ei n.done;unfold pF at hf;simp only[zz8,xxj,vvw]at hf;rcases hf with rfl|rfl|rfl|rfl|rfl|rfl|rfl<;>exact lF (by omega)
def Ax{α β:Type}{f:α->List β}{k:Nat}(h:∀x,(f x).length=k):∀l:List α,((l.map f).flatten).length=l.length*k
 | []=>by simp
 | x::l=>by rw[zzo,zz5,zza,h,Ax h l,zzh,Nat.succ_mul,uu0]
def bw0(x:cD):(kV x).length=3+x.ops.length*5+x.notes.length*7:=by
 unfold kV;simp only[zza,zzh,yyp];rw[Ax (f:=pG) (k:=5) (λ_=>rfl),Ax (f:=pF) (k:=7) (λ_=>rfl)];omega
def HG{x:cD}(h:ep x=true):ud x= .ok (eQ (kV x).length 2++((kV x).map fr).flatten)/\jz (eQ (kV x).length 2++((kV x).map fr).flatten)= .ok (kV x):=by
 have hl:=bw0 x;obtain⟨h0,_,_⟩:=oy.1 h;obtain⟨e1,e2⟩:=Hy (l:=kV x) (by omega) (bwz h);exact⟨by unfold ud;rw[zzc h,e1],e2⟩
def pc{m n:Int}{l:List dD}(h:0<=n/\n<=m):dB m ⟨iF n::l,false⟩=(n,⟨l,false⟩):=by
 have e:fu ⟨iF n::l,false⟩=(n,⟨l,false⟩):=rfl;unfold dB;rw[e,zzb (by show ¬(n<0\/m<n);omega)]
def Hn{b:Bool}{l:List dD}:sV ⟨iF (gS b)::l,false⟩=(b,⟨l,false⟩):=by
 unfold sV;rw[pc (Ei b)];cases b<;>rfl
def bZ9{o:gl}{l:List dD}(h:0<=o.table/\o.table<=8):nO ⟨pG o++l,false⟩=(o,⟨l,false⟩):=by
 unfold nO pG;have e1:fu ⟨[iF o.aw,iF o.table,iF o.key,iF (gS o.gone),tF o.val]++l,false⟩=(o.aw,⟨[iF o.table,iF o.key,iF (gS o.gone),tF o.val]++l,false⟩):=rfl;have e2:dB 8 ⟨[iF o.table,iF o.key,iF (gS o.gone),tF o.val]++l,false⟩=(o.table,⟨[iF o.key,iF (gS o.gone),tF o.val]++l,false⟩):=pc h;have e3:fu ⟨[iF o.key,iF (gS o.gone),tF o.val]++l,false⟩=(o.key,⟨[iF (gS o.gone),tF o.val]++l,false⟩):=rfl;have e4:sV ⟨[iF (gS o.gone),tF o.val]++l,false⟩=(o.gone,⟨[tF o.val]++l,false⟩):=Hn;have e5:pd ⟨[tF o.val]++l,false⟩=(o.val,⟨l,false⟩):=rfl;simp only[e1,e2,e3,e4,e5]
def bZf{n:il}{l:List dD}(h1:0<=n.kind/\n.kind<=2)(h2:0<=n.id/\n.id<=64)(h3:0<=n.table/\n.table<=8)(h4:0<=n.weight/\n.weight<=8):o_ ⟨pF n++l,false⟩=(n,⟨l,false⟩):=by
 unfold o_ pF;have e1:dB 2 ⟨[iF n.kind,iF n.id,iF n.table,iF n.weight,iF n.at_,iF n.dz,iF (gS n.done)]++l,false⟩=(n.kind,⟨[iF n.id,iF n.table,iF n.weight,iF n.at_,iF n.dz,iF (gS n.done)]++l,false⟩):=pc h1;have e2:dB 64 ⟨[iF n.id,iF n.table,iF n.weight,iF n.at_,iF n.dz,iF (gS n.done)]++l,false⟩=(n.id,⟨[iF n.table,iF n.weight,iF n.at_,iF n.dz,iF (gS n.done)]++l,false⟩):=pc h2;have e3:dB 8 ⟨[iF n.table,iF n.weight,iF n.at_,iF n.dz,iF (gS n.done)]++l,false⟩=(n.table,⟨[iF n.weight,iF n.at_,iF n.dz,iF (gS n.done)]++l,false⟩):=pc h3;have e4:dB 8 ⟨[iF n.weight,iF n.at_,iF n.dz,iF (gS n.done)]++l,false⟩=(n.weight,⟨[iF n.at_,iF n.dz,iF (gS n.done)]++l,false⟩):=pc h4;have e5:fu ⟨[iF n.at_,iF n.dz,iF (gS n.done)]++l,false⟩=(n.at_,⟨[iF n.dz,iF (gS n.done)]++l,false⟩):=rfl;have e6:fu ⟨[iF n.dz,iF (gS n.done)]++l,false⟩=(n.dz,⟨[iF (gS n.done)]++l,false⟩):=rfl;have e7:sV ⟨[iF (gS n.done)]++l,false⟩=(n.done,⟨l,false⟩):=Hn;simp only[e1,e2,e3,e4,e5,e6,e7]
def FN{α:Type}{one:cY->α × cY}{f:α->List dD}:∀(xs:List α) (l:List dD),(∀x∈xs,∀l,one ⟨f x++l,false⟩=(x,⟨l,false⟩))->iR one xs.length ⟨(xs.map f).flatten++l,false⟩=(xs,⟨l,false⟩)
 | [],l,_=>rfl
 | x::xs,l,h=>by
  have ih:=FN xs l λy hy=>h y (.tail _ hy);have h1:=h x (.head _) ((xs.map f).flatten++l);rw[zzo,zz5,zzk,zzh,iR,zzb (by simp),h1,ih]
def bWn{x:cD}(h:ep x=true):nL ⟨kV x,false⟩=(x,⟨[],false⟩):=by
 obtain⟨h0,ho,hn⟩:=oy.1 h;have e0:kV x=iF x.aw::(iF x.ops.length::((x.ops.map pG).flatten++(iF x.notes.length::((x.notes.map pF).flatten++[])))):=by
  unfold kV;simp
 rw[e0];unfold nL;have e1:∀l,fu ⟨iF x.aw::l,false⟩=(x.aw,⟨l,false⟩):=λl=>rfl;have e2:∀l,dB 4096 ⟨iF x.ops.length::l,false⟩=((x.ops.length:Int),⟨l,false⟩):=λl=>pc (by omega);have e3:∀l,iR nO x.ops.length ⟨(x.ops.map pG).flatten++l,false⟩=(x.ops,⟨l,false⟩):=λl=>FN x.ops l λo CX l=>bZ9 (by have:=Dl.1 (ho o CX);omega);have e4:∀l,dB 256 ⟨iF x.notes.length::l,false⟩=((x.notes.length:Int),⟨l,false⟩):=λl=>pc (by omega);have e5:∀l,iR o_ x.notes.length ⟨(x.notes.map pF).flatten++l,false⟩=(x.notes,⟨l,false⟩):=λl=>FN x.notes l λn rj l=>by
  have:=Dk.1 (hn n rj);exact bZf (by omega) (by omega) (by omega) (by omega)
 simp only[e1,e2,e3,e4,e5,zzw]
def RN{x:cD}(h:ep x=true):∃b,ud x= .ok b/\nA b= .ok x:=by
 obtain⟨e1,e2⟩:=HG h;refine⟨_,e1,?_⟩;unfold nA;rw[e2];have e3:Ak (kV x)=some x:=by
  unfold Ak;rw[bWn h];simp only;rw[zzc ⟨trivial,trivial,h⟩]
 simp only[e3]
def u_(n:Int):(fr (iF n)).length=9:=by
 show (gO 1::eQ (vU n) 8).length=9;rw[zzh,lJ]
def uf{α β:Type}{f:α->List β}{k:Nat}:∀l:List α,(∀x∈l,(f x).length<=k)->((l.map f).flatten).length<=l.length*k
 | [],_=>by simp
 | x::l,h=>by
  have h1:=h x (.head _);have ih:=uf l λy hy=>h y (.tail _ hy);rw[zzo,zz5,zza,zzh,Nat.succ_mul];omega
def Cb(l:List (List dD)):(l.flatten.map fr).flatten=(l.map λx=>(x.map fr).flatten).flatten:=by
 induction l with
 | nil=>rfl
 | cons x l ih=>simp only[zz5,zzs,yys,zzo,ih]
def a_4{x:cD}(h:ep x=true){b:Φ}(hb:ud x= .ok b):b.length<=29+x.ops.length*71+x.notes.length*63:=by
 obtain⟨h0,ho,hn⟩:=oy.1 h;rw[(HG h).1]at hb
 cases hb;rw[zza,lJ];unfold kV;simp only[zzs,zzo,yy4,yys,zz5,xxz,zza,zzx,u_];rw[Cb,Cb,xxs,xxs];have k1:=uf (f:=(λx=>(x.map fr).flatten)∘pG) (k:=71) x.ops λo CX=>by
  have:=(Dl.1 (ho o CX)).2.2.2.2.2.2.1;have e:(fr (tF o.val)).length=3+o.val.size:=by
   show (gO 2::(eQ (o.val.size:Nat) 2++o.val.data.toList)).length=_;rw[zzh,zza,lJ];have:o.val.data.toList.length=o.val.size:=rfl;omega
  show (((pG o).map fr).flatten).length<=71;unfold pG;simp only[zzo,yy4,zz5,xxz,zza,yyp,u_,e];omega
 have k2:=uf (f:=(λx=>(x.map fr).flatten)∘pF) (k:=63) x.notes λn rj=>by
  show (((pF n).map fr).flatten).length<=63;unfold pF;simp only[zzo,yy4,zz5,xxz,zza,yyp,u_];omega
 omega

/- Part. -/
import Derived.Test.YtmkllimamejcgaaGreatJ5
import Derived.Laws.BytesString
namespace Go.Proofs.YtmkllimamejcgaaGreat
set_option linter.all false
open Go.RowKit
def vv1:=@Nat.pow_le_pow_right
def yy5:=@Tryz.underlying9
def wwt:=@Tryz.underlying5
def uu4:=@Bool.false_and
def wwd:=@List.map_singleton
def uu5:=@List.find?_eq_none
def uuw:=@Bool.eq_iff_iff
def uuf:=@decide_eq_true_iff
def yyl:=@List.getElem_of_mem
def wwg:=@Int.eq_ofNat_of_zero_le
def uux:=@List.take_left'
def uuy:=@List.drop_left'
section
variable {W w:Ζ} {l:Β} {P:Program}
def WW{t:Ι}{s:Η}{j:Nat}{k:IntKind}{K:Ε->Prop}(ht:P.underlying t=some .string)(hj:j<s.size)(h:K (.int .u8 (s[j]).toNat)):ff P (Instr.index t (.string s) (.int k (j:Int))) w K:=by
 refine⟨_,?_,h⟩;have:s[j]?=some s[j]:=by simp[hj]
 simp[Instr.index,asIntOf,zzz ht,Result.andThen,this]
def YN{src dst e:Ι}{b:Nat}{n:Int}{cap:Nat}{t:Ι}{K:Ε->Prop}(hS:SL W l w)(hm:Has (.pt b [.int .u8 n] t) l)(h1:P.underlying src=some (.slice e))(h2:P.underlying dst=some .string)(h3:P.underlying e=some (.int .u8))
  (h:K (.string ⟨#[UInt8.ofNat n.toNat]⟩)):ff P (convert src dst (.slice (some ⟨b,0,none⟩) 1 cap)) w K:=by
 refine⟨_,?_,h⟩;have hc:w.cell? ⟨b,0,none⟩=some (.int .u8 n):=hS.cell hm rfl;have hl:(loadCells ⟨b,0,none⟩ 1).run P w= .ok ([n].map (Value.int .u8)).toArray w:=by
  refine ww9 (P:=P) (w:=w) ⟨b,0,none⟩ [.int .u8 n] (λj v hj=>?_)
  match j,hj with
  | 0,hj=>
   simp at hj;subst hj;rw[yyd];exact hc
 have:=run_bytesToString (P:=P) w ⟨b,0,none⟩ 1 cap [n] hl;simp[convert,zzz h1,zzz h2,zzz h3,Result.andThen,this];rfl
def QR{a b:Η}{K:Ε->Prop}(hr:a.size+b.size<=1000000)(h:K (.string (a++b))):zc .add (.string a) (.string b) K:=by
 refine⟨_,?_,h⟩;have hm:IntKind.i64.max=9223372036854775807:=by decide
 simp only[jA];rw[zzb (by rw[hm];omega)]
end
set_option maxRecDepth 100000
def dY(bs:Φ):Η:=⟨bs.toArray⟩
def Rx{a b:Φ}:dY a=dY b↔a=b:=by
 constructor
 ·intro h;have:=yyt ByteArray.data h;exact List.toArray_inj this
 rintro rfl;rfl
def mV(a:Φ):(dY a).size=a.length:=by simp[dY,ByteArray.size]
def fold_push:∀(bs:Φ) (s:Η),(bs.map λb=>(b.toNat:Int)).foldl (λr n=>r.push (UInt8.ofNat n.toNat)) s=⟨s.data++bs.toArray⟩
 | [],s=>by cases s;simp
 | b::bs,s=>by
  simp only[zzo,xxo];rw[fold_push bs];cases s;simp[ByteArray.push]
section
variable {W w:Ζ} {l:Β} {P:Program}
def Zc{src dst e:Ι}{v:Ε}{bs:Φ}{K:Ε->Prop}(hv:∃a n c,v= .slice a n c)(gU:kJ w 1 v bs.length (bs.map cX))(h1:P.underlying src=some (.slice e))(h2:P.underlying dst=some .string)(h3:P.underlying e=some (.int .u8))
  (h:K (.string (dY bs))):ff P (convert src dst v) w K:=by
 refine⟨_,?_,h⟩;obtain⟨a,n,c,rfl⟩:=hv;rw[run_convert_bytes_string w src dst e a n c h1 h3 h2];cases a with
 | none=>
  obtain⟨e1,e2⟩:=gU;have:bs=[]:=by simpa using e2
  subst this;rfl
 | some p=>
  obtain⟨e1,e2,e3⟩:=gU;subst e1;have hl:(loadCells p bs.length).run P w= .ok ((bs.map λb=>(b.toNat:Int)).map (Value.int .u8)).toArray w:=by
   have h4:=ww9 (P:=P) (w:=w) p (bs.map cX) e3;rw[zzn]at h4
   rw[h4,xxj];rfl
  rw[run_bytesToString w p bs.length c _ hl,fold_push];simp[dY]
def dq.FZ{H:bw}{sz n:Nat}{v:Ε}{cells:Ξ}(h:dq H sz v n cells):∃a n c,v= .slice a n c:=by
 obtain⟨_,a,cap,rfl,_,_⟩:=h;exact⟨_,_,_,rfl⟩
end
def SL.mark{W w:Ζ}{l l':Β}{b n:Nat}{cs:Ξ}{t:Ι}(h:SL W l w)(u:gh (.pt b cs t) (.pt b cs t) l l')(hn:cs.length=n):SL W l' (w.freeze {block:=b,off:=n} 1):=by
 obtain⟨f,hf,e⟩:=h.oQ u.has;obtain⟨x,y⟩:=f;refine h.rS (b:=b) (o':=.cells cs.toArray t (if x == y then (n,n+1) else (min x n,max y (n+1)))) u ?_ ⟨_,?_,rfl⟩ ?_ ?_ rfl rfl rfl
 ·rintro k ⟨f,_,rfl⟩;exact⟨_,rfl⟩
 ·rcases hf with hf|hf
  ·simp only at hf;subst hf;rw[zzd (by simp)];right;simp only;omega
  simp only at hf;split
  ·right;simp only;omega
  right;simp only;omega
 ·show (w.heap.modify b _)[b]?=_;rw[vvc];simp[e]
 intro z hz;show (w.heap.modify b _)[z]?=_;rw[vvc,zzb (by omega)]
abbrev ny(rp:Nat)(r:jr)(v:Ε):Μ:=.pt rp [v,Γ r.e] 325
def VL(n:Nat)(r:jr):(gO n r).1.length<=n/\(gO n r).1.length<=r.b.length/\(gO n r).2.b.length<=r.b.length:=by
 unfold gO;split
 ·simp
 split
 ·simp
 simp only[zzg,zzq];omega
def aih(X:Μ)(rp n:Nat)(r:jr)(u:Ε)(post:Β):Prop:=∃v',dS X u (gO n r).1/\dS X v' (gO n r).2.b/\post=[ny rp (gO n r).2 v',X]
def YI(X:Μ)(rp n:Nat)(v:Ε)(r:jr)(hv:dS X v r.b):SP 281 [Δ rp,Γ n] [ny rp r v,X] (aih X rp n r):=by
 intro W F w hS;apply cIo;delta N' aI bU cV ai bI;(try simp only[app]at hS);have tG:=hv.one hS Xh;refine⟨λvs w=>vs=[]/\∃e,e=(if r.e=0/\r.b.length<n then 2 else r.e)/\SL W (.pt rp [v,Γ e] 325::X::F) w,?_,?_⟩
 ·refine bZ (λh=>?_) (λh=>?_)
  ·refine Gp ?_;refine yp hS Xh hv ?_;refine bZ (λh2=>?_) (λh2=>?_)
   ·refine Gn λw hS=>?_;exact⟨2,by rw[zzd ⟨h,by omega⟩],hS⟩
   refine⟨rfl,_,rfl,?_⟩;rw[zzb (by omega)];exact hS
  refine⟨rfl,_,rfl,?_⟩;rw[zzb (by omega)];exact hS
 rintro w ⟨_,e,he,hS⟩;refine Gp ?_;by_cases h1:r.e=0
 ·by_cases h2:r.b.length<n
  ·rw[zzd ⟨h1,h2⟩]at he
   subst he;refine za (λ_=>?_) (λh=>absurd (by decide) h);have e1:gO n r=([],{r with e:=2}):=by unfold gO;rw[zzb (by simp[h1]),zzd h2]
   refine⟨_,⟨v,?_,?_,rfl⟩,?_⟩
   ·rw[e1];exact dS.nil
   ·rw[e1];exact hv
   rw[e1];exact hS
  rw[zzb (by omega),h1]at he
  subst he;refine za (λh=>absurd rfl h) (λ_=>?_);have e1:gO n r=(r.b.take n,{r with b:=r.b.drop n}):=by unfold gO;rw[zzb (by simp[h1]),zzb h2]
  refine Gp ?_;refine WS hS Xh hv (by omega) ?_;intro u hu;refine Gp ?_;refine WT hS Xh hv (by omega) ?_;intro v' pZ;have cOw:=pZ.one hS Xh;refine Gn λw hS=>?_;refine⟨_,⟨v',?_,?_,rfl⟩,?_⟩
  ·rw[e1];exact hu
  ·rw[e1];exact pZ
  rw[e1];simp only[h1];exact hS
 rw[zzb (by omega)]at he
 subst he;refine za (λ_=>?_) (λh=>absurd h1 h);have e1:gO n r=([],r):=by unfold gO;rw[zzd h1]
 refine⟨_,⟨v,?_,?_,rfl⟩,?_⟩
 ·rw[e1];exact dS.nil
 ·rw[e1];exact hv
 rw[e1];exact hS
def cn4{a b:Nat}(ha:a<18446744073709551616)(hb:b<18446744073709551616):jA .or (.int .u64 (a:Int)) (.int .u64 (b:Int))=some (.int .u64 ((a ||| b:Nat):Int)):=by
 have h:(a ||| b)<18446744073709551616:=Nat.or_lt_two_pow (n:=64) ha hb;simp only[jA,wwj];congr 2;have e1:(BitVec.ofInt IntKind.u64.bits (a:Int))=BitVec.ofNat 64 a:=vv0 64 a;have e2:(BitVec.ofInt IntKind.u64.bits (b:Int))=BitVec.ofNat 64 b:=vv0 64 b;rw[e1,e2];have e3:(BitVec.ofNat 64 a ||| BitVec.ofNat 64 b).toNat=a ||| b:=by
  rw[BitVec.toNat_or,uue,uue,wwp (by omega),wwp (by omega)]
 show IntKind.u64.wrap (((BitVec.ofNat 64 a ||| BitVec.ofNat 64 b).toNat:Nat):Int)=_;rw[e3,wrap_u64 (by omega) (by omega)]
def cAv{x:Nat}{c:Κ}{K:Ε->Prop}(h:K (.int .u64 (((x*256+c.toNat) % 18446744073709551616:Nat):Int))):
  zc .shl (.int .u64 (x:Int)) (.int .u64 8) λv=>zK .u64 (cX c) λy=>zc .or v y K:=by
 have hc:=c.toNat_lt;refine⟨.int .u64 (((x*256) % 18446744073709551616:Nat):Int),?_,?_⟩
 ·show (if (8:Int)<0 then none else some (Value.int .u64 (IntKind.u64.wrap ((x:Int)*2 ^ (min (8:Int).toNat IntKind.u64.bits)))))=_;rw[zzb (by omega)];congr 2
 refine zW ?_;rw[wrap_u64 (by omega) (by omega)];refine⟨_,cn4 (by omega) (by omega),?_⟩;have e:(x*256) % 18446744073709551616=((x*256) % 18446744073709551616 / 256) <<< 8:=by rw[ttf];omega
 have e2:(x*256) % 18446744073709551616 ||| c.toNat=(x*256+c.toNat) % 18446744073709551616:=by
  rw[e,<- Nat.shiftLeft_add_eq_or_of_lt (show c.toNat<2 ^ 8 by omega),ttf];omega
 rw[e2];exact h
def Rs{b:Φ}{i:Nat}(h:i<b.length):iU (b.take (i+1))=(iU (b.take i)*256+b[i].toNat) % 18446744073709551616:=by
 rw[show b.take (i+1)=b.take i++[b[i]] by rw[ww4];simp[h]];exact aRd _ _ _ rfl
def aii(X:Μ)(rp n:Nat)(r:jr)(u:Ε)(post:Β):Prop:=∃v',u= .int .u64 ((fQ n r).1:Nat)/\dS X v' (fQ n r).2.b/\post=[ny rp (fQ n r).2 v',X]
def Zw(X:Μ)(rp n:Nat)(v:Ε)(r:jr)(hv:dS X v r.b)(hn:n<=1000):SP 280 [Δ rp,Γ n] [ny rp r v,X] (aii X rp n r):=by
 refine Enzz λW F w hS=>?_;apply cIn;delta N9 aI ai;refine Cc (YI X rp n v r hv) ?_;clear hS;rintro u post ⟨v',hu,pZ,rfl⟩ w hS;(try simp only[app]at hS);have hl:=VL n r;refine yp hS Xh hu ?_;refine⟨λvs w=>∃i:Nat,i<=(gO n r).1.length/\vs=[.int .u64 (iU ((gO n r).1.take i):Nat),Γ i]/\SL W (ny rp (gO n r).2 v'::X::F) w,λvs _=>match vs with
  | [_,.int _ i]=>(gO n r).1.length-i.toNat
  | _=>0,⟨0,by omega,rfl,hS⟩,?_⟩
 rintro v1 v2 w1 ⟨i,hi,hv,hS⟩;cases hv;refine bZ (λh=>?_) (λh=>?_)
 ·have hi:i<(gO n r).1.length:=by omega
  refine yX hS Xh hu hi ?_;refine cAv ?_;refine Gp ?_;refine⟨⟨i+1,by omega,?_,hS⟩,?_⟩
  ·rw[Rs hi]
  simp only[zzy];omega
 have:(gO n r).1.take i=(gO n r).1:=zz6 (by omega);rw[this];exact⟨_,⟨v',rfl,pZ,rfl⟩,hS⟩
def Rr:∀(n:Nat) (b:Φ),b.length=n->iU b<256 ^ n
 | 0,b,h=>by
  have:b=[]:=zzl h;subst this;decide
 | n+1,b,h=>by
  have h1:=Rr n (b.take n) (by rw[zzg];omega);have h2:=Rs (b:=b) (i:=n) (by omega);rw[zz6 (by omega)]at h2
  have hc:=(b[n]'(by omega)).toNat_lt;have h3:=Nat.mod_le (iU (b.take n)*256+(b[n]'(by omega)).toNat) 18446744073709551616;rw[h2,Nat.pow_succ];omega
def J3(n:Nat)(r:jr):(fQ n r).1<256 ^ n:=by
 have h1:=Rr _ _ (rfl:(gO n r).1.length=_);have h2:=(VL n r).1;exact Nat.lt_of_lt_of_le h1 (vv1 (by omega) h2)
def aif(X:Μ)(rp m:Nat)(r:jr)(u:Ε)(post:Β):Prop:=∃v',u= Γ ((gN m r).1:Nat)/\dS X v' (gN m r).2.b/\post=[ny rp (gN m r).2 v',X]
def YG(X:Μ)(rp m:Nat)(v:Ε)(r:jr)(hv:dS X v r.b)(hm:m<=100000):SP 208 [Δ rp,Γ m] [ny rp r v,X] (aif X rp m r):=by
 refine Enzz λW F w hS=>?_;apply cG1;delta Na aI cV ai;refine Cc (Zw X rp 2 v r hv (by omega)) ?_;clear hS;rintro u post ⟨v',rfl,pZ,rfl⟩ w hS;(try simp only[app]at hS);have de:=J3 2 r;refine yy (by omega) ?_;refine bZ (λh=>?_) (λh=>?_)
 ·refine Gn λw hS=>?_;have e:gN m r=(0,{(fQ 2 r).2 with e:=3}):=by unfold gN;rw[zzd (by omega)]
  refine⟨_,⟨v',?_,?_,rfl⟩,?_⟩
  ·rw[e];rfl
  ·rw[e];exact pZ
  rw[e];exact hS
 have e:gN m r=fQ 2 r:=by unfold gN;rw[zzb (by omega)]
 refine⟨_,⟨v',?_,?_,rfl⟩,?_⟩
 ·rw[e]
 ·rw[e];exact pZ
 rw[e];exact hS
def b_g(m:Nat)(r:jr):(gN m r).1<=m:=by
 unfold gN;split
 ·exact zz9 _
 rename_i h;exact wwr.1 h
def cBh{n:Nat}(h:n<18446744073709551616):IntKind.i64.wrap (n:Int)=sig n:=by
 rw[IntKind.wrap_i64,sig];split<;>omega
def Y_(X:Μ)(rp:Nat)(r:jr)(u:Ε)(post:Β):Prop:=∃v',u= .agg (gj (iJ r).1).toArray/\dS X v' (iJ r).2.b/\post=[ny rp (iJ r).2 v',X]
def Qu(X:Μ)(rp:Nat)(v:Ε)(r:jr)(hv:dS X v r.b):SP 209 [Δ rp] [ny rp r v,X] (Y_ X rp r):=by
 refine Enzz λW F w hS=>?_;apply cG2;delta Nb aI bU cV ai cQ;refine Gm λb w hS=>?_;refine Cc (Zw X rp 1 v r hv (by omega)) ?_;clear hS;rintro u post ⟨v1,rfl,rF,rfl⟩ w hS;(try simp only[app]at hS);have de:=J3 1 r;refine yy (by omega) ?_;refine bZ (λh=>?_) (λh=>?_)
 ·refine Cc (Zw X rp 8 v1 (fQ 1 r).2 rF (by omega)) ?_;clear hS;rintro u post ⟨v2,rfl,tK,rfl⟩ w hS;(try simp only[app]at hS);have cOn:=J3 8 (fQ 1 r).2;refine zW ?_;rw[cBh (by omega),h];have e:iJ r=(⟨1,sig (fQ 8 (fQ 1 r).2).1,⟨#[]⟩⟩,(fQ 8 (fQ 1 r).2).2):=by
   unfold iJ;rw[zzd (by omega)]
  refine Gn λw hS=>?_;refine⟨[ny rp (iJ r).2 v2,X],⟨v2,?_,?_,rfl⟩,?_⟩
  ·rw[e];rfl
  ·rw[e];exact tK
  rw[e];exact aW hS
 refine bZ (λh2=>?_) (λh2=>?_)
 ·refine Cc (YG X rp 4096 v1 (fQ 1 r).2 rF (by omega)) ?_;clear hS;rintro u post ⟨v2,rfl,tK,rfl⟩ w hS;(try simp only[app]at hS);refine Cc (YI X rp (gN 4096 (fQ 1 r).2).1 v2 (gN 4096 (fQ 1 r).2).2 tK) ?_;clear hS;rintro u post ⟨v3,hu,hv3,rfl⟩ w hS;(try simp only[app]at hS);obtain⟨au,cu,eu,_⟩:=hu.sl hS Xh;refine Zc ⟨_,_,_,eu⟩ (hu.src hS Xh) xxt yy5 wwt ?_;rw[h2];have e:iJ r=(⟨2,0,dY (gO (gN 4096 (fQ 1 r).2).1 (gN 4096 (fQ 1 r).2).2).1⟩,(gO (gN 4096 (fQ 1 r).2).1 (gN 4096 (fQ 1 r).2).2).2):=by
   unfold iJ dY;rw[zzb (by omega),zzd (by omega)]
  refine Gn λw hS=>?_;refine⟨[ny rp (iJ r).2 v3,X],⟨v3,?_,?_,rfl⟩,?_⟩
  ·rw[e];rfl
  ·rw[e];exact hv3
  rw[e];exact aW hS
 refine Gp ?_;have e:iJ r=(wY,if (fQ 1 r).2.e=0 then {(fQ 1 r).2 with e:=3} else (fQ 1 r).2):=by
  unfold iJ;rw[zzb (by omega),zzb (by omega)]
 refine za (λh3=>?_) (λh3=>?_)
 ·rw[zzd h3]at e
  refine Gn λw hS=>?_;refine⟨[ny rp (iJ r).2 v1,X],⟨v1,?_,?_,rfl⟩,?_⟩
  ·rw[e];rfl
  ·rw[e];exact rF
  rw[e];exact aW hS
 rw[zzb h3]at e
 refine Gn λw hS=>?_;refine⟨[ny rp (iJ r).2 v1,X],⟨v1,?_,?_,rfl⟩,?_⟩
 ·rw[e];rfl
 ·rw[e];exact rF
 rw[e];exact aW hS
def Cy(x:dE):(gj x).length=3:=rfl
def tc(r:jr):Int:=if r.e=0 then if 0<r.b.length then 3 else 0 else r.e
def HQ(b:Φ):jD b=if tc (ik (gN 32767 ⟨b,0⟩).1 (gN 32767 ⟨b,0⟩).2).2=0 then .ok (ik (gN 32767 ⟨b,0⟩).1 (gN 32767 ⟨b,0⟩).2).1 else .error (tc (ik (gN 32767 ⟨b,0⟩).1 (gN 32767 ⟨b,0⟩).2).2):=rfl
def wq(X:Μ)(b:Φ)(u:Ε)(post:Β):Prop:=match jD b with
 | .error e=>u= .tuple #[Θ,Γ e]/\post=[X]
 | .ok l=>∃v,u= .tuple #[v,Γ 0]/\post=[.ob (bR v 327 3 l.length (l.map gj).flatten),X]
def SH(x:dE):∀v∈gj x,v.oneCell'=true:=λv hv=>by
 simp only[gj,zz0,xxq,vvz]at hv;rcases hv with rfl|rfl|rfl<;>rfl
def yD(X:Μ)(v:Ε)(b:Φ)(hv:dS X v b):SP 153 [v] [X] (wq X b):=by
 refine Enzz λW F w hS=>?_;apply cFk;delta Mi aI bU cV aR bV ai cQ bI;obtain⟨a0,c0,rfl,_⟩:=hv.sl hS .hd;refine yW rfl ?_;refine⟨_,rfl,zC hS ?_⟩;clear hS;intro rp w hS;generalize hm:gN 32767 ⟨b,0⟩=m;refine⟨λvs w=>∃u v',vs=[u]/\dS X v' (ik m.1 m.2).2.b/\SL W (.ob (bR u 327 3 (ik m.1 m.2).1.length ((ik m.1 m.2).1.map gj).flatten)::ny rp (ik m.1 m.2).2 v'::X::F) w,?_,?_⟩
 ·have hS:SL W (ny rp ⟨b,0⟩ (.slice a0 b.length c0)::X::F) w:=hS;refine Cc (YG X rp 32767 _ ⟨b,0⟩ hv (by omega)) ?_;clear hS;rintro u post ⟨v1,rfl,rF,rfl⟩ w hS;(try simp only[app]at hS);rw[hm]at hS rF ⊢
  have hle:m.1<=32767:=by rw[<- hm];exact b_g _ _
  have hS:=bR.nil (t:=327) (sz:=3) hS;refine⟨λvs w=>∃(u v':Ε) (xs:List dE) (i:Nat) (r:jr),vs=[u,Γ i]/\xs.length+i=m.1/\ik m.1 m.2=(xs++(ik i r).1,(ik i r).2)/\dS X v' r.b/\SL W (.ob (bR u 327 3 xs.length (xs.map gj).flatten)::ny rp r v'::X::F) w,λvs _=>match vs with
   | [_,.int _ i]=>i.toNat
   | _=>0,⟨_,v1,[],m.1,m.2,rfl,by simp,by simp,rF,hS⟩,?_⟩
  rintro u1 u2 w1 ⟨u,v',xs,i,r,hv,hx,hf,hr,hS⟩;cases hv;refine bZ (λh=>?_) (λh=>?_)
  ·refine Gp ?_;obtain⟨j,rfl⟩:∃j,i=j+1:=⟨i-1,by omega⟩;refine za (λh2=>?_) (λh2=>?_)
   ·refine Cc (Qu X rp v' r hr) ?_;clear hS;rintro u5 post ⟨v2,rfl,tK,rfl⟩ w hS;(try simp only[app]at hS);refine zN (cells:=gj (iJ r).1) hS rfl ?_;clear hS;intro p w hS;refine zI (m:=1) (cs:=gj (iJ r).1) hS Xr (kf hS .hd rfl) rfl rfl (SH _) (by omega) (by omega) ?_;clear hS;intro u' w hS;refine Gp ?_;have e:((j+1:Nat):Int)-1=(j:Int):=by omega
    rw[e];refine⟨⟨u',v2,xs++[(iJ r).1],j,(iJ r).2,rfl,by simp;omega,?_,tK,?_⟩,?_⟩
    ·rw[hf];have:ik (j+1) r=((iJ r).1::(ik j (iJ r).2).1,(ik j (iJ r).2).2):=by
      show (if r.e=0 then _ else _)=_;rw[zzd h2]
     rw[this];simp
    ·simp only[zza,zzi,yym,zzt,zzo,yy7,yyw,zz8,xx6,zz1];exact aW hS
    simp only[zzy];omega
   have:ik (j+1) r=([],r):=by
    show (if r.e=0 then _ else _)=_;rw[zzb h2]
   rw[this,zz1]at hf
   refine⟨u1,v',rfl,?_,?_⟩
   ·rw[hf];exact hr
   rw[hf];exact hS
  obtain rfl:i=0:=by omega
  have:ik 0 r=([],r):=rfl;rw[this,zz1]at hf
  refine⟨u1,v',rfl,?_,?_⟩
  ·rw[hf];exact hr
  rw[hf];exact hS
 rintro u5 w ⟨u,v',hu,pZ,hS⟩;obtain rfl:u5=u:=(List.cons.inj hu).1;have hd:=HQ b;rw[hm]at hd
 generalize (ik m.1 m.2).2=r at *
 generalize (ik m.1 m.2).1=xs at *
 refine⟨λvs w=>vs=[]/\SL W (.ob (bR u5 327 3 xs.length (xs.map gj).flatten)::.pt rp [v',Γ (tc r)] 325::X::F) w,?_,?_⟩
 ·refine bZ (λh=>?_) (λh=>?_)
  ·refine Gp ?_;refine yp hS Xh pZ ?_;refine bZ (λh2=>?_) (λh2=>?_)
   ·refine Gn λw hS=>?_;have e:tc r=3:=by unfold tc;rw[zzd h,zzd (by omega)]
    rw[e];exact hS
   have e:tc r=r.e:=by unfold tc;rw[zzd h,zzb (by omega),h]
   rw[e];exact⟨rfl,hS⟩
  have e:tc r=r.e:=by unfold tc;rw[zzb h]
  rw[e];exact⟨rfl,hS⟩
 rintro w ⟨_,hS⟩;refine bZ (λh=>?_) (λh=>?_)
 ·refine Gn λw hS=>?_;rw[zzb h]at hd
  refine⟨[X],?_,aW hS⟩;unfold wq;rw[hd];exact⟨rfl,rfl⟩
 have h:tc r=0:=by omega
 rw[zzd h]at hd
 refine⟨[.ob (bR u5 327 3 xs.length (xs.map gj).flatten),X],?_,aW hS⟩;unfold wq;rw[hd];exact⟨u5,rfl,rfl⟩
def cAx{a:Int}{n:Nat}{k:IntKind}(hn:n<=64){K:Ε->Prop}(h:K (.int .u64 (a.fdiv (2 ^ n)))):zc .shr (.int .u64 a) (.int k (n:Int)) K:=by
 refine⟨.int .u64 (a.fdiv (2 ^ n)),?_,h⟩;have h1:¬((n:Int)<0):=by omega
 simp only[jA,h1,wwb];rw[show min (n:Int).toNat IntKind.u64.bits=n by simp only[IntKind.bits];omega]
def Zv(b:Φ)(v:Ε)(x:Int)(n:Nat)(hn:n<=8)(hb:b.length<=140737488355000):SP 283 [v,.int .u64 x,Γ n] [.ob (bR v 5 1 b.length (b.map cX))] (λu post=>post=[.ob (bR u 5 1 (b++eV x n).length ((b++eV x n).map cX))]):=by
 refine Enzz λW F w hS=>?_;apply cIq;delta Oa aI ai;refine Gp ?_;refine⟨λvs w=>∃(u:Ε) (c:Φ) (k:Nat),vs=[u,Γ ((k:Int)-1)]/\k<=n/\c++eV x k=b++eV x n/\SL W (.ob (bR u 5 1 c.length (c.map cX))::F) w,λvs _=>match vs with
  | [_,.int _ i]=>(i+1).toNat
  | _=>0,⟨v,b,n,rfl,zzj _,rfl,hS⟩,?_⟩
 rintro u1 u2 w1 ⟨u,c,k,hv,hk,hc,hS⟩;cases hv;refine bZ (λh=>?_) (λh=>?_)
 ·obtain⟨j,rfl⟩:∃j,k=j+1:=⟨k-1,by omega⟩;have e0:((j+1:Nat):Int)-1=(j:Int):=by omega
  rw[e0];refine cAp (by omega) ?_;have e1:(8:Int)*(j:Int)=((8*j:Nat):Int):=by omega
  rw[e1];refine cAx (by omega) ?_;refine zW ?_;rw[wrap_u8];refine zN (cells:=[cX (gW (x.fdiv (2 ^ (8*j))))]) hS rfl ?_;clear hS;intro p w hS;have mZ:c.length+(j+1)=b.length+n:=by
   have:=yyt List.length hc;simpa [lQ] using this
  refine zI (m:=1) (cs:=[cX (gW (x.fdiv (2 ^ (8*j))))]) hS Xr (kf hS .hd rfl) rfl rfl (by intro v hv;simp only[zz7]at hv;subst hv;rfl) (by omega) (by omega) ?_;clear hS;intro u' w hS;refine Gp ?_;refine⟨⟨u',c++[gW (x.fdiv (2 ^ (8*j)))],j,rfl,by omega,?_,?_⟩,?_⟩
  ·rw[<- hc];simp[eV]
  ·simp only[zza,zzi,yym,zzt,zzo,yy7];exact aW hS
  show ((j:Int)-1+1).toNat<((j:Int)+1).toNat;omega
 obtain rfl:k=0:=by omega
 have e:c=b++eV x n:=by simpa [eV] using hc
 rw[e]at hS
 exact⟨_,rfl,hS⟩
def qM(x:dE):SP 284 [.agg (gj x).toArray] [] (cE (.bool (oJ x)) []):=by
 refine Enzz λW F w hS=>?_;apply cIr;delta Ob aI a_ bY ai;refine⟨gj x,rfl,?_⟩;unfold gj;refine Gm λb w hS=>?_;unfold oJ;refine za (λh=>?_) (λh=>?_)
 ·rw[zzd h];refine Gp ?_;have e:decide (x.s=({data:=#[]}:Η))=decide (x.s=⟨#[]⟩):=rfl;exact cC hS
 rw[zzb h];refine bZ (λh2=>?_) (λh2=>?_)
 ·rw[zzd h2];refine bZ (λh3=>?_) (λh3=>?_)
  ·refine Gp ?_;rw[zzm h3,vv9];have e:decide ((x.s.size:Int)<=4096)=decide (x.s.size<=4096):=by congr 1;exact propext ⟨λ_=>by omega,λ_=>by omega⟩
   rw[e];exact cC hS
  rw[zz2 h3,uu4];exact cC hS
 rw[zzb h2];exact cC hS
def qP{P:Program}{t:Ι}{fs:Array Field}{f:Field}{i:Nat}{vs:Ξ}{v:Ε}{w:Ζ}{K:Ε->Prop}(ht:P.underlying t=some (.struct fs))(hf:fs[i]?=some f)(ha:∀w,(isAgg f.type).run P w= .ok false w)(hv:vs[f.offset]?=some v)(h:K v):
  ff P (Instr.field t (.agg vs.toArray) i) w K:=by
 refine⟨_,?_,h⟩;simp[Instr.field,asAgg,zzz ht,Result.andThen,hf,part,ha,hv]
def Sx(x:dE):∀v∈gj x,v.oneCell'=true:=SH x
def H_(x:dE):(gj x).length=3:=rfl
def yI(b:Nat)(ns:Ω)(t:Ι)(hn:ns.length<=1000):
  SP 215 [.slice (some ⟨b,0,none⟩) ns.length ns.length] [.pt b (ns.map (Value.int .i64)) t] (λu post=>post=[.ob (bR u 327 3 ns.length ((ns.map iF).map gj).flatten)]):=by
 refine Enzz λW F w hS=>?_;apply cG8;delta Ni aI ai cQ bI;have hS:=bR.nil (t:=327) (sz:=3) hS;refine Gp ?_;refine⟨λvs w=>∃(i:Nat) (u:Ε),vs=[u,Γ i]/\i<=ns.length/\SL W (.ob (bR u 327 3 i (((ns.take i).map iF).map gj).flatten)::.pt b (ns.map (Value.int .i64)) t::F) w,
  λvs _=>match vs with|[_,.int _ i]=>(ns.length-i).toNat|_=>0,⟨0,_,rfl,by omega,hS⟩,?_⟩
 clear hS;rintro u v8 w ⟨i,_,eU,hi,hS⟩;cases eU;refine bZ (λh=>?_) (λh=>?_)
 ·have cz:i<ns.length:=by omega
  refine zF cz (zV hS Xh (v:=Γ ns[i]) (by simp[cz]) ?_);refine Gm λb w hS=>?_;refine yx (n:=i) (xs:=(ns.take i).map iF) (y:=iF ns[i]) (enc:=gj) hS Xr Xh H_ Sx rfl (by omega) (by omega) λv2 w hS=>?_;refine Gp ?_;refine⟨⟨i+1,_,rfl,by omega,?_⟩,by dsimp only;omega⟩;rw[zze cz,zzt (f:=iF),wwd];exact aW hS
 have:i=ns.length:=by omega
 subst this;rw[zz4]at hS
 exact⟨_,rfl,aW hS⟩
def yN(s:Η):SP 217 [.string s] [] (cE (agg (gj (tF s))) []):=by
 refine Enzz λW F w hS=>?_;apply cHa;delta Nk ai cQ;refine Gm λb w hS=>?_;(exact cC hS)
def Zx(b:Bool):SP 216 [.bool b] [] (cE (Γ (g_ b)) []):=by
 refine Enzz λW F w hS=>?_;apply cG9;delta Nj ai;cases b<;>(repeat (first|refine Gp ?_|refine Gw λw hS=>?_|refine Gb λb w hS=>?_))<;>(exact cC hS)
def fm(rp:Nat)(r:cY):zB:=jK λv:Ε=>zG True [.pt rp [v,.bool r.bad] 330,.ob (dt v 327 3 r.l.length (r.l.map gj).flatten)]
def fm.iff{W w:Ζ}{rp:Nat}{r:cY}{l:Β}:SL W (.ob (fm rp r)::l) w↔∃v,SL W (.pt rp [v,.bool r.bad] 330::.ob (dt v 327 3 r.l.length (r.l.map gj).flatten)::l) w:=by
 unfold fm;simp only[SL.ex,SL.fact,zzv,zzr,uut]
def Za(v:Ε)(l:List dE):SP 154 [v] [.ob (bR v 327 3 l.length (l.map gj).flatten)] (λu post=>∃rp:Nat,u= Δ rp/\post=[.ob (fm rp ⟨l,false⟩)]):=by
 refine Enzz λW F w hS=>?_;apply cFl;delta Mj bI;have h1:=bR.one hS;obtain⟨a,c,rfl,_⟩:=bR.at hS .hd;refine Gp ?_;refine zw hS λb w hS=>?_;refine⟨_,⟨b,rfl,rfl⟩,(fm.iff (r:=⟨l,false⟩)).2 ⟨.slice a l.length c,?_⟩⟩;exact (dt.of (hS.perm (.swap _ _ _))).perm (.swap _ _ _)
def Z4(rp:Nat)(r:cY)(k:Int):SP 210 [Δ rp,Γ k] [.ob (fm rp r)] (cE (agg (gj (p5 k r).1)) [.ob (fm rp (p5 k r).2)]):=by
 obtain⟨l,bad⟩:=r;refine Enzz λW F w hS=>?_;apply cG3;delta Nc aI bU a_ cV El ai cQ;obtain⟨v,hS⟩:=fm.iff.1 hS;simp only at hS;refine Gm λb w hS=>?_;cases bad with
 | true=>
  refine Gn λw hS=>?_;have e:p5 k ⟨l,true⟩=(wY,⟨l,true⟩):=by unfold p5;rfl
  rw[e];exact⟨_,⟨rfl,rfl⟩,fm.iff.2 ⟨v,aW hS⟩⟩
 | false=>
  refine Gp ?_;refine zJ hS (v:=v) Xh ?_;refine Gp ?_;cases l with
  | nil=>
   refine za (λh=>?_) (λh=>absurd rfl h);refine Gn λw hS=>?_;rw[show p5 k ⟨[],false⟩=(wY,⟨[],true⟩) from rfl];exact⟨_,⟨rfl,rfl⟩,fm.iff.2 ⟨v,aW hS⟩⟩
  | cons f l=>
   refine za (λh=>by rw[zzi]at h;omega) (λh=>?_);refine Gp ?_;refine y1 (j:=0) (k:=.i64) hS (v:=v) Xh (by simp) λab ao hb=>yK ⟨_,Γ f.kind,rfl,hb 0 _ (by decide) rfl,?_⟩;refine bZ (λhk=>?_) (λhk=>?_)
   ·refine Gn λw hS=>?_;have e:p5 k ⟨f::l,false⟩=(wY,⟨f::l,true⟩):=by unfold p5;exact zzb hk
    rw[e];exact⟨_,⟨rfl,rfl⟩,fm.iff.2 ⟨v,aW hS⟩⟩
   refine Gp ?_;refine qQ (j:=0) (k:=.i64) hS (v:=v) (enc:=gj) (xs:=f::l) Xh H_ rfl (by simp) ?_;refine Gm λb w hS=>?_;refine Yd (k:=1) (v:=v) (Has.front hS Xr) (by simp) λu hS=>?_;have hS:SL W (.ob (dt u 327 3 l.length (l.map gj).flatten)::_) _:=hS;have h1:=dt.one hS .hd;refine Gn λw hS=>?_;have e:p5 k ⟨f::l,false⟩=(f,⟨l,false⟩):=by unfold p5;exact zzd (Classical.not_not.1 hk)
   rw[e];exact⟨_,⟨rfl,rfl⟩,fm.iff.2 ⟨u,aW hS⟩⟩
def zP(rp:Nat)(r:cY):SP 155 [Δ rp] [.ob (fm rp r)] (cE (Γ (fz r).1) [.ob (fm rp (fz r).2)]):=by
 refine Enzz λW F w hS=>?_;apply cFm;delta Mk ai;refine Cg (Z4 rp r 1) λw hS=>?_;exact qP Tryz.underlying327 rfl (λw=>by kernel_rfl) rfl ⟨_,⟨rfl,rfl⟩,hS⟩
def yF(rp:Nat)(r:cY):SP 158 [Δ rp] [.ob (fm rp r)] (cE (.string (pq r).1) [.ob (fm rp (pq r).2)]):=by
 refine Enzz λW F w hS=>?_;apply cFp;delta Mn ai;refine Cg (Z4 rp r 2) λw hS=>?_;exact qP Tryz.underlying327 rfl (λw=>by kernel_rfl) rfl ⟨_,⟨rfl,rfl⟩,hS⟩
def fm.bad{W w:Ζ}{rp:Nat}{r:cY}{l:Β}(v:Ε)(h:SL W (.pt rp [v,.bool true] 330::.ob (dt v 327 3 r.l.length (r.l.map gj).flatten)::l) w):SL W (.ob (fm rp {r with bad:=true})::l) w:=fm.iff.2 ⟨v,h⟩
def zy(rp:Nat)(r:cY)(m:Int):SP 156 [Δ rp,Γ m] [.ob (fm rp r)] (cE (Γ (dC m r).1) [.ob (fm rp (dC m r).2)]):=by
 refine Enzz λW F w hS=>?_;apply cFn;delta Ml aI cV ai;refine Cg (zP rp r) λw hS=>?_;have hB:((fz r).1<0\/m<(fz r).1)->dC m r=(0,{(fz r).2 with bad:=true}):=λh=>zzd h;have hG:¬((fz r).1<0\/m<(fz r).1)->dC m r=fz r:=λh=>zzb h;refine za (λh=>?_) (λh=>?_)
 ·rw[hB (.inl h)];obtain⟨v,hS⟩:=fm.iff.1 hS;refine Gn λw hS=>?_;exact⟨_,⟨rfl,rfl⟩,fm.bad v hS⟩
 refine bZ (λh2=>?_) (λh2=>?_)
 ·rw[hB (.inr h2)];obtain⟨v,hS⟩:=fm.iff.1 hS;refine Gn λw hS=>?_;exact⟨_,⟨rfl,rfl⟩,fm.bad v hS⟩
 rw[hG (by omega)];(exact cC hS)
def y9(rp:Nat)(r:cY):SP 211 [Δ rp] [.ob (fm rp r)] (cE (.bool (s8 r).1) [.ob (fm rp (s8 r).2)]):=by
 refine Enzz λW F w hS=>?_;apply cG4;delta Nd ai;refine Cg (zy rp r 1) λw hS=>?_;exact⟨_,⟨rfl,rfl⟩,hS⟩
def y7(rp:Nat)(r:cY):SP 272 [Δ rp] [.ob (fm rp r)] (cE (.bool (!r.bad)) [.ob (fm rp r)]):=by
 refine Enzz λW F w hS=>?_;apply cIe;delta N0 bU;obtain⟨v,hS⟩:=fm.iff.1 hS;refine Gp ?_;exact⟨_,⟨rfl,rfl⟩,fm.iff.2 ⟨v,hS⟩⟩
def y6(rp:Nat)(r:cY):SP 159 [Δ rp] [.ob (fm rp r)] (cE (.bool (decide (r.bad=false/\r.l=[]))) [.ob (fm rp r)]):=by
 refine Enzz λW F w hS=>?_;apply cFq;delta Mo bU cL bY ai;obtain⟨v,hS⟩:=fm.iff.1 hS;refine Gp ?_;obtain⟨l,bad⟩:=r;cases bad with
 | true=>
  refine zp ?_;rw[zz2 (by simp)];exact⟨_,⟨rfl,rfl⟩,fm.iff.2 ⟨v,hS⟩⟩
 | false=>
  refine zq ?_;refine Gp ?_;refine zJ hS (v:=v) Xh ?_;refine Gp ?_;have e:decide ((l.length:Int)=0)=decide ((cY.mk l false).bad=false/\(cY.mk l false).l=[]):=by
   rw[yyi];simp
  rw[e];exact⟨_,⟨rfl,rfl⟩,fm.iff.2 ⟨v,hS⟩⟩
structure ep where
 table:Int
 key:Int
 gone:Bool
 val:Η
deriving DecidableEq
structure cF where
 aw:Int
 kind:Int
 changes:List ep
 signals:Ψ
 mark:Int
def fR(c:ep):Ξ:=[Γ c.table,Γ c.key,.bool c.gone,.string c.val]
def te(c:ep):(fR c).length=4:=rfl
def Sw(c:ep):∀v∈fR c,v.oneCell'=true:=by simp[fR,Value.oneCell']
structure mU where
 aw:Int
 kind:Int
 cv:Ε
 sv:Ε
 mark:Int
def fr(x:mU):Ξ:=[Γ x.aw,Γ x.kind,x.cv,x.sv,Γ x.mark]
structure lF(H:bw)(x:mU)(t:cF):Prop where
 aw:x.aw=t.aw
 kind:x.kind=t.kind
 mark:x.mark=t.mark
 cv:dq H 4 x.cv t.changes.length (t.changes.map fR).flatten
 sv:dq H 1 x.sv t.signals.length (t.signals.map Value.string)
def gg(C:List Row):Prop:=C.Pairwise (λa b=>a.key<b.key)
def eZ(C:List Row)(k:Int):Option Η:=(C.find? (λc=>decide (c.key=k))).map (·.val)
def gV:List Row->Row->List Row
 | [],c=>[c]
 | x::C,c=>if x.key<c.key then x::gV C c else if x.key=c.key then c::C else c::x::C
def jW:List Row->Int->List Row
 | [],_=>[]
 | x::C,k=>if x.key=k then C else x::jW C k
def lz(C:List Row)(c:ep):List Row:=if c.gone then jW C c.key else gV C ⟨c.key,c.val⟩
def vi(t:Int)(C:List Row)(c:ep):List Row:=if c.table=t then (if c.gone then jW C c.key else gV C ⟨c.key,c.val⟩) else C
def w_(t:Int)(l:List cF):List Row:=(l.flatMap (·.changes)).foldl (vi t) []
def Vy{C:List Row}{c x:Row}(h:x∈gV C c):x=c\/x∈C:=by
 induction C with
 | nil=>simpa [gV] using h
 | cons y C ih=>
  unfold gV at h;split at h
  ·rcases zz0.1 h with rfl|h
   ·exact .inr (.head _)
   rcases ih h with h|h
   ·exact .inl h
   exact .inr (.tail _ h)
  split at h
  ·rcases zz0.1 h with rfl|h
   ·exact .inl rfl
   exact .inr (.tail _ h)
  rcases zz0.1 h with rfl|h
  ·exact .inl rfl
  exact .inr h
def KA{C:List Row}(h:gg C)(c:Row):gg (gV C c):=by
 unfold gg at *
 induction C with
 | nil=>simp[gV]
 | cons y C ih=>
  rw[yyg]at h
  unfold gV;split
  ·rename_i de;refine yyg.2 ⟨λz hz=>?_,ih h.2⟩;rcases Vy hz with rfl|hz
   ·exact de
   exact h.1 z hz
  split
  ·rename_i he;exact yyg.2 ⟨λz hz=>by have:=h.1 z hz;omega,h.2⟩
  rename_i h1 h2;refine yyg.2 ⟨λz hz=>?_,yyg.2 h⟩;rcases zz0.1 hz with rfl|hz
  ·omega
  have:=h.1 z hz;omega
def Vw{C:List Row}{k:Int}{x:Row}(h:x∈jW C k):x∈C:=by
 induction C with
 | nil=>exact h
 | cons y C ih=>
  unfold jW at h;split at h
  ·exact .tail _ h
  rcases zz0.1 h with rfl|h
  ·exact .head _
  exact .tail _ (ih h)
def Xe{C:List Row}(h:gg C)(k:Int):gg (jW C k):=by
 unfold gg at *
 induction C with
 | nil=>exact h
 | cons y C ih=>
  rw[yyg]at h
  unfold jW;split
  ·exact h.2
  exact yyg.2 ⟨λz hz=>h.1 z (Vw hz),ih h.2⟩
def S3(C:List Row)(c:Row)(k:Int):eZ (gV C c) k=if c.key=k then some c.val else eZ C k:=by
 unfold eZ;induction C with
 | nil=>by_cases h:c.key=k<;>simp[gV,h]
 | cons y C ih=>
  unfold gV;split
  ·by_cases h1:y.key=k
   ·have:c.key≠k:=by omega
    simp[h1,this]
   simp only[xxv,h1,vvf];exact ih
  split
  ·rename_i he;by_cases h1:c.key=k
   ·simp[h1]
   have:y.key≠k:=by omega
   simp[h1,this]
  by_cases h1:c.key=k<;>simp[h1]
def S2{C:List Row}(hs:gg C)(k0 k:Int):eZ (jW C k0) k=if k0=k then none else eZ C k:=by
 unfold eZ gg at *
 induction C with
 | nil=>simp[jW]
 | cons y C ih=>
  rw[yyg]at hs
  unfold jW;split
  ·rename_i he;by_cases h1:k0=k
   ·subst h1;have:C.find? (λc=>decide (c.key=k0))=none:=by
     rw[uu5];intro z hz;have:=hs.1 z hz;simp;omega
    simp[this]
   have:¬y.key=k:=by omega
   simp[h1,this]
  rename_i he;have JB:=ih hs.2;by_cases h1:y.key=k
  ·have:¬k0=k:=by omega
   simp[h1,this]
  simp only[xxv,h1,vvf];exact JB
def JM(C:List Row)(c:Row):(gV C c).length<=C.length+1:=by
 induction C with
 | nil=>simp[gV]
 | cons y C ih=>
  unfold gV;split
  ·simp;omega
  split<;>simp
def Vd(C:List Row)(k:Int):(jW C k).length<=C.length:=by
 induction C with
 | nil=>exact zzj _
 | cons y C ih=>unfold jW;split<;>simp;omega
def bYx(t:Int)(C:List Row)(c:ep):(vi t C c).length<=C.length+1:=by
 unfold vi;have:=JM C ⟨c.key,c.val⟩;have:=Vd C c.key;split
 ·split<;>omega
 omega
def bYy{l:List ep}:∀(C:List Row) (t:Int),(l.foldl (vi t) C).length<=C.length+l.length:=by
 induction l with
 | nil=>intro C t;simp
 | cons c l ih=>intro C t;have:=ih (vi t C c) t;have:=bYx t C c;simp only[xxo,zzi];omega
def bUz(k:Int)(cJ:Nat):Nat:=(min (max k 0) (cJ:Int)).toNat
set_option maxRecDepth 100000
open Go.RowKit
def qK(o:gr)(aw:Int):SP 326 [agg (jF o),Γ aw] [] (cE (.bool (kU o aw)) []):=by
 refine Enzz λW F w hS=>?_;apply cJn;delta OK aI a_ cL bY ai;refine zw hS λb w hS=>?_;unfold jF at hS;have hF:∀{w:Ζ},¬(1<=o.aw/\o.aw<=aw/\0<=o.table/\o.table<8/\1<=o.key/\o.key<=1099511627776/\o.val.size<=32)->SL W (.pt b [Γ o.aw,Γ o.table,Γ o.key,.bool o.gone,.string o.val] 390::F) w ->
   ∃post,cE (.bool (kU o aw)) [] (.bool false) post/\SL W (app post F) w:=λh hS=>⟨_,⟨by rw[show kU o aw=false by unfold kU;rw[xxc];exact λk=>h ⟨k.1,k.2.1,k.2.2.1,k.2.2.2.1,k.2.2.2.2.1,k.2.2.2.2.2.1,k.2.2.2.2.2.2.1⟩],rfl⟩,aW hS⟩
 (repeat (first|refine Gp ?_|refine Gw λw hS=>?_|refine za (λ_=>hF (by omega) hS) (λ_=>?_)|refine za (λ_=>?_) (λ_=>hF (by omega) hS)))
 have e:kU o aw=decide (o.gone=true->o.val=emp):=by
  unfold kU;rw[yyi];exact⟨λh=>h.2.2.2.2.2.2.2,λh=>⟨by omega,by omega,by omega,by omega,by omega,by omega,by omega,h⟩⟩
 rw[e];refine zt (λh=>?_) (λh=>?_)
 ·rw[h,zzm (by simp)];(exact cC hS)
 refine Gp ?_;rw[h];have e2:decide (true=true->o.val=emp)=decide (o.val={data:=#[]}):=by rw[yyi];exact⟨λh=>h rfl,λh _=>h⟩
 rw[e2];(exact cC hS)
def b_x(n:ix)(aw:Int){W w:Ζ}{F:Β}(hS:SL W F w):G' (agg (kO n)) (Γ aw) w λv w'=>∃post,cE (.bool (jm n aw)) [] v post/\SL W (app post F) w':=by
 delta G' aI a_ bY ai;refine zw hS λb w hS=>?_;unfold kO at hS;have hF:∀{w:Ζ},¬(1<=n.id/\n.id<=64/\((n.kind=1/\0<=n.table/\n.table<8/\1<=n.weight/\n.weight<=8/\1<=n.at_/\n.at_<=aw/\n.dA=0)\/(n.kind=2/\n.table=0/\n.weight=0/\n.at_=0/\0<=n.dA))) ->
   SL W (.pt b [Γ n.kind,Γ n.id,Γ n.table,Γ n.weight,Γ n.at_,Γ n.dA,.bool n.done] 393::F) w->∃post,cE (.bool (jm n aw)) [] (.bool false) post/\SL W (app post F) w:=λh hS=>⟨_,⟨by
    rw[show jm n aw=false by
     unfold jm;rw[xxc];rintro ⟨h1,h2,h3⟩;rcases h3 with h3|h3
     ·exact h ⟨h1,h2,.inl ⟨h3.1,h3.2.1,h3.2.2.1,h3.2.2.2.1,h3.2.2.2.2.1,h3.2.2.2.2.2.1,h3.2.2.2.2.2.2.1,h3.2.2.2.2.2.2.2.1⟩⟩
     exact h ⟨h1,h2,.inr ⟨h3.1,h3.2.1,h3.2.2.1,h3.2.2.2.1,h3.2.2.2.2.1⟩⟩],rfl⟩,aW hS⟩
 refine Gp ?_;refine za (λ_=>hF (by omega) hS) (λ_=>?_);refine Gp ?_;refine za (λ_=>hF (by omega) hS) (λ_=>?_);refine bZ (λ_=>?_) (λ_=>?_)
 ·(repeat (first|refine Gp ?_|refine Gw λw hS=>?_|refine za (λ_=>hF (by omega) hS) (λ_=>?_)|refine za (λ_=>?_) (λ_=>hF (by omega) hS)))
  have e:jm n aw = !n.done:=by
   unfold jm;rw[uuw,uuf];cases n.done<;>simp<;>omega
  rw[e];(exact cC hS)
 (repeat (first|refine Gp ?_|refine Gw λw hS=>?_|refine za (λ_=>hF (by omega) hS) (λ_=>?_)|refine za (λ_=>?_) (λ_=>hF (by omega) hS)))
 have e:jm n aw=decide (n.dA<=1099511627776):=by
  unfold jm;rw[yyi];omega
 rw[e];(exact cC hS)
def Yq(n:ix)(aw:Int):SP 327 [agg (kO n),Γ aw] [] (cE (.bool (jm n aw)) []):=λW F w hS=>cJo _ _ _ _ (b_x n aw hS)
def mK(c:ep)(k:Int):Bool:=decide (0<=c.table/\c.table<k/\1<=c.key/\c.key<=1099511627776/\c.val.size<=32/\(c.gone=true->c.val=emp))
def F8{x:cD}(h:¬(1<=x.aw/\x.aw<=1099511627776/\x.ops.length<=4096/\x.notes.length<=256)):eC x=false:=by
 unfold eC;rw[zz2 h];rfl
def bZm{x:cD}{i:Nat}(hi:i<x.ops.length)(h:kU x.ops[i] x.aw=false):eC x=false:=by
 cases hm:eC x with
 | false=>rfl
 | true=>
  unfold eC at hm;rw[zzu,zzu,zz3]at hm
  rw[hm.1.2 _ (zzh hi)]at h;cases h
def bZn{x:cD}{i:Nat}(hi:i<x.notes.length)(h:jm x.notes[i] x.aw=false):eC x=false:=by
 cases hm:eC x with
 | false=>rfl
 | true=>
  unfold eC at hm;rw[zzu,zzu,zz3,zz3]at hm
  rw[hm.2 _ (zzh hi)]at h;cases h
def bZo{x:cD}(h:1<=x.aw/\x.aw<=1099511627776/\x.ops.length<=4096/\x.notes.length<=256)(h1:∀j (hj:j<x.ops.length),kU x.ops[j] x.aw=true)(h2:∀j (hj:j<x.notes.length),jm x.notes[j] x.aw=true):eC x=true:=by
 unfold eC;rw[zzu,zzu,zz3,zz3];refine⟨⟨zzm h,λo ho=>?_⟩,λn hn=>?_⟩
 ·obtain⟨j,hj,rfl⟩:=yyl ho;exact h1 j hj
 obtain⟨j,hj,rfl⟩:=yyl hn;exact h2 j hj
def zZ(H:bw)(x:iD)(t:cD)(hx:ie H x t):SP 275 [agg (eP x)] [.mem H] (cE (.bool (eC t)) [.mem H]):=by
 refine Enzz λW F w hS=>?_;apply cIh;delta N3 aI a_ cL bY ai cQ;refine zw hS λxb w hS=>?_;unfold eP at hS;rw[hx.aw]at hS
 have hF:∀{w:Ζ},eC t=false->SL W (.pt xb [Γ t.aw,x.ov,x.nv] 214::.mem H::F) w->∃post,cE (.bool (eC t)) [.mem H] (.bool false) post/\SL W (app post F) w:=λh hS=>⟨_,⟨by rw[h],rfl⟩,aW hS⟩;refine Gp ?_;refine za (λh=>hF (F8 (by omega)) hS) (λh1=>?_);refine Gp ?_;refine za (λh=>hF (F8 (by omega)) hS) (λh2=>?_);refine Gp ?_;refine zo hx.ops ?_;refine Gp ?_;refine za (λh=>hF (F8 (by omega)) hS) (λh3=>?_);refine Gp ?_;refine zo hx.iS ?_;refine Gp ?_;refine za (λh=>hF (F8 (by omega)) hS) (λh4=>?_);refine Gp ?_;refine zo hx.ops ?_;refine⟨λvs w=>∃i:Nat,vs=[Γ i]/\i<=t.ops.length/\(∀j (hj:j<t.ops.length),j<i->kU t.ops[j] t.aw=true)/\SL W (.pt xb [Γ t.aw,x.ov,x.nv] 214::.mem H::F) w,
  λvs _=>match vs with|[.int _ i]=>(t.ops.length-i).toNat|_=>0,⟨0,rfl,by omega,λj hj h=>by omega,hS⟩,?_⟩
 clear hS;rintro v3 w ⟨i,eU,hi,eF,hS⟩;cases eU;refine bZ (λh=>?_) (λh=>?_)
 ·have cz:i<t.ops.length:=by omega
  refine zD hS Xh wV hx.ops (x:=t.ops[i]) (by simp[cz]) cz ?_;refine Gm λb w hS=>?_;refine Cg (qK t.ops[i] t.aw) λw hS=>?_;refine zt (λh=>hF (bZm cz h) (aW hS)) (λh=>?_);refine Gp ?_;refine⟨⟨i+1,rfl,by omega,λj hj i_=>?_,aW hS⟩,by dsimp only;omega⟩;by_cases e:j=i
  ·subst e;exact h
  exact eF j hj (by omega)
 have jO:i=t.ops.length:=by omega
 have dV:∀j (hj:j<t.ops.length),kU t.ops[j] t.aw=true:=λj hj=>eF j hj (by omega);clear eF;refine Gp ?_;refine zo hx.iS ?_;refine⟨λvs w=>∃i:Nat,vs=[Γ i]/\i<=t.notes.length/\(∀j (hj:j<t.notes.length),j<i->jm t.notes[j] t.aw=true)/\SL W (.pt xb [Γ t.aw,x.ov,x.nv] 214::.mem H::F) w,
  λvs _=>match vs with|[.int _ i]=>(t.notes.length-i).toNat|_=>0,⟨0,rfl,by omega,λj hj h=>by omega,aW hS⟩,?_⟩
 clear hS;rintro v5 w ⟨i,eU,hi,eF,hS⟩;cases eU;refine bZ (λh=>?_) (λh=>?_)
 ·have cz:i<t.notes.length:=by omega
  refine zD hS Xh wU hx.iS (x:=t.notes[i]) (by simp[cz]) cz ?_;refine Gm λb w hS=>?_;refine Cg (Yq t.notes[i] t.aw) λw hS=>?_;refine zt (λh=>hF (bZn cz h) (aW hS)) (λh=>?_);refine Gp ?_;refine⟨⟨i+1,rfl,by omega,λj hj i_=>?_,aW hS⟩,by dsimp only;omega⟩;by_cases e:j=i
  ·subst e;exact h
  exact eF j hj (by omega)
 rw[bZo (by omega) dV λj hj=>eF j hj (by omega)];(exact cC hS)
def vS(x:dE):Prop:=(x.kind=1/\0<=x.n/\x.n<1152921504606846976/\x.s=emp)\/(x.kind=2/\x.n=0/\x.s.size<=4096)
def vS.right{x:dE}(h:vS x):oJ x=true:=by
 unfold oJ;rcases h with ⟨h1,_,_,h2⟩|⟨h1,h2,h3⟩
 ·rw[zzd h1,h2];rfl
 rw[zzb (by omega),zzd h1,zzm h2,zzm h3];rfl
def VT{n:Nat}(h:n<65536):iU (eV n 2)=n:=by
 have f:∀k,((n:Int).fdiv (2 ^ (8*k)))=((n / 2 ^ (8*k):Nat):Int):=λk=>by
  have:=Cz n (2 ^ (8*k)) (Nat.two_pow_pos _);rw[<- this];push_cast;rfl
 unfold eV eV eV;simp only[f,iU,xxo,ttj,JO,show (2:Nat) ^ (8*1)=256 from rfl,show (2:Nat) ^ (8*0)=1 from rfl];omega
def R4:∀(l acc:List dE),(∀x∈l,vS x)->oS acc l.length ⟨(l.map fy).flatten,0⟩= .ok (acc++l)
 | [],acc,_=>by
  rw[yy7,xx6,yym,a_0,zzb (by simp),zz1]
 | x::l,acc,h=>by
  have hx:=h x (.head _);have ih:=R4 l (acc++[x]) λy hy=>h y (.tail _ hy);obtain⟨kind,n,s⟩:=x;rw[zzo,zz8,zzi];rcases hx with ⟨h1,h2,h3,h4⟩|⟨h1,h2,h3⟩
  ·have h1:kind=1:=h1;have h4:s=emp:=h4;subst h1 h4;obtain⟨m,rfl⟩:=wwg h2;have hm:m<1152921504606846976:=by have h3:(m:Int)<1152921504606846976:=h3;omega
   have e:fy ⟨1,(m:Int),emp⟩=gW 1::eV (m:Int) 8:=by
    show gW 1::eV ((m:Int) % 18446744073709551616) 8=_;rw[show (m:Int) % 18446744073709551616=(m:Int) by omega]
   have hl:=lQ (m:Int) 8;rw[e,zzv,a_y (by decide),zzb (by rw[zza,hl];omega),uux hl,uuy hl,VU hm,sig,zzd (by omega)];rw[zzk]at ih
   exact ih
  have h1:kind=2:=h1;have h2:n=0:=h2;have h3:s.size<=4096:=h3;subst h1 h2;have e:fy ⟨2,0,s⟩=gW 2::(eV (s.size:Nat) 2++s.data.toList):=rfl;have hl:=lQ (s.size:Int) 2;have hs:s.data.toList.length=s.size:=rfl;rw[e,zzv,zzk,a_z (by decide),zzb (by rw[zza,hl];omega),uux hl,uuy hl,VT (by omega),zzb (by omega),
   zzb (by rw[zza,zza,hl];omega),uux hs,uuy hs]
  rw[zzk]at ih
  exact ih
def HP{l:List dE}(hl:l.length<=32767)(h:∀x∈l,vS x):ou l= .ok (eV l.length 2++(l.map fy).flatten)/\jD (eV l.length 2++(l.map fy).flatten)= .ok l:=by
 have h2:=lQ (l.length:Int) 2;have hb:=VT (n:=l.length) (by omega);refine⟨?_,?_⟩
 ·unfold ou;rw[zzb (by omega),zzd (zz3.2 λx hx=>(h x hx).right)]
 have ht:(eV (l.length:Int) 2++(l.map fy).flatten).take 2=eV l.length 2:=uux h2;have hd:(eV (l.length:Int) 2++(l.map fy).flatten).drop 2=(l.map fy).flatten:=uuy h2;rw[a_w (by rw[zza,h2];omega) (by rw[ht,hb];omega),ht,hd,hb,R4 l [] h,zzr]
def oF{x:cD}:eC x=true↔(1<=x.aw/\x.aw<=1099511627776/\x.ops.length<=4096/\x.notes.length<=256)/\(∀o∈x.ops,kU o x.aw=true)/\∀n∈x.notes,jm n x.aw=true:=by
 unfold eC;rw[zzu,zzu,zzw,zz3,zz3,and_assoc]
def DB{o:gr}{aw:Int}:kU o aw=true↔1<=o.aw/\o.aw<=aw/\0<=o.table/\o.table<8/\1<=o.key/\o.key<=1099511627776/\o.val.size<=32/\(o.gone=true->o.val=emp):=by unfold kU;rw[zzw]
def DA{n:ix}{aw:Int}:jm n aw=true↔1<=n.id/\n.id<=64/\((n.kind=1/\0<=n.table/\n.table<8/\1<=n.weight/\n.weight<=8/\1<=n.at_/\n.at_<=aw/\n.dA=0/\n.done=false)\/(n.kind=2/\n.table=0/\n.weight=0/\n.at_=0/\0<=n.dA/\n.dA<=1099511627776)):=by unfold jm;rw[zzw]
def Ey(b:Bool):0<=g_ b/\g_ b<=1:=by cases b<;>decide
def lM{n:Int}(h:0<=n/\n<=1099511627776):vS (iF n):=.inl ⟨rfl,h.1,by show n<_;omega,rfl⟩
def bF7{x:cD}(h:eC x=true):∀f∈kZ x,vS f:=by
 obtain⟨h0,ho,hn⟩:=oF.1 h;intro f hf;unfold kZ at hf;simp only[zz5,zz0,wwe,zzx,xxq,vvz]at hf;rcases hf with ((rfl|rfl)|⟨l,⟨o,Dc,rfl⟩,hf⟩)|rfl|⟨l,⟨n,rA,rfl⟩,hf⟩
 ·exact lM (by omega)
 ·exact lM (by omega)
 ·have h1:=DB.1 (ho o Dc);have hb:=Ey o.gone;unfold pO at hf;simp only[zz0,xxq,vvz]at hf;rcases hf with rfl|rfl|rfl|rfl|rfl
  ·exact lM (by omega)
  ·exact lM (by omega)
  ·exact lM (by omega)
  ·exact lM (by omega)
  exact .inr ⟨rfl,rfl,by show o.val.size<=4096;omega⟩
 ·exact lM (by omega)
 have h1:=DA.1 (hn n rA);have hb:=Ey n.done;unfold pN at hf;simp only[zz0,xxq,vvz]at hf;rcases hf with rfl|rfl|rfl|rfl|rfl|rfl|rfl<;>exact lM (by omega)
def AP{α β:Type}{f:α->List β}{k:Nat}(h:∀x,(f x).length=k):∀l:List α,((l.map f).flatten).length=l.length*k
 | []=>by simp
 | x::l=>by rw[zzo,zz8,zza,h,AP h l,zzi,Nat.succ_mul,uu1]
def bF8(x:cD):(kZ x).length=3+x.ops.length*5+x.notes.length*7:=by
 unfold kZ;simp only[zza,zzi,yym];rw[AP (f:=pO) (k:=5) (λ_=>rfl),AP (f:=pN) (k:=7) (λ_=>rfl)];omega
def HX{x:cD}(h:eC x=true):uj x= .ok (eV (kZ x).length 2++((kZ x).map fy).flatten)/\jD (eV (kZ x).length 2++((kZ x).map fy).flatten)= .ok (kZ x):=by
 have hl:=bF8 x;obtain⟨h0,_,_⟩:=oF.1 h;obtain⟨e1,e2⟩:=HP (l:=kZ x) (by omega) (bF7 h);exact⟨by unfold uj;rw[zzd h,e1],e2⟩
def pk{m n:Int}{l:List dE}(h:0<=n/\n<=m):dC m ⟨iF n::l,false⟩=(n,⟨l,false⟩):=by
 have e:fz ⟨iF n::l,false⟩=(n,⟨l,false⟩):=rfl;unfold dC;rw[e,zzb (by show ¬(n<0\/m<n);omega)]
def HE{b:Bool}{l:List dE}:s8 ⟨iF (g_ b)::l,false⟩=(b,⟨l,false⟩):=by
 unfold s8;rw[pk (Ey b)];cases b<;>rfl
def cns{o:gr}{l:List dE}(h:0<=o.table/\o.table<=8):nV ⟨pO o++l,false⟩=(o,⟨l,false⟩):=by
 unfold nV pO;have e1:fz ⟨[iF o.aw,iF o.table,iF o.key,iF (g_ o.gone),tF o.val]++l,false⟩=(o.aw,⟨[iF o.table,iF o.key,iF (g_ o.gone),tF o.val]++l,false⟩):=rfl;have e2:dC 8 ⟨[iF o.table,iF o.key,iF (g_ o.gone),tF o.val]++l,false⟩=(o.table,⟨[iF o.key,iF (g_ o.gone),tF o.val]++l,false⟩):=pk h;have e3:fz ⟨[iF o.key,iF (g_ o.gone),tF o.val]++l,false⟩=(o.key,⟨[iF (g_ o.gone),tF o.val]++l,false⟩):=rfl;have e4:s8 ⟨[iF (g_ o.gone),tF o.val]++l,false⟩=(o.gone,⟨[tF o.val]++l,false⟩):=HE;have e5:pq ⟨[tF o.val]++l,false⟩=(o.val,⟨l,false⟩):=rfl;simp only[e1,e2,e3,e4,e5]
def b_w{n:ix}{l:List dE}(h1:0<=n.kind/\n.kind<=2)(h2:0<=n.id/\n.id<=64)(h3:0<=n.table/\n.table<=8)(h4:0<=n.weight/\n.weight<=8):ph ⟨pN n++l,false⟩=(n,⟨l,false⟩):=by
 unfold ph pN;have e1:dC 2 ⟨[iF n.kind,iF n.id,iF n.table,iF n.weight,iF n.at_,iF n.dA,iF (g_ n.done)]++l,false⟩=(n.kind,⟨[iF n.id,iF n.table,iF n.weight,iF n.at_,iF n.dA,iF (g_ n.done)]++l,false⟩):=pk h1;have e2:dC 64 ⟨[iF n.id,iF n.table,iF n.weight,iF n.at_,iF n.dA,iF (g_ n.done)]++l,false⟩=(n.id,⟨[iF n.table,iF n.weight,iF n.at_,iF n.dA,iF (g_ n.done)]++l,false⟩):=pk h2;have e3:dC 8 ⟨[iF n.table,iF n.weight,iF n.at_,iF n.dA,iF (g_ n.done)]++l,false⟩=(n.table,⟨[iF n.weight,iF n.at_,iF n.dA,iF (g_ n.done)]++l,false⟩):=pk h3;have e4:dC 8 ⟨[iF n.weight,iF n.at_,iF n.dA,iF (g_ n.done)]++l,false⟩=(n.weight,⟨[iF n.at_,iF n.dA,iF (g_ n.done)]++l,false⟩):=pk h4;have e5:fz ⟨[iF n.at_,iF n.dA,iF (g_ n.done)]++l,false⟩=(n.at_,⟨[iF n.dA,iF (g_ n.done)]++l,false⟩):=rfl;have e6:fz ⟨[iF n.dA,iF (g_ n.done)]++l,false⟩=(n.dA,⟨[iF (g_ n.done)]++l,false⟩):=rfl;have e7:s8 ⟨[iF (g_ n.done)]++l,false⟩=(n.done,⟨l,false⟩):=HE;simp only[e1,e2,e3,e4,e5,e6,e7]
def F6{α:Type}{one:cY->α × cY}{f:α->List dE}:∀(xs:List α) (l:List dE),(∀x∈xs,∀l,one ⟨f x++l,false⟩=(x,⟨l,false⟩))->iV one xs.length ⟨(xs.map f).flatten++l,false⟩=(xs,⟨l,false⟩)
 | [],l,_=>rfl
 | x::xs,l,h=>by
  have ih:=F6 xs l λy hy=>h y (.tail _ hy);have h1:=h x (.head _) ((xs.map f).flatten++l);rw[zzo,zz8,zzk,zzi,iV,zzb (by simp),h1,ih]
def bX4{x:cD}(h:eC x=true):nS ⟨kZ x,false⟩=(x,⟨[],false⟩):=by
 obtain⟨h0,ho,hn⟩:=oF.1 h;have e0:kZ x=iF x.aw::(iF x.ops.length::((x.ops.map pO).flatten++(iF x.notes.length::((x.notes.map pN).flatten++[])))):=by
  unfold kZ;simp
 rw[e0];unfold nS;have e1:∀l,fz ⟨iF x.aw::l,false⟩=(x.aw,⟨l,false⟩):=λl=>rfl;have e2:∀l,dC 4096 ⟨iF x.ops.length::l,false⟩=((x.ops.length:Int),⟨l,false⟩):=λl=>pk (by omega);have e3:∀l,iV nV x.ops.length ⟨(x.ops.map pO).flatten++l,false⟩=(x.ops,⟨l,false⟩):=λl=>F6 x.ops l λo Dc l=>cns (by have:=DB.1 (ho o Dc);omega);have e4:∀l,dC 256 ⟨iF x.notes.length::l,false⟩=((x.notes.length:Int),⟨l,false⟩):=λl=>pk (by omega);have e5:∀l,iV ph x.notes.length ⟨(x.notes.map pN).flatten++l,false⟩=(x.notes,⟨l,false⟩):=λl=>F6 x.notes l λn rA l=>by
  have:=DA.1 (hn n rA);exact b_w (by omega) (by omega) (by omega) (by omega)
 simp only[e1,e2,e3,e4,e5,zzy]
def R9{x:cD}(h:eC x=true):∃b,uj x= .ok b/\nH b= .ok x:=by
 obtain⟨e1,e2⟩:=HX h;refine⟨_,e1,?_⟩;unfold nH;rw[e2];have e3:AB (kZ x)=some x:=by
  unfold AB;rw[bX4 h];simp only;rw[zzd ⟨trivial,trivial,h⟩]
 simp only[e3]
def vm(n:Int):(fy (iF n)).length=9:=by
 show (gW 1::eV (wk n) 8).length=9;rw[zzi,lQ]
def um{α β:Type}{f:α->List β}{k:Nat}:∀l:List α,(∀x∈l,(f x).length<=k)->((l.map f).flatten).length<=l.length*k
 | [],_=>by simp
 | x::l,h=>by
  have h1:=h x (.head _);have ih:=um l λy hy=>h y (.tail _ hy);rw[zzo,zz8,zza,zzi,Nat.succ_mul];omega
def Cu(l:List (List dE)):(l.flatten.map fy).flatten=(l.map λx=>(x.map fy).flatten).flatten:=by
 induction l with
 | nil=>rfl
 | cons x l ih=>simp only[zz8,zzt,yyw,zzo,ih]
def bFg{x:cD}(h:eC x=true){b:Φ}(hb:uj x= .ok b):b.length<=29+x.ops.length*71+x.notes.length*63:=by
 obtain⟨h0,ho,hn⟩:=oF.1 h;rw[(HX h).1]at hb
 cases hb;rw[zza,lQ];unfold kZ;simp only[zzt,zzo,yy7,yyw,zz8,xx6,zza,zz1,vm];rw[Cu,Cu,xxj,xxj];have k1:=um (f:=(λx=>(x.map fy).flatten)∘pO) (k:=71) x.ops λo Dc=>by
  have:=(DB.1 (ho o Dc)).2.2.2.2.2.2.1;have e:(fy (tF o.val)).length=3+o.val.size:=by
   show (gW 2::(eV (o.val.size:Nat) 2++o.val.data.toList)).length=_;rw[zzi,zza,lQ];have:o.val.data.toList.length=o.val.size:=rfl;omega
  show (((pO o).map fy).flatten).length<=71;unfold pO;simp only[zzo,yy7,zz8,xx6,zza,yym,vm,e];omega
 have k2:=um (f:=(λx=>(x.map fy).flatten)∘pN) (k:=63) x.notes λn rA=>by
  show (((pN n).map fy).flatten).length<=63;unfold pN;simp only[zzo,yy7,zz8,xx6,zza,yym,vm];omega
 omega

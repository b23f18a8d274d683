/- Part. -/
import Derived.Test.YtlngdcpffiklgaaGreatJ5
namespace Go.Proofs.YtlngdcpffiklgaaGreat
set_option linter.all false
open Go.RowKit Go.Proofs.Tryz
def vv3:=@Nat.pow_le_pow_right
def yyz:=@underlying9
def wwx:=@underlying5
def uu5:=@Bool.false_and
def wwf:=@List.map_singleton
def uu6:=@List.find?_eq_none
def uux:=@Bool.eq_iff_iff
def uug:=@decide_eq_true_iff
def yyl:=@List.getElem_of_mem
def wwi:=@Int.eq_ofNat_of_zero_le
def uuy:=@List.take_left'
def uuz:=@List.drop_left'
section
variable {W w:Ζ} {l:Β} {P:Program}
def XI{t:Ι}{s:Η}{j:Nat}{k:IntKind}{K:Ε->Prop}(ht:P.underlying t=some .string)(hj:j<s.size)(h:K (.int .u8 (s[j]).toNat)):eS P (Instr.index t (.string s) (.int k (j:Int))) w K:=by
 refine⟨_,?_,h⟩;have:s[j]?=some s[j]:=by simp[hj]
 simp[Instr.index,asIntOf,zzy ht,Result.andThen,this]
def YZ{src dst e:Ι}{b:Nat}{n:Int}{cap:Nat}{t:Ι}{K:Ε->Prop}(hS:SL W l w)(hm:Has (.pt b [.int .u8 n] t) l)(h1:P.underlying src=some (.slice e))(h2:P.underlying dst=some .string)(h3:P.underlying e=some (.int .u8))
  (h:K (.string ⟨#[UInt8.ofNat n.toNat]⟩)):eS P (convert src dst (.slice (some ⟨b,0,none⟩) 1 cap)) w K:=by
 refine⟨_,?_,h⟩;have hc:w.cell? ⟨b,0,none⟩=some (.int .u8 n):=hS.cell hm rfl;have hl:(loadCells ⟨b,0,none⟩ 1).run P w= .ok ([n].map (Value.int .u8)).toArray w:=by
  refine vvc (P:=P) (w:=w) ⟨b,0,none⟩ [.int .u8 n] (λj v hj=>?_)
  match j,hj with
  | 0,hj=>
   simp at hj;subst hj;rw[yye];exact hc
 have:=run_bytesToString (P:=P) w ⟨b,0,none⟩ 1 cap [n] hl;simp[convert,zzy h1,zzy h2,zzy h3,Result.andThen,this];rfl
def Q1{a b:Η}{K:Ε->Prop}(hr:a.size+b.size<=1000000)(h:K (.string (a++b))):zc .add (.string a) (.string b) K:=by
 refine⟨_,?_,h⟩;have hm:IntKind.i64.max=9223372036854775807:=by decide
 simp only[jJ];rw[zzb (by rw[hm];omega)]
end
set_option maxRecDepth 100000
def ep(bs:Φ):Η:=⟨bs.toArray⟩
def Sb{a b:Φ}:ep a=ep b↔a=b:=by
 constructor
 ·intro h;have:=yy1 ByteArray.data h;exact List.toArray_inj this
 rintro rfl;rfl
def nh(a:Φ):(ep a).size=a.length:=by simp[ep,ByteArray.size]
def fold_push:∀(bs:Φ) (s:Η),(bs.map λb=>(b.toNat:Int)).foldl (λr n=>r.push (UInt8.ofNat n.toNat)) s=⟨s.data++bs.toArray⟩
 | [],s=>by cases s;simp
 | b::bs,s=>by
  simp only[zzr,xxq];rw[fold_push bs];cases s;simp[ByteArray.push]
section
variable {W w:Ζ} {l:Β} {P:Program}
def Zi{src dst e:Ι}{v:Ε}{bs:Φ}{K:Ε->Prop}(hv:∃a n c,v= .slice a n c)(iD:kL w 1 v bs.length (bs.map dd))(h1:P.underlying src=some (.slice e))(h2:P.underlying dst=some .string)(h3:P.underlying e=some (.int .u8))
  (h:K (.string (ep bs))):eS P (convert src dst v) w K:=by
 refine⟨_,?_,h⟩;obtain⟨a,n,c,rfl⟩:=hv;rw[run_convert_bytes_string w src dst e a n c h1 h3 h2];cases a with
 | none=>
  obtain⟨e1,e2⟩:=iD;have:bs=[]:=by simpa using e2
  subst this;rfl
 | some p=>
  obtain⟨e1,e2,e3⟩:=iD;subst e1;have hl:(loadCells p bs.length).run P w= .ok ((bs.map λb=>(b.toNat:Int)).map (Value.int .u8)).toArray w:=by
   have h4:=vvc (P:=P) (w:=w) p (bs.map dd) e3;rw[zzn]at h4
   rw[h4,xxk];rfl
  rw[run_bytesToString w p bs.length c _ hl,fold_push];simp[ep]
def de.J6{H:bw}{sz n:Nat}{v:Ε}{cells:Ξ}(h:de H sz v n cells):∃a n c,v= .slice a n c:=by
 obtain⟨_,a,cap,rfl,_,_⟩:=h;exact⟨_,_,_,rfl⟩
end
def SL.mark{W w:Ζ}{l l':Β}{b n:Nat}{cs:Ξ}{t:Ι}(h:SL W l w)(u:gj (.pt b cs t) (.pt b cs t) l l')(hn:cs.length=n):SL W l' (w.freeze {block:=b,off:=n} 1):=by
 obtain⟨f,hf,e⟩:=h.o8 u.has;obtain⟨x,y⟩:=f;refine h.rX (b:=b) (o':=.cells cs.toArray t (if x == y then (n,n+1) else (min x n,max y (n+1)))) u ?_ ⟨_,?_,rfl⟩ ?_ ?_ rfl rfl rfl
 ·rintro k ⟨f,_,rfl⟩;exact⟨_,rfl⟩
 ·rcases hf with hf|hf
  ·simp only at hf;subst hf;rw[zzd (by simp)];right;simp only;omega
  simp only at hf;split
  ·right;simp only;omega
  right;simp only;omega
 ·show (w.heap.modify b _)[b]?=_;rw[vvf];simp[e]
 intro z hz;show (w.heap.modify b _)[z]?=_;rw[vvf,zzb (by omega)]
abbrev nM(rp:Nat)(r:jA)(v:Ε):Μ:=.pt rp [v,Γ r.e] 376
def Wl(n:Nat)(r:jA):(gT n r).1.length<=n/\(gT n r).1.length<=r.b.length/\(gT n r).2.b.length<=r.b.length:=by
 unfold gT;split
 ·simp
 split
 ·simp
 simp only[zzg,zzs];omega
def awx(X:Μ)(rp n:Nat)(r:jA)(u:Ε)(post:Β):Prop:=∃v',dX X u (gT n r).1/\dX X v' (gT n r).2.b/\post=[nM rp (gT n r).2 v',X]
def YU(X:Μ)(rp n:Nat)(v:Ε)(r:jA)(hv:dX X v r.b):SP 314 [Δ rp,Γ n] [nM rp r v,X] (awx X rp n r):=by
 refine Enzz λW F w hS=>?_;apply cQl;delta aI bW c_ ai bR;have tO:=hv.one hS Xh;refine⟨λvs w=>vs=[]/\∃e,e=(if r.e=0/\r.b.length<n then 2 else r.e)/\SL W (.pt rp [v,Γ e] 376::X::F) w,?_,?_⟩
 ·refine cA (λh=>?_) (λh=>?_)
  ·refine Gp ?_;refine yq hS Xh hv ?_;refine cA (λh2=>?_) (λh2=>?_)
   ·refine Gn λw hS=>?_;exact⟨2,by rw[zzd ⟨h,by omega⟩],hS⟩
   refine⟨rfl,_,rfl,?_⟩;rw[zzb (by omega)];exact hS
  refine⟨rfl,_,rfl,?_⟩;rw[zzb (by omega)];exact hS
 rintro w ⟨_,e,he,hS⟩;refine Gp ?_;by_cases h1:r.e=0
 ·by_cases h2:r.b.length<n
  ·rw[zzd ⟨h1,h2⟩]at he
   subst he;refine Υ ?_;have e1:gT n r=([],{r with e:=2}):=by unfold gT;rw[zzb (by simp[h1]),zzd h2]
   refine⟨_,⟨v,?_,?_,rfl⟩,?_⟩
   ·rw[e1];exact dX.nil
   ·rw[e1];exact hv
   rw[e1];exact hS
  rw[zzb (by omega),h1]at he
  subst he;refine Χ ?_;have e1:gT n r=(r.b.take n,{r with b:=r.b.drop n}):=by unfold gT;rw[zzb (by simp[h1]),zzb h2]
  refine Gp ?_;refine XE hS Xh hv (by omega) ?_;intro u hu;refine Gp ?_;refine XF hS Xh hv (by omega) ?_;intro v' q_;have cXb:=q_.one hS Xh;refine Gn λw hS=>?_;refine⟨_,⟨v',?_,?_,rfl⟩,?_⟩
  ·rw[e1];exact hu
  ·rw[e1];exact q_
  rw[e1];simp only[h1];exact hS
 rw[zzb (by omega)]at he
 subst he;refine za (λ_=>?_) (λh=>absurd h1 h);have e1:gT n r=([],r):=by unfold gT;rw[zzd h1]
 refine⟨_,⟨v,?_,?_,rfl⟩,?_⟩
 ·rw[e1];exact dX.nil
 ·rw[e1];exact hv
 rw[e1];exact hS
def cDl{a b:Nat}(ha:a<18446744073709551616)(hb:b<18446744073709551616):jJ .or (.int .u64 (a:Int)) (.int .u64 (b:Int))=some (.int .u64 ((a ||| b:Nat):Int)):=by
 have h:(a ||| b)<18446744073709551616:=Nat.or_lt_two_pow (n:=64) ha hb;simp only[jJ,wwm];congr 2;have e1:(BitVec.ofInt IntKind.u64.bits (a:Int))=BitVec.ofNat 64 a:=vv2 64 a;have e2:(BitVec.ofInt IntKind.u64.bits (b:Int))=BitVec.ofNat 64 b:=vv2 64 b;rw[e1,e2];have e3:(BitVec.ofNat 64 a ||| BitVec.ofNat 64 b).toNat=a ||| b:=by
  rw[BitVec.toNat_or,uuf,uuf,wwt (by omega),wwt (by omega)]
 show IntKind.u64.wrap (((BitVec.ofNat 64 a ||| BitVec.ofNat 64 b).toNat:Nat):Int)=_;rw[e3,wrap_u64 (by omega) (by omega)]
def cHe{x:Nat}{c:Κ}{K:Ε->Prop}(h:K (.int .u64 (((x*256+c.toNat) % 18446744073709551616:Nat):Int))):
  zc .shl (.int .u64 (x:Int)) (.int .u64 8) λv=>zP .u64 (dd c) λy=>zc .or v y K:=by
 have hc:=c.toNat_lt;refine⟨.int .u64 (((x*256) % 18446744073709551616:Nat):Int),?_,?_⟩
 ·show (if (8:Int)<0 then none else some (Value.int .u64 (IntKind.u64.wrap ((x:Int)*2 ^ (min (8:Int).toNat IntKind.u64.bits)))))=_;rw[zzb (by omega)];congr 2
 refine zW ?_;rw[wrap_u64 (by omega) (by omega)];refine⟨_,cDl (by omega) (by omega),?_⟩;have e:(x*256) % 18446744073709551616=((x*256) % 18446744073709551616 / 256) <<< 8:=by rw[tti];omega
 have e2:(x*256) % 18446744073709551616 ||| c.toNat=(x*256+c.toNat) % 18446744073709551616:=by
  rw[e,<- Nat.shiftLeft_add_eq_or_of_lt (show c.toNat<2 ^ 8 by omega),tti];omega
 rw[e2];exact h
def R7{b:Φ}{i:Nat}(h:i<b.length):ja (b.take (i+1))=(ja (b.take i)*256+b[i].toNat) % 18446744073709551616:=by
 rw[show b.take (i+1)=b.take i++[b[i]] by rw[ww7];simp[h]];exact aWu _ _ _ rfl
def awy(X:Μ)(rp n:Nat)(r:jA)(u:Ε)(post:Β):Prop:=∃v',u= .int .u64 ((fV n r).1:Nat)/\dX X v' (fV n r).2.b/\post=[nM rp (fV n r).2 v',X]
def ZF(X:Μ)(rp n:Nat)(v:Ε)(r:jA)(hv:dX X v r.b)(hn:n<=1000):SP 313 [Δ rp,Γ n] [nM rp r v,X] (awy X rp n r):=by
 refine Enzz λW F w hS=>?_;apply cQk;delta aI ai;refine Cc (YU X rp n v r hv) ?_;clear hS;rintro u post ⟨v',hu,q_,rfl⟩ w hS;(try simp only[app]at hS);have hl:=Wl n r;refine yq hS Xh hu ?_;refine⟨λvs w=>∃i:Nat,i<=(gT n r).1.length/\vs=[.int .u64 (ja ((gT n r).1.take i):Nat),Γ i]/\SL W (nM rp (gT n r).2 v'::X::F) w,λvs _=>match vs with
  | [_,.int _ i]=>(gT n r).1.length-i.toNat
  | _=>0,⟨0,by omega,rfl,hS⟩,?_⟩
 rintro v1 v2 w1 ⟨i,hi,hv,hS⟩;cases hv;refine cA (λh=>?_) (λh=>?_)
 ·have hi:i<(gT n r).1.length:=by omega
  refine y0 hS Xh hu hi ?_;refine cHe ?_;refine Gp ?_;refine⟨⟨i+1,by omega,?_,hS⟩,?_⟩
  ·rw[R7 hi]
  simp only[zzz];omega
 have:(gT n r).1.take i=(gT n r).1:=zz7 (by omega);rw[this];exact⟨_,⟨v',rfl,q_,rfl⟩,hS⟩
def R6:∀(n:Nat) (b:Φ),b.length=n->ja b<256 ^ n
 | 0,b,h=>by
  have:b=[]:=zzl h;subst this;decide
 | n+1,b,h=>by
  have h1:=R6 n (b.take n) (by rw[zzg];omega);have h2:=R7 (b:=b) (i:=n) (by omega);rw[zz7 (by omega)]at h2
  have hc:=(b[n]'(by omega)).toNat_lt;have h3:=Nat.mod_le (ja (b.take n)*256+(b[n]'(by omega)).toNat) 18446744073709551616;rw[h2,Nat.pow_succ];omega
def Ko(n:Nat)(r:jA):(fV n r).1<256 ^ n:=by
 have h1:=R6 _ _ (rfl:(gT n r).1.length=_);have h2:=(Wl n r).1;exact Nat.lt_of_lt_of_le h1 (vv3 (by omega) h2)
def aww(X:Μ)(rp m:Nat)(r:jA)(u:Ε)(post:Β):Prop:=∃v',u= Γ ((gS m r).1:Nat)/\dX X v' (gS m r).2.b/\post=[nM rp (gS m r).2 v',X]
def YS(X:Μ)(rp m:Nat)(v:Ε)(r:jA)(hv:dX X v r.b)(hm:m<=100000):SP 258 [Δ rp,Γ m] [nM rp r v,X] (aww X rp m r):=by
 refine Enzz λW F w hS=>?_;apply cO5;delta aI c_ ai;refine Cc (ZF X rp 2 v r hv (by omega)) ?_;clear hS;rintro u post ⟨v',rfl,q_,rfl⟩ w hS;(try simp only[app]at hS);have dj:=Ko 2 r;refine yA (by omega) ?_;refine cA (λh=>?_) (λh=>?_)
 ·refine Gn λw hS=>?_;have e:gS m r=(0,{(fV 2 r).2 with e:=3}):=by unfold gS;rw[zzd (by omega)]
  refine⟨_,⟨v',?_,?_,rfl⟩,?_⟩
  ·rw[e];rfl
  ·rw[e];exact q_
  rw[e];exact hS
 have e:gS m r=fV 2 r:=by unfold gS;rw[zzb (by omega)]
 refine⟨_,⟨v',?_,?_,rfl⟩,?_⟩
 ·rw[e]
 ·rw[e];exact q_
 rw[e];exact hS
def cBw(m:Nat)(r:jA):(gS m r).1<=m:=by
 unfold gS;split
 ·exact zz4 _
 rename_i h;exact wwv.1 h
def cHu{n:Nat}(h:n<18446744073709551616):IntKind.i64.wrap (n:Int)=sig n:=by
 rw[IntKind.wrap_i64,sig];split<;>omega
def awq(X:Μ)(rp:Nat)(r:jA)(u:Ε)(post:Β):Prop:=∃v',u= .agg (gk (iO r).1).toArray/\dX X v' (iO r).2.b/\post=[nM rp (iO r).2 v',X]
def QD(X:Μ)(rp:Nat)(v:Ε)(r:jA)(hv:dX X v r.b):SP 259 [Δ rp] [nM rp r v,X] (awq X rp r):=by
 intro W F w hS;apply cO6;delta aI bW c_ ai cR;(try simp only[app]at hS);refine Gm λb w hS=>?_;refine Cc (ZF X rp 1 v r hv (by omega)) ?_;clear hS;rintro u post ⟨v1,rfl,rL,rfl⟩ w hS;(try simp only[app]at hS);have dj:=Ko 1 r;refine yA (by omega) ?_;refine cA (λh=>?_) (λh=>?_)
 ·refine Cc (ZF X rp 8 v1 (fV 1 r).2 rL (by omega)) ?_;clear hS;rintro u post ⟨v2,rfl,tS,rfl⟩ w hS;(try simp only[app]at hS);have cW2:=Ko 8 (fV 1 r).2;refine zW ?_;rw[cHu (by omega),h];have e:iO r=(⟨1,sig (fV 8 (fV 1 r).2).1,⟨#[]⟩⟩,(fV 8 (fV 1 r).2).2):=by
   unfold iO;rw[zzd (by omega)]
  refine Gn λw hS=>?_;refine⟨[nM rp (iO r).2 v2,X],⟨v2,?_,?_,rfl⟩,?_⟩
  ·rw[e];rfl
  ·rw[e];exact tS
  rw[e];exact aR hS
 refine cA (λh2=>?_) (λh2=>?_)
 ·refine Cc (YS X rp 4096 v1 (fV 1 r).2 rL (by omega)) ?_;clear hS;rintro u post ⟨v2,rfl,tS,rfl⟩ w hS;(try simp only[app]at hS);refine Cc (YU X rp (gS 4096 (fV 1 r).2).1 v2 (gS 4096 (fV 1 r).2).2 tS) ?_;clear hS;rintro u post ⟨v3,hu,hv3,rfl⟩ w hS;(try simp only[app]at hS);obtain⟨au,cu,eu,_⟩:=hu.sl hS Xh;refine Zi ⟨_,_,_,eu⟩ (hu.src hS Xh) xxv yyz wwx ?_;rw[h2];have e:iO r=(⟨2,0,ep (gT (gS 4096 (fV 1 r).2).1 (gS 4096 (fV 1 r).2).2).1⟩,(gT (gS 4096 (fV 1 r).2).1 (gS 4096 (fV 1 r).2).2).2):=by
   unfold iO ep;rw[zzb (by omega),zzd (by omega)]
  refine Gn λw hS=>?_;refine⟨[nM rp (iO r).2 v3,X],⟨v3,?_,?_,rfl⟩,?_⟩
  ·rw[e];rfl
  ·rw[e];exact hv3
  rw[e];exact aR hS
 refine Gp ?_;have e:iO r=(xg,if (fV 1 r).2.e=0 then {(fV 1 r).2 with e:=3} else (fV 1 r).2):=by
  unfold iO;rw[zzb (by omega),zzb (by omega)]
 refine za (λh3=>?_) (λh3=>?_)
 ·rw[zzd h3]at e
  refine Gn λw hS=>?_;refine⟨[nM rp (iO r).2 v1,X],⟨v1,?_,?_,rfl⟩,?_⟩
  ·rw[e];rfl
  ·rw[e];exact rL
  rw[e];exact aR hS
 rw[zzb h3]at e
 refine Gn λw hS=>?_;refine⟨[nM rp (iO r).2 v1,X],⟨v1,?_,?_,rfl⟩,?_⟩
 ·rw[e];rfl
 ·rw[e];exact rL
 rw[e];exact aR hS
def CP(x:dK):(gk x).length=3:=rfl
def tg(r:jA):Int:=if r.e=0 then if 0<r.b.length then 3 else 0 else r.e
def Ij(b:Φ):jM b=if tg (ir (gS 32767 ⟨b,0⟩).1 (gS 32767 ⟨b,0⟩).2).2=0 then .ok (ir (gS 32767 ⟨b,0⟩).1 (gS 32767 ⟨b,0⟩).2).1 else .error (tg (ir (gS 32767 ⟨b,0⟩).1 (gS 32767 ⟨b,0⟩).2).2):=rfl
def wG(X:Μ)(b:Φ)(u:Ε)(post:Β):Prop:=match jM b with
 | .error e=>u= .tuple #[Θ,Γ e]/\post=[X]
 | .ok l=>∃v,u= .tuple #[v,Γ 0]/\post=[.ob (bF v 331 3 l.length (l.map gk).flatten),X]
def Th(x:dK):∀v∈gk x,v.oneCell'=true:=λv hv=>by
 simp only[gk,zz1,xxs,vv1]at hv;rcases hv with rfl|rfl|rfl<;>rfl
def yF(X:Μ)(v:Ε)(b:Φ)(hv:dX X v b):SP 179 [v] [X] (wG X b):=by
 refine Enzz λW F w hS=>?_;apply cM5;delta aI bW c_ aW b_ ai cR bR;obtain⟨a0,c0,rfl,_⟩:=hv.sl hS .hd;refine yZ rfl ?_;refine⟨_,rfl,zE hS ?_⟩;clear hS;intro rp w hS;generalize hm:gS 32767 ⟨b,0⟩=m;refine⟨λvs w=>∃u v',vs=[u]/\dX X v' (ir m.1 m.2).2.b/\SL W (.ob (bF u 331 3 (ir m.1 m.2).1.length ((ir m.1 m.2).1.map gk).flatten)::nM rp (ir m.1 m.2).2 v'::X::F) w,?_,?_⟩
 ·have hS:SL W (nM rp ⟨b,0⟩ (.slice a0 b.length c0)::X::F) w:=hS;refine Cc (YS X rp 32767 _ ⟨b,0⟩ hv (by omega)) ?_;clear hS;rintro u post ⟨v1,rfl,rL,rfl⟩ w hS;(try simp only[app]at hS);rw[hm]at hS rL ⊢
  have hle:m.1<=32767:=by rw[<- hm];exact cBw _ _
  have hS:=bF.nil (t:=331) (sz:=3) hS;refine⟨λvs w=>∃(u v':Ε) (xs:List dK) (i:Nat) (r:jA),vs=[u,Γ i]/\xs.length+i=m.1/\ir m.1 m.2=(xs++(ir i r).1,(ir i r).2)/\dX X v' r.b/\SL W (.ob (bF u 331 3 xs.length (xs.map gk).flatten)::nM rp r v'::X::F) w,λvs _=>match vs with
   | [_,.int _ i]=>i.toNat
   | _=>0,⟨_,v1,[],m.1,m.2,rfl,by simp,by simp,rL,hS⟩,?_⟩
  rintro u1 u2 w1 ⟨u,v',xs,i,r,hv,hx,hf,hr,hS⟩;cases hv;refine cA (λh=>?_) (λh=>?_)
  ·refine Gp ?_;obtain⟨j,rfl⟩:∃j,i=j+1:=⟨i-1,by omega⟩;refine za (λh2=>?_) (λh2=>?_)
   ·refine Cc (QD X rp v' r hr) ?_;clear hS;rintro u5 post ⟨v2,rfl,tS,rfl⟩ w hS;(try simp only[app]at hS);refine zM (cells:=gk (iO r).1) hS rfl ?_;clear hS;intro p w hS;refine zJ (m:=1) (cs:=gk (iO r).1) hS Xr (jR hS .hd rfl) rfl rfl (Th _) (by omega) (by omega) ?_;clear hS;intro u' w hS;refine Gp ?_;have e:((j+1:Nat):Int)-1=(j:Int):=by omega
    rw[e];refine⟨⟨u',v2,xs++[(iO r).1],j,(iO r).2,rfl,by simp;omega,?_,tS,?_⟩,?_⟩
    ·rw[hf];have:ir (j+1) r=((iO r).1::(ir j (iO r).2).1,(ir j (iO r).2).2):=by
      show (if r.e=0 then _ else _)=_;rw[zzd h2]
     rw[this];simp
    ·simp only[zza,zzj,yym,zzt,zzr,yy8,yyy,zz9,xx8,zz2];exact aR hS
    simp only[zzz];omega
   have:ir (j+1) r=([],r):=by
    show (if r.e=0 then _ else _)=_;rw[zzb h2]
   rw[this,zz2]at hf
   refine⟨u1,v',rfl,?_,?_⟩
   ·rw[hf];exact hr
   rw[hf];exact hS
  obtain rfl:i=0:=by omega
  have:ir 0 r=([],r):=rfl;rw[this,zz2]at hf
  refine⟨u1,v',rfl,?_,?_⟩
  ·rw[hf];exact hr
  rw[hf];exact hS
 rintro u5 w ⟨u,v',hu,q_,hS⟩;obtain rfl:u5=u:=(List.cons.inj hu).1;have hd:=Ij b;rw[hm]at hd
 generalize (ir m.1 m.2).2=r at *
 generalize (ir m.1 m.2).1=xs at *
 refine⟨λvs w=>vs=[]/\SL W (.ob (bF u5 331 3 xs.length (xs.map gk).flatten)::.pt rp [v',Γ (tg r)] 376::X::F) w,?_,?_⟩
 ·refine cA (λh=>?_) (λh=>?_)
  ·refine Gp ?_;refine yq hS Xh q_ ?_;refine cA (λh2=>?_) (λh2=>?_)
   ·refine Gn λw hS=>?_;have e:tg r=3:=by unfold tg;rw[zzd h,zzd (by omega)]
    rw[e];exact hS
   have e:tg r=r.e:=by unfold tg;rw[zzd h,zzb (by omega),h]
   rw[e];exact⟨rfl,hS⟩
  have e:tg r=r.e:=by unfold tg;rw[zzb h]
  rw[e];exact⟨rfl,hS⟩
 rintro w ⟨_,hS⟩;refine cA (λh=>?_) (λh=>?_)
 ·refine Gn λw hS=>?_;rw[zzb h]at hd
  refine⟨[X],?_,aR hS⟩;unfold wG;rw[hd];exact⟨rfl,rfl⟩
 have h:tg r=0:=by omega
 rw[zzd h]at hd
 refine⟨[.ob (bF u5 331 3 xs.length (xs.map gk).flatten),X],?_,aR hS⟩;unfold wG;rw[hd];exact⟨u5,rfl,rfl⟩
def cHg{a:Int}{n:Nat}{k:IntKind}(hn:n<=64){K:Ε->Prop}(h:K (.int .u64 (a.fdiv (2 ^ n)))):zc .shr (.int .u64 a) (.int k (n:Int)) K:=by
 refine⟨.int .u64 (a.fdiv (2 ^ n)),?_,h⟩;have h1:¬((n:Int)<0):=by omega
 simp only[jJ,h1,wwd];rw[show min (n:Int).toNat IntKind.u64.bits=n by simp only[IntKind.bits];omega]
def ZE(b:Φ)(v:Ε)(x:Int)(n:Nat)(hn:n<=8)(hb:b.length<=140737488355000):SP 277 [v,.int .u64 x,Γ n] [.ob (bF v 5 1 b.length (b.map dd))] (λu post=>post=[.ob (bF u 5 1 (b++eZ x n).length ((b++eZ x n).map dd))]):=by
 refine Enzz λW F w hS=>?_;apply cPq;delta aI ai;refine Gp ?_;refine⟨λvs w=>∃(u:Ε) (c:Φ) (k:Nat),vs=[u,Γ ((k:Int)-1)]/\k<=n/\c++eZ x k=b++eZ x n/\SL W (.ob (bF u 5 1 c.length (c.map dd))::F) w,λvs _=>match vs with
  | [_,.int _ i]=>(i+1).toNat
  | _=>0,⟨v,b,n,rfl,zzi _,rfl,hS⟩,?_⟩
 rintro u1 u2 w1 ⟨u,c,k,hv,hk,hc,hS⟩;cases hv;refine cA (λh=>?_) (λh=>?_)
 ·obtain⟨j,rfl⟩:∃j,k=j+1:=⟨k-1,by omega⟩;have e0:((j+1:Nat):Int)-1=(j:Int):=by omega
  rw[e0];refine cG8 (by omega) ?_;have e1:(8:Int)*(j:Int)=((8*j:Nat):Int):=by omega
  rw[e1];refine cHg (by omega) ?_;refine zW ?_;rw[wrap_u8];refine zM (cells:=[dd (gY (x.fdiv (2 ^ (8*j))))]) hS rfl ?_;clear hS;intro p w hS;have mP:c.length+(j+1)=b.length+n:=by
   have:=yy1 List.length hc;simpa [lV] using this
  refine zJ (m:=1) (cs:=[dd (gY (x.fdiv (2 ^ (8*j))))]) hS Xr (jR hS .hd rfl) rfl rfl (by intro v hv;simp only[zz8]at hv;subst hv;rfl) (by omega) (by omega) ?_;clear hS;intro u' w hS;refine Gp ?_;refine⟨⟨u',c++[gY (x.fdiv (2 ^ (8*j)))],j,rfl,by omega,?_,?_⟩,?_⟩
  ·rw[<- hc];simp[eZ]
  ·simp only[zza,zzj,yym,zzt,zzr,yy8];exact aR hS
  show ((j:Int)-1+1).toNat<((j:Int)+1).toNat;omega
 obtain rfl:k=0:=by omega
 have e:c=b++eZ x n:=by simpa [eZ] using hc
 rw[e]at hS
 exact⟨_,rfl,hS⟩
def qX(x:dK):SP 278 [.agg (gk x).toArray] [] (cE (.bool (oU x)) []):=by
 refine Enzz λW F w hS=>?_;apply cPr;delta aI a_ cz ai;refine⟨gk x,rfl,?_⟩;unfold gk;refine Gm λb w hS=>?_;unfold oU;refine za (λh=>?_) (λh=>?_)
 ·rw[zzd h];refine Gp ?_;have e:decide (x.s=({data:=#[]}:Η))=decide (x.s=⟨#[]⟩):=rfl;exact cF hS
 rw[zzb h];refine cA (λh2=>?_) (λh2=>?_)
 ·rw[zzd h2];refine cA (λh3=>?_) (λh3=>?_)
  ·refine Gp ?_;rw[zzo h3,uua];have e:decide ((x.s.size:Int)<=4096)=decide (x.s.size<=4096):=by congr 1;exact propext ⟨λ_=>by omega,λ_=>by omega⟩
   rw[e];exact cF hS
  rw[zz3 h3,uu5];exact cF hS
 rw[zzb h2];exact cF hS
def Yn{P:Program}{t:Ι}{fs:Array Field}{f:Field}{i:Nat}{vs:Ξ}{v:Ε}{w:Ζ}{K:Ε->Prop}(ht:P.underlying t=some (.struct fs))(hf:fs[i]?=some f)(ha:∀w,(isAgg f.type).run P w= .ok false w)(hv:vs[f.offset]?=some v)(h:K v):
  eS P (Instr.field t (.agg vs.toArray) i) w K:=by
 refine⟨_,?_,h⟩;simp[Instr.field,asAgg,zzy ht,Result.andThen,hf,part,ha,hv]
def S'(x:dK):∀v∈gk x,v.oneCell'=true:=Th x
def Iw(x:dK):(gk x).length=3:=rfl
def yL(b:Nat)(ns:Ω)(t:Ι)(hn:ns.length<=1000):
  SP 207 [.slice (some ⟨b,0,none⟩) ns.length ns.length] [.pt b (ns.map (Value.int .i64)) t] (λu post=>post=[.ob (bF u 331 3 ns.length ((ns.map iF).map gk).flatten)]):=by
 refine Enzz λW F w hS=>?_;apply cN0;delta aI ai cR bR;have hS:=bF.nil (t:=331) (sz:=3) hS;refine Gp ?_;refine⟨λvs w=>∃(i:Nat) (u:Ε),vs=[u,Γ i]/\i<=ns.length/\SL W (.ob (bF u 331 3 i (((ns.take i).map iF).map gk).flatten)::.pt b (ns.map (Value.int .i64)) t::F) w,
  λvs _=>match vs with|[_,.int _ i]=>(ns.length-i).toNat|_=>0,⟨0,_,rfl,by omega,hS⟩,?_⟩
 clear hS;rintro u v8 w ⟨i,_,eY,hi,hS⟩;cases eY;refine cA (λh=>?_) (λh=>?_)
 ·have cG:i<ns.length:=by omega
  refine zG cG (zT hS Xh (v:=Γ ns[i]) (by simp[cG]) ?_);refine Gm λb w hS=>?_;refine yz (n:=i) (xs:=(ns.take i).map iF) (y:=iF ns[i]) (enc:=gk) hS Xr Xh Iw S' rfl (by omega) (by omega) λv2 w hS=>?_;refine Gp ?_;refine⟨⟨i+1,_,rfl,by omega,?_⟩,by dsimp only;omega⟩;rw[zze cG,zzt (f:=iF),wwf];exact aR hS
 have:i=ns.length:=by omega
 subst this;rw[zz0]at hS
 exact⟨_,rfl,aR hS⟩
def yR(s:Η):SP 209 [.string s] [] (cE (agg (gk (tF s))) []):=by
 refine Enzz λW F w hS=>?_;apply cN2;delta ai cR;refine Gm λb w hS=>?_;(exact cF hS)
def ZG(b:Bool):SP 208 [.bool b] [] (cE (Γ (hU b)) []):=by
 refine Enzz λW F w hS=>?_;apply cN1;delta ai;cases b<;>(repeat (first|refine Gp ?_|refine Gw λw hS=>?_|refine Gb λb w hS=>?_))<;>(exact cF hS)
def fp(rp:Nat)(r:dh):zC:=jT λv:Ε=>zH True [.pt rp [v,.bool r.bad] 379,.ob (dB v 331 3 r.l.length (r.l.map gk).flatten)]
def fp.iff{W w:Ζ}{rp:Nat}{r:dh}{l:Β}:SL W (.ob (fp rp r)::l) w↔∃v,SL W (.pt rp [v,.bool r.bad] 379::.ob (dB v 331 3 r.l.length (r.l.map gk).flatten)::l) w:=by
 unfold fp;simp only[SL.ex,SL.fact,zzv,zzq,uuu]
def Zg(v:Ε)(l:List dK):SP 180 [v] [.ob (bF v 331 3 l.length (l.map gk).flatten)] (λu post=>∃rp:Nat,u= Δ rp/\post=[.ob (fp rp ⟨l,false⟩)]):=by
 refine Enzz λW F w hS=>?_;apply cM7;delta bR;have h1:=bF.one hS;obtain⟨a,c,rfl,_⟩:=bF.at hS .hd;refine Gp ?_;refine zu hS λb w hS=>?_;refine⟨_,⟨b,rfl,rfl⟩,(fp.iff (r:=⟨l,false⟩)).2 ⟨.slice a l.length c,?_⟩⟩;exact (dB.of (hS.perm (.swap _ _ _))).perm (.swap _ _ _)
def Yg(rp:Nat)(r:dh)(k:Int):SP 260 [Δ rp,Γ k] [.ob (fp rp r)] (cE (agg (gk (rh k r).1)) [.ob (fp rp (rh k r).2)]):=by
 obtain⟨l,bad⟩:=r;refine Enzz λW F w hS=>?_;apply cO8;delta aI bW a_ c_ EE ai cR;obtain⟨v,hS⟩:=fp.iff.1 hS;simp only at hS;refine Gm λb w hS=>?_;cases bad with
 | true=>
  refine Gn λw hS=>?_;have e:rh k ⟨l,true⟩=(xg,⟨l,true⟩):=by unfold rh;rfl
  rw[e];exact⟨_,⟨rfl,rfl⟩,fp.iff.2 ⟨v,aR hS⟩⟩
 | false=>
  refine Gp ?_;refine zO hS (v:=v) Xh ?_;refine Gp ?_;cases l with
  | nil=>
   refine za (λh=>?_) (λh=>absurd rfl h);refine Gn λw hS=>?_;rw[show rh k ⟨[],false⟩=(xg,⟨[],true⟩) from rfl];exact⟨_,⟨rfl,rfl⟩,fp.iff.2 ⟨v,aR hS⟩⟩
  | cons f l=>
   refine za (λh=>by rw[zzj]at h;omega) (λh=>?_);refine Gp ?_;refine y5 (j:=0) (k:=.i64) hS (v:=v) Xh (by simp) λab ao hb=>yN ⟨_,Γ f.kind,rfl,hb 0 _ (by decide) rfl,?_⟩;refine cA (λhk=>?_) (λhk=>?_)
   ·refine Gn λw hS=>?_;have e:rh k ⟨f::l,false⟩=(xg,⟨f::l,true⟩):=by unfold rh;exact zzb hk
    rw[e];exact⟨_,⟨rfl,rfl⟩,fp.iff.2 ⟨v,aR hS⟩⟩
   refine Gp ?_;refine qZ (j:=0) (k:=.i64) hS (v:=v) (enc:=gk) (xs:=f::l) Xh Iw rfl (by simp) ?_;refine Gm λb w hS=>?_;refine Yp (k:=1) (v:=v) (Has.front hS Xr) (by simp) λu hS=>?_;have hS:SL W (.ob (dB u 331 3 l.length (l.map gk).flatten)::_) _:=hS;have h1:=dB.one hS .hd;refine Gn λw hS=>?_;have e:rh k ⟨f::l,false⟩=(f,⟨l,false⟩):=by unfold rh;exact zzd (Classical.not_not.1 hk)
   rw[e];exact⟨_,⟨rfl,rfl⟩,fp.iff.2 ⟨u,aR hS⟩⟩
def zR(rp:Nat)(r:dh):SP 181 [Δ rp] [.ob (fp rp r)] (cE (Γ (fE r).1) [.ob (fp rp (fE r).2)]):=by
 refine Enzz λW F w hS=>?_;apply cM8;delta ai;refine Cg (Yg rp r 1) λw hS=>?_;exact Yn underlying331 rfl (λw=>by kernel_rfl) rfl ⟨_,⟨rfl,rfl⟩,hS⟩
def yJ(rp:Nat)(r:dh):SP 184 [Δ rp] [.ob (fp rp r)] (cE (.string (pC r).1) [.ob (fp rp (pC r).2)]):=by
 refine Enzz λW F w hS=>?_;apply cNb;delta ai;refine Cg (Yg rp r 2) λw hS=>?_;exact Yn underlying331 rfl (λw=>by kernel_rfl) rfl ⟨_,⟨rfl,rfl⟩,hS⟩
def fp.bad{W w:Ζ}{rp:Nat}{r:dh}{l:Β}(v:Ε)(h:SL W (.pt rp [v,.bool true] 379::.ob (dB v 331 3 r.l.length (r.l.map gk).flatten)::l) w):SL W (.ob (fp rp {r with bad:=true})::l) w:=fp.iff.2 ⟨v,h⟩
def zA(rp:Nat)(r:dh)(m:Int):SP 182 [Δ rp,Γ m] [.ob (fp rp r)] (cE (Γ (dI m r).1) [.ob (fp rp (dI m r).2)]):=by
 refine Enzz λW F w hS=>?_;apply cM9;delta aI c_ ai;refine Cg (zR rp r) λw hS=>?_;have hB:((fE r).1<0\/m<(fE r).1)->dI m r=(0,{(fE r).2 with bad:=true}):=λh=>zzd h;have hG:¬((fE r).1<0\/m<(fE r).1)->dI m r=fE r:=λh=>zzb h;refine za (λh=>?_) (λh=>?_)
 ·rw[hB (.inl h)];obtain⟨v,hS⟩:=fp.iff.1 hS;refine Gn λw hS=>?_;exact⟨_,⟨rfl,rfl⟩,fp.bad v hS⟩
 refine cA (λh2=>?_) (λh2=>?_)
 ·rw[hB (.inr h2)];obtain⟨v,hS⟩:=fp.iff.1 hS;refine Gn λw hS=>?_;exact⟨_,⟨rfl,rfl⟩,fp.bad v hS⟩
 rw[hG (by omega)];(exact cF hS)
def Zf(rp:Nat)(r:dh):SP 261 [Δ rp] [.ob (fp rp r)] (cE (.bool (ta r).1) [.ob (fp rp (ta r).2)]):=by
 refine Enzz λW F w hS=>?_;apply cO9;delta ai;refine Cg (zA rp r 1) λw hS=>?_;exact⟨_,⟨rfl,rfl⟩,hS⟩
def Zd(rp:Nat)(r:dh):SP 268 [Δ rp] [.ob (fp rp r)] (cE (.bool (!r.bad)) [.ob (fp rp r)]):=by
 refine Enzz λW F w hS=>?_;apply cPg;delta bW;obtain⟨v,hS⟩:=fp.iff.1 hS;refine Gp ?_;exact⟨_,⟨rfl,rfl⟩,fp.iff.2 ⟨v,hS⟩⟩
def Zc(rp:Nat)(r:dh):SP 185 [Δ rp] [.ob (fp rp r)] (cE (.bool (decide (r.bad=false/\r.l=[]))) [.ob (fp rp r)]):=by
 refine Enzz λW F w hS=>?_;apply cNc;delta bW cP cz ai;obtain⟨v,hS⟩:=fp.iff.1 hS;refine Gp ?_;obtain⟨l,bad⟩:=r;cases bad with
 | true=>
  refine zp ?_;rw[zz3 (by simp)];exact⟨_,⟨rfl,rfl⟩,fp.iff.2 ⟨v,hS⟩⟩
 | false=>
  refine zq ?_;refine Gp ?_;refine zO hS (v:=v) Xh ?_;refine Gp ?_;have e:decide ((l.length:Int)=0)=decide ((dh.mk l false).bad=false/\(dh.mk l false).l=[]):=by
   rw[yyj];simp
  rw[e];exact⟨_,⟨rfl,rfl⟩,fp.iff.2 ⟨v,hS⟩⟩
structure d_ where
 table:Int
 key:Int
 gone:Bool
 val:Η
deriving DecidableEq
structure cM where
 aw:Int
 kind:Int
 changes:List d_
 signals:Ψ
 mark:Int
def dC(c:d_):Ξ:=[Γ c.table,Γ c.key,.bool c.gone,.string c.val]
def oF(c:d_):(dC c).length=4:=rfl
def Iq(c:d_):∀v∈dC c,v.oneCell'=true:=by simp[dC,Value.oneCell']
structure lM where
 aw:Int
 kind:Int
 cv:Ε
 sv:Ε
 mark:Int
def eV(x:lM):Ξ:=[Γ x.aw,Γ x.kind,x.cv,x.sv,Γ x.mark]
structure lL(H:bw)(x:lM)(t:cM):Prop where
 aw:x.aw=t.aw
 kind:x.kind=t.kind
 mark:x.mark=t.mark
 cv:de H 4 x.cv t.changes.length (t.changes.map dC).flatten
 sv:de H 1 x.sv t.signals.length (t.signals.map Value.string)
def gi(C:List Row):Prop:=C.Pairwise (λa b=>a.key<b.key)
def fe(C:List Row)(k:Int):Option Η:=(C.find? (λc=>decide (c.key=k))).map (·.val)
def gX:List Row->Row->List Row
 | [],c=>[c]
 | x::C,c=>if x.key<c.key then x::gX C c else if x.key=c.key then c::C else c::x::C
def ka:List Row->Int->List Row
 | [],_=>[]
 | x::C,k=>if x.key=k then C else x::ka C k
def lF(C:List Row)(c:d_):List Row:=if c.gone then ka C c.key else gX C ⟨c.key,c.val⟩
def vu(t:Int)(C:List Row)(c:d_):List Row:=if c.table=t then (if c.gone then ka C c.key else gX C ⟨c.key,c.val⟩) else C
def xm(t:Int)(l:List cM):List Row:=(l.flatMap (·.changes)).foldl (vu t) []
def Wa{C:List Row}{c x:Row}(h:x∈gX C c):x=c\/x∈C:=by
 induction C with
 | nil=>simpa [gX] using h
 | cons y C ih=>
  unfold gX at h;split at h
  ·rcases zz1.1 h with rfl|h
   ·exact .inr (.head _)
   rcases ih h with h|h
   ·exact .inl h
   exact .inr (.tail _ h)
  split at h
  ·rcases zz1.1 h with rfl|h
   ·exact .inl rfl
   exact .inr (.tail _ h)
  rcases zz1.1 h with rfl|h
  ·exact .inl rfl
  exact .inr h
def K2{C:List Row}(h:gi C)(c:Row):gi (gX C c):=by
 unfold gi at *
 induction C with
 | nil=>simp[gX]
 | cons y C ih=>
  rw[yyg]at h
  unfold gX;split
  ·rename_i dj;refine yyg.2 ⟨λz hz=>?_,ih h.2⟩;rcases Wa hz with rfl|hz
   ·exact dj
   exact h.1 z hz
  split
  ·rename_i he;exact yyg.2 ⟨λz hz=>by have:=h.1 z hz;omega,h.2⟩
  rename_i h1 h2;refine yyg.2 ⟨λz hz=>?_,yyg.2 h⟩;rcases zz1.1 hz with rfl|hz
  ·omega
  have:=h.1 z hz;omega
def V'{C:List Row}{k:Int}{x:Row}(h:x∈ka C k):x∈C:=by
 induction C with
 | nil=>exact h
 | cons y C ih=>
  unfold ka at h;split at h
  ·exact .tail _ h
  rcases zz1.1 h with rfl|h
  ·exact .head _
  exact .tail _ (ih h)
def X3{C:List Row}(h:gi C)(k:Int):gi (ka C k):=by
 unfold gi at *
 induction C with
 | nil=>exact h
 | cons y C ih=>
  rw[yyg]at h
  unfold ka;split
  ·exact h.2
  exact yyg.2 ⟨λz hz=>h.1 z (V' hz),ih h.2⟩
def TB(C:List Row)(c:Row)(k:Int):fe (gX C c) k=if c.key=k then some c.val else fe C k:=by
 unfold fe;induction C with
 | nil=>by_cases h:c.key=k<;>simp[gX,h]
 | cons y C ih=>
  unfold gX;split
  ·by_cases h1:y.key=k
   ·have:c.key≠k:=by omega
    simp[h1,this]
   simp only[xxx,h1,wwz];exact ih
  split
  ·rename_i he;by_cases h1:c.key=k
   ·simp[h1]
   have:y.key≠k:=by omega
   simp[h1,this]
  by_cases h1:c.key=k<;>simp[h1]
def TA{C:List Row}(hs:gi C)(k0 k:Int):fe (ka C k0) k=if k0=k then none else fe C k:=by
 unfold fe gi at *
 induction C with
 | nil=>simp[ka]
 | cons y C ih=>
  rw[yyg]at hs
  unfold ka;split
  ·rename_i he;by_cases h1:k0=k
   ·subst h1;have:C.find? (λc=>decide (c.key=k0))=none:=by
     rw[uu6];intro z hz;have:=hs.1 z hz;simp;omega
    simp[this]
   have:¬y.key=k:=by omega
   simp[h1,this]
  rename_i he;have J0:=ih hs.2;by_cases h1:y.key=k
  ·have:¬k0=k:=by omega
   simp[h1,this]
  simp only[xxx,h1,wwz];exact J0
def J'(C:List Row)(c:Row):(gX C c).length<=C.length+1:=by
 induction C with
 | nil=>simp[gX]
 | cons y C ih=>
  unfold gX;split
  ·simp;omega
  split<;>simp
def VS(C:List Row)(k:Int):(ka C k).length<=C.length:=by
 induction C with
 | nil=>exact zzi _
 | cons y C ih=>unfold ka;split<;>simp;omega
def cz9(t:Int)(C:List Row)(c:d_):(vu t C c).length<=C.length+1:=by
 unfold vu;have:=J' C ⟨c.key,c.val⟩;have:=VS C c.key;split
 ·split<;>omega
 omega
def cAa{l:List d_}:∀(C:List Row) (t:Int),(l.foldl (vu t) C).length<=C.length+l.length:=by
 induction l with
 | nil=>intro C t;simp
 | cons c l ih=>intro C t;have:=ih (vu t C c) t;have:=cz9 t C c;simp only[xxq,zzj];omega
def cne(k:Int)(cN:Nat):Nat:=(min (max k 0) (cN:Int)).toNat
set_option maxRecDepth 100000
open Go.RowKit
def qV(o:gx)(aw:Int):SP 322 [agg (jO o),Γ aw] [] (cE (.bool (kY o aw)) []):=by
 refine Enzz λW F w hS=>?_;apply cQu;delta aI a_ cP cz ai;refine zu hS λb w hS=>?_;unfold jO at hS;have hF:∀{w:Ζ},¬(1<=o.aw/\o.aw<=aw/\0<=o.table/\o.table<8/\1<=o.key/\o.key<=1099511627776/\o.val.size<=32)->SL W (.pt b [Γ o.aw,Γ o.table,Γ o.key,.bool o.gone,.string o.val] 389::F) w ->
   ∃post,cE (.bool (kY o aw)) [] (.bool false) post/\SL W (app post F) w:=λh hS=>⟨_,⟨by rw[show kY o aw=false by unfold kY;rw[xxc];exact λk=>h ⟨k.1,k.2.1,k.2.2.1,k.2.2.2.1,k.2.2.2.2.1,k.2.2.2.2.2.1,k.2.2.2.2.2.2.1⟩],rfl⟩,aR hS⟩
 (repeat (first|refine Gp ?_|refine Gw λw hS=>?_|refine za (λ_=>hF (by omega) hS) (λ_=>?_)|refine za (λ_=>?_) (λ_=>hF (by omega) hS)))
 have e:kY o aw=decide (o.gone=true->o.val=emp):=by
  unfold kY;rw[yyj];exact⟨λh=>h.2.2.2.2.2.2.2,λh=>⟨by omega,by omega,by omega,by omega,by omega,by omega,by omega,h⟩⟩
 rw[e];refine zy (λh=>?_) (λh=>?_)
 ·rw[h,zzo (by simp)];(exact cF hS)
 refine Gp ?_;rw[h];have e2:decide (true=true->o.val=emp)=decide (o.val={data:=#[]}):=by rw[yyj];exact⟨λh=>h rfl,λh _=>h⟩
 rw[e2];(exact cF hS)
def cCd(n:iC)(aw:Int){W w:Ζ}{F:Β}(hS:SL W F w):Hp (agg (kT n)) (Γ aw) w λv w'=>∃post,cE (.bool (jx n aw)) [] v post/\SL W (app post F) w':=by
 delta Hp aI a_ cz ai;refine zu hS λb w hS=>?_;unfold kT at hS;have hF:∀{w:Ζ},¬(1<=n.id/\n.id<=64/\((n.kind=1/\0<=n.table/\n.table<8/\1<=n.weight/\n.weight<=8/\1<=n.at_/\n.at_<=aw/\n.dG=0)\/(n.kind=2/\n.table=0/\n.weight=0/\n.at_=0/\0<=n.dG))) ->
   SL W (.pt b [Γ n.kind,Γ n.id,Γ n.table,Γ n.weight,Γ n.at_,Γ n.dG,.bool n.done] 392::F) w->∃post,cE (.bool (jx n aw)) [] (.bool false) post/\SL W (app post F) w:=λh hS=>⟨_,⟨by
    rw[show jx n aw=false by
     unfold jx;rw[xxc];rintro ⟨h1,h2,h3⟩;rcases h3 with h3|h3
     ·exact h ⟨h1,h2,.inl ⟨h3.1,h3.2.1,h3.2.2.1,h3.2.2.2.1,h3.2.2.2.2.1,h3.2.2.2.2.2.1,h3.2.2.2.2.2.2.1,h3.2.2.2.2.2.2.2.1⟩⟩
     exact h ⟨h1,h2,.inr ⟨h3.1,h3.2.1,h3.2.2.1,h3.2.2.2.1,h3.2.2.2.2.1⟩⟩],rfl⟩,aR hS⟩
 refine Gp ?_;refine za (λ_=>hF (by omega) hS) (λ_=>?_);refine Gp ?_;refine za (λ_=>hF (by omega) hS) (λ_=>?_);refine cA (λ_=>?_) (λ_=>?_)
 ·(repeat (first|refine Gp ?_|refine Gw λw hS=>?_|refine za (λ_=>hF (by omega) hS) (λ_=>?_)|refine za (λ_=>?_) (λ_=>hF (by omega) hS)))
  have e:jx n aw = !n.done:=by
   unfold jx;rw[uux,uug];cases n.done<;>simp<;>omega
  rw[e];(exact cF hS)
 (repeat (first|refine Gp ?_|refine Gw λw hS=>?_|refine za (λ_=>hF (by omega) hS) (λ_=>?_)|refine za (λ_=>?_) (λ_=>hF (by omega) hS)))
 have e:jx n aw=decide (n.dG<=1099511627776):=by
  unfold jx;rw[yyj];omega
 rw[e];(exact cF hS)
def YC(n:iC)(aw:Int):SP 323 [agg (kT n),Γ aw] [] (cE (.bool (jx n aw)) []):=λW F w hS=>cQv _ _ _ _ (cCd n aw hS)
def mW(c:d_)(k:Int):Bool:=decide (0<=c.table/\c.table<k/\1<=c.key/\c.key<=1099511627776/\c.val.size<=32/\(c.gone=true->c.val=emp))
def Gk{x:cJ}(h:¬(1<=x.aw/\x.aw<=1099511627776/\x.ops.length<=4096/\x.notes.length<=256)):eH x=false:=by
 unfold eH;rw[zz3 h];rfl
def cAw{x:cJ}{i:Nat}(hi:i<x.ops.length)(h:kY x.ops[i] x.aw=false):eH x=false:=by
 cases hm:eH x with
 | false=>rfl
 | true=>
  unfold eH at hm;rw[zzu,zzu,zz5]at hm
  rw[hm.1.2 _ (zzh hi)]at h;cases h
def cAx{x:cJ}{i:Nat}(hi:i<x.notes.length)(h:jx x.notes[i] x.aw=false):eH x=false:=by
 cases hm:eH x with
 | false=>rfl
 | true=>
  unfold eH at hm;rw[zzu,zzu,zz5,zz5]at hm
  rw[hm.2 _ (zzh hi)]at h;cases h
def cAy{x:cJ}(h:1<=x.aw/\x.aw<=1099511627776/\x.ops.length<=4096/\x.notes.length<=256)(h1:∀j (hj:j<x.ops.length),kY x.ops[j] x.aw=true)(h2:∀j (hj:j<x.notes.length),jx x.notes[j] x.aw=true):eH x=true:=by
 unfold eH;rw[zzu,zzu,zz5,zz5];refine⟨⟨zzo h,λo ho=>?_⟩,λn hn=>?_⟩
 ·obtain⟨j,hj,rfl⟩:=yyl ho;exact h1 j hj
 obtain⟨j,hj,rfl⟩:=yyl hn;exact h2 j hj
def zZ(H:bw)(x:iK)(t:cJ)(hx:ik H x t):SP 271 [agg (eU x)] [.mem H] (cE (.bool (eH t)) [.mem H]):=by
 refine Enzz λW F w hS=>?_;apply cPk;delta aI a_ cP cz ai cR;refine zu hS λxb w hS=>?_;unfold eU at hS;rw[hx.aw]at hS
 have hF:∀{w:Ζ},eH t=false->SL W (.pt xb [Γ t.aw,x.ov,x.nv] 240::.mem H::F) w->∃post,cE (.bool (eH t)) [.mem H] (.bool false) post/\SL W (app post F) w:=λh hS=>⟨_,⟨by rw[h],rfl⟩,aR hS⟩;refine Gp ?_;refine za (λh=>hF (Gk (by omega)) hS) (λh1=>?_);refine Gp ?_;refine za (λh=>hF (Gk (by omega)) hS) (λh2=>?_);refine Gp ?_;refine zo hx.ops ?_;refine Gp ?_;refine za (λh=>hF (Gk (by omega)) hS) (λh3=>?_);refine Gp ?_;refine zo hx.iX ?_;refine Gp ?_;refine za (λh=>hF (Gk (by omega)) hS) (λh4=>?_);refine Gp ?_;refine zo hx.ops ?_;refine⟨λvs w=>∃i:Nat,vs=[Γ i]/\i<=t.ops.length/\(∀j (hj:j<t.ops.length),j<i->kY t.ops[j] t.aw=true)/\SL W (.pt xb [Γ t.aw,x.ov,x.nv] 240::.mem H::F) w,
  λvs _=>match vs with|[.int _ i]=>(t.ops.length-i).toNat|_=>0,⟨0,rfl,by omega,λj hj h=>by omega,hS⟩,?_⟩
 clear hS;rintro v3 w ⟨i,eY,hi,eK,hS⟩;cases eY;refine cA (λh=>?_) (λh=>?_)
 ·have cG:i<t.ops.length:=by omega
  refine zF hS Xh xe hx.ops (x:=t.ops[i]) (by simp[cG]) cG ?_;refine Gm λb w hS=>?_;refine Cg (qV t.ops[i] t.aw) λw hS=>?_;refine zy (λh=>hF (cAw cG h) (aR hS)) (λh=>?_);refine Gp ?_;refine⟨⟨i+1,rfl,by omega,λj hj jk=>?_,aR hS⟩,by dsimp only;omega⟩;by_cases e:j=i
  ·subst e;exact h
  exact eK j hj (by omega)
 have jZ:i=t.ops.length:=by omega
 have ed:∀j (hj:j<t.ops.length),kY t.ops[j] t.aw=true:=λj hj=>eK j hj (by omega);clear eK;refine Gp ?_;refine zo hx.iX ?_;refine⟨λvs w=>∃i:Nat,vs=[Γ i]/\i<=t.notes.length/\(∀j (hj:j<t.notes.length),j<i->jx t.notes[j] t.aw=true)/\SL W (.pt xb [Γ t.aw,x.ov,x.nv] 240::.mem H::F) w,
  λvs _=>match vs with|[.int _ i]=>(t.notes.length-i).toNat|_=>0,⟨0,rfl,by omega,λj hj h=>by omega,aR hS⟩,?_⟩
 clear hS;rintro v5 w ⟨i,eY,hi,eK,hS⟩;cases eY;refine cA (λh=>?_) (λh=>?_)
 ·have cG:i<t.notes.length:=by omega
  refine zF hS Xh xd hx.iX (x:=t.notes[i]) (by simp[cG]) cG ?_;refine Gm λb w hS=>?_;refine Cg (YC t.notes[i] t.aw) λw hS=>?_;refine zy (λh=>hF (cAx cG h) (aR hS)) (λh=>?_);refine Gp ?_;refine⟨⟨i+1,rfl,by omega,λj hj jk=>?_,aR hS⟩,by dsimp only;omega⟩;by_cases e:j=i
  ·subst e;exact h
  exact eK j hj (by omega)
 rw[cAy (by omega) ed λj hj=>eK j hj (by omega)];(exact cF hS)
def wa(x:dK):Prop:=(x.kind=1/\0<=x.n/\x.n<1152921504606846976/\x.s=emp)\/(x.kind=2/\x.n=0/\x.s.size<=4096)
def wa.right{x:dK}(h:wa x):oU x=true:=by
 unfold oU;rcases h with ⟨h1,_,_,h2⟩|⟨h1,h2,h3⟩
 ·rw[zzd h1,h2];rfl
 rw[zzb (by omega),zzd h1,zzo h2,zzo h3];rfl
def Wu{n:Nat}(h:n<65536):ja (eZ n 2)=n:=by
 have f:∀k,((n:Int).fdiv (2 ^ (8*k)))=((n / 2 ^ (8*k):Nat):Int):=λk=>by
  have:=CQ n (2 ^ (8*k)) (Nat.two_pow_pos _);rw[<- this];push_cast;rfl
 unfold eZ eZ eZ;simp only[f,ja,xxq,ttm,Ka,show (2:Nat) ^ (8*1)=256 from rfl,show (2:Nat) ^ (8*0)=1 from rfl];omega
def SF:∀(l acc:List dK),(∀x∈l,wa x)->o_ acc l.length ⟨(l.map fD).flatten,0⟩= .ok (acc++l)
 | [],acc,_=>by
  rw[yy8,xx8,yym,bFi,zzb (by simp),zz2]
 | x::l,acc,h=>by
  have hx:=h x (.head _);have ih:=SF l (acc++[x]) λy hy=>h y (.tail _ hy);obtain⟨kind,n,s⟩:=x;rw[zzr,zz9,zzj];rcases hx with ⟨h1,h2,h3,h4⟩|⟨h1,h2,h3⟩
  ·have h1:kind=1:=h1;have h4:s=emp:=h4;subst h1 h4;obtain⟨m,rfl⟩:=wwi h2;have hm:m<1152921504606846976:=by have h3:(m:Int)<1152921504606846976:=h3;omega
   have e:fD ⟨1,(m:Int),emp⟩=gY 1::eZ (m:Int) 8:=by
    show gY 1::eZ ((m:Int) % 18446744073709551616) 8=_;rw[show (m:Int) % 18446744073709551616=(m:Int) by omega]
   have hl:=lV (m:Int) 8;rw[e,zzv,bFg (by decide),zzb (by rw[zza,hl];omega),uuy hl,uuz hl,Wv hm,sig,zzd (by omega)];rw[zzk]at ih
   exact ih
  have h1:kind=2:=h1;have h2:n=0:=h2;have h3:s.size<=4096:=h3;subst h1 h2;have e:fD ⟨2,0,s⟩=gY 2::(eZ (s.size:Nat) 2++s.data.toList):=rfl;have hl:=lV (s.size:Int) 2;have hs:s.data.toList.length=s.size:=rfl;rw[e,zzv,zzk,bFh (by decide),zzb (by rw[zza,hl];omega),uuy hl,uuz hl,Wu (by omega),zzb (by omega),
   zzb (by rw[zza,zza,hl];omega),uuy hs,uuz hs]
  rw[zzk]at ih
  exact ih
def Ii{l:List dK}(hl:l.length<=32767)(h:∀x∈l,wa x):oG l= .ok (eZ l.length 2++(l.map fD).flatten)/\jM (eZ l.length 2++(l.map fD).flatten)= .ok l:=by
 have h2:=lV (l.length:Int) 2;have hb:=Wu (n:=l.length) (by omega);refine⟨?_,?_⟩
 ·unfold oG;rw[zzb (by omega),zzd (zz5.2 λx hx=>(h x hx).right)]
 have ht:(eZ (l.length:Int) 2++(l.map fD).flatten).take 2=eZ l.length 2:=uuy h2;have hd:(eZ (l.length:Int) 2++(l.map fD).flatten).drop 2=(l.map fD).flatten:=uuz h2;rw[bFe (by rw[zza,h2];omega) (by rw[ht,hb];omega),ht,hd,hb,SF l [] h,zzq]
def oQ{x:cJ}:eH x=true↔(1<=x.aw/\x.aw<=1099511627776/\x.ops.length<=4096/\x.notes.length<=256)/\(∀o∈x.ops,kY o x.aw=true)/\∀n∈x.notes,jx n x.aw=true:=by
 unfold eH;rw[zzu,zzu,zzw,zz5,zz5,and_assoc]
def DO{o:gx}{aw:Int}:kY o aw=true↔1<=o.aw/\o.aw<=aw/\0<=o.table/\o.table<8/\1<=o.key/\o.key<=1099511627776/\o.val.size<=32/\(o.gone=true->o.val=emp):=by unfold kY;rw[zzw]
def DN{n:iC}{aw:Int}:jx n aw=true↔1<=n.id/\n.id<=64/\((n.kind=1/\0<=n.table/\n.table<8/\1<=n.weight/\n.weight<=8/\1<=n.at_/\n.at_<=aw/\n.dG=0/\n.done=false)\/(n.kind=2/\n.table=0/\n.weight=0/\n.at_=0/\0<=n.dG/\n.dG<=1099511627776)):=by unfold jx;rw[zzw]
def ER(b:Bool):0<=hU b/\hU b<=1:=by cases b<;>decide
def lR{n:Int}(h:0<=n/\n<=1099511627776):wa (iF n):=.inl ⟨rfl,h.1,by show n<_;omega,rfl⟩
def bRp{x:cJ}(h:eH x=true):∀f∈lh x,wa f:=by
 obtain⟨h0,ho,hn⟩:=oQ.1 h;intro f hf;unfold lh at hf;simp only[zz6,zz1,wwg,zzx,xxs,vv1]at hf;rcases hf with ((rfl|rfl)|⟨l,⟨o,Dn,rfl⟩,hf⟩)|rfl|⟨l,⟨n,rI,rfl⟩,hf⟩
 ·exact lR (by omega)
 ·exact lR (by omega)
 ·have h1:=DO.1 (ho o Dn);have hb:=ER o.gone;unfold pW at hf;simp only[zz1,xxs,vv1]at hf;rcases hf with rfl|rfl|rfl|rfl|rfl
  ·exact lR (by omega)
  ·exact lR (by omega)
  ·exact lR (by omega)
  ·exact lR (by omega)
  exact .inr ⟨rfl,rfl,by show o.val.size<=4096;omega⟩
 ·exact lR (by omega)
 have h1:=DN.1 (hn n rI);have hb:=ER n.done;unfold pV at hf;simp only[zz1,xxs,vv1]at hf;rcases hf with rfl|rfl|rfl|rfl|rfl|rfl|rfl<;>exact lR (by omega)
def AZ{α β:Type}{f:α->List β}{k:Nat}(h:∀x,(f x).length=k):∀l:List α,((l.map f).flatten).length=l.length*k
 | []=>by simp
 | x::l=>by rw[zzr,zz9,zza,h,AZ h l,zzj,Nat.succ_mul,uu2]
def bRq(x:cJ):(lh x).length=3+x.ops.length*5+x.notes.length*7:=by
 unfold lh;simp only[zza,zzj,yym];rw[AZ (f:=pW) (k:=5) (λ_=>rfl),AZ (f:=pV) (k:=7) (λ_=>rfl)];omega
def Is{x:cJ}(h:eH x=true):uw x= .ok (eZ (lh x).length 2++((lh x).map fD).flatten)/\jM (eZ (lh x).length 2++((lh x).map fD).flatten)= .ok (lh x):=by
 have hl:=bRq x;obtain⟨h0,_,_⟩:=oQ.1 h;obtain⟨e1,e2⟩:=Ii (l:=lh x) (by omega) (bRp h);exact⟨by unfold uw;rw[zzd h,e1],e2⟩
def pB{m n:Int}{l:List dK}(h:0<=n/\n<=m):dI m ⟨iF n::l,false⟩=(n,⟨l,false⟩):=by
 have e:fE ⟨iF n::l,false⟩=(n,⟨l,false⟩):=rfl;unfold dI;rw[e,zzb (by show ¬(n<0\/m<n);omega)]
def HW{b:Bool}{l:List dK}:ta ⟨iF (hU b)::l,false⟩=(b,⟨l,false⟩):=by
 unfold ta;rw[pB (ER b)];cases b<;>rfl
def cDa{o:gx}{l:List dK}(h:0<=o.table/\o.table<=8):om ⟨pW o++l,false⟩=(o,⟨l,false⟩):=by
 unfold om pW;have e1:fE ⟨[iF o.aw,iF o.table,iF o.key,iF (hU o.gone),tF o.val]++l,false⟩=(o.aw,⟨[iF o.table,iF o.key,iF (hU o.gone),tF o.val]++l,false⟩):=rfl;have e2:dI 8 ⟨[iF o.table,iF o.key,iF (hU o.gone),tF o.val]++l,false⟩=(o.table,⟨[iF o.key,iF (hU o.gone),tF o.val]++l,false⟩):=pB h;have e3:fE ⟨[iF o.key,iF (hU o.gone),tF o.val]++l,false⟩=(o.key,⟨[iF (hU o.gone),tF o.val]++l,false⟩):=rfl;have e4:ta ⟨[iF (hU o.gone),tF o.val]++l,false⟩=(o.gone,⟨[tF o.val]++l,false⟩):=HW;have e5:pC ⟨[tF o.val]++l,false⟩=(o.val,⟨l,false⟩):=rfl;simp only[e1,e2,e3,e4,e5]
def cCc{n:iC}{l:List dK}(h1:0<=n.kind/\n.kind<=2)(h2:0<=n.id/\n.id<=64)(h3:0<=n.table/\n.table<=8)(h4:0<=n.weight/\n.weight<=8):pz ⟨pV n++l,false⟩=(n,⟨l,false⟩):=by
 unfold pz pV;have e1:dI 2 ⟨[iF n.kind,iF n.id,iF n.table,iF n.weight,iF n.at_,iF n.dG,iF (hU n.done)]++l,false⟩=(n.kind,⟨[iF n.id,iF n.table,iF n.weight,iF n.at_,iF n.dG,iF (hU n.done)]++l,false⟩):=pB h1;have e2:dI 64 ⟨[iF n.id,iF n.table,iF n.weight,iF n.at_,iF n.dG,iF (hU n.done)]++l,false⟩=(n.id,⟨[iF n.table,iF n.weight,iF n.at_,iF n.dG,iF (hU n.done)]++l,false⟩):=pB h2;have e3:dI 8 ⟨[iF n.table,iF n.weight,iF n.at_,iF n.dG,iF (hU n.done)]++l,false⟩=(n.table,⟨[iF n.weight,iF n.at_,iF n.dG,iF (hU n.done)]++l,false⟩):=pB h3;have e4:dI 8 ⟨[iF n.weight,iF n.at_,iF n.dG,iF (hU n.done)]++l,false⟩=(n.weight,⟨[iF n.at_,iF n.dG,iF (hU n.done)]++l,false⟩):=pB h4;have e5:fE ⟨[iF n.at_,iF n.dG,iF (hU n.done)]++l,false⟩=(n.at_,⟨[iF n.dG,iF (hU n.done)]++l,false⟩):=rfl;have e6:fE ⟨[iF n.dG,iF (hU n.done)]++l,false⟩=(n.dG,⟨[iF (hU n.done)]++l,false⟩):=rfl;have e7:ta ⟨[iF (hU n.done)]++l,false⟩=(n.done,⟨l,false⟩):=HW;simp only[e1,e2,e3,e4,e5,e6,e7]
def Gi{α:Type}{one:dh->α × dh}{f:α->List dK}:∀(xs:List α) (l:List dK),(∀x∈xs,∀l,one ⟨f x++l,false⟩=(x,⟨l,false⟩))->jd one xs.length ⟨(xs.map f).flatten++l,false⟩=(xs,⟨l,false⟩)
 | [],l,_=>rfl
 | x::xs,l,h=>by
  have ih:=Gi xs l λy hy=>h y (.tail _ hy);have h1:=h x (.head _) ((xs.map f).flatten++l);rw[zzr,zz9,zzk,zzj,jd,zzb (by simp),h1,ih]
def czf{x:cJ}(h:eH x=true):oa ⟨lh x,false⟩=(x,⟨[],false⟩):=by
 obtain⟨h0,ho,hn⟩:=oQ.1 h;have e0:lh x=iF x.aw::(iF x.ops.length::((x.ops.map pW).flatten++(iF x.notes.length::((x.notes.map pV).flatten++[])))):=by
  unfold lh;simp
 rw[e0];unfold oa;have e1:∀l,fE ⟨iF x.aw::l,false⟩=(x.aw,⟨l,false⟩):=λl=>rfl;have e2:∀l,dI 4096 ⟨iF x.ops.length::l,false⟩=((x.ops.length:Int),⟨l,false⟩):=λl=>pB (by omega);have e3:∀l,jd om x.ops.length ⟨(x.ops.map pW).flatten++l,false⟩=(x.ops,⟨l,false⟩):=λl=>Gi x.ops l λo Dn l=>cDa (by have:=DO.1 (ho o Dn);omega);have e4:∀l,dI 256 ⟨iF x.notes.length::l,false⟩=((x.notes.length:Int),⟨l,false⟩):=λl=>pB (by omega);have e5:∀l,jd pz x.notes.length ⟨(x.notes.map pV).flatten++l,false⟩=(x.notes,⟨l,false⟩):=λl=>Gi x.notes l λn rI l=>by
  have:=DN.1 (hn n rI);exact cCc (by omega) (by omega) (by omega) (by omega)
 simp only[e1,e2,e3,e4,e5,zzz]
def SK{x:cJ}(h:eH x=true):∃b,uw x= .ok b/\nV b= .ok x:=by
 obtain⟨e1,e2⟩:=Is h;refine⟨_,e1,?_⟩;unfold nV;rw[e2];have e3:AQ (lh x)=some x:=by
  unfold AQ;rw[czf h];simp only;rw[zzd ⟨trivial,trivial,h⟩]
 simp only[e3]
def vx(n:Int):(fD (iF n)).length=9:=by
 show (gY 1::eZ (wC n) 8).length=9;rw[zzj,lV]
def uy{α β:Type}{f:α->List β}{k:Nat}:∀l:List α,(∀x∈l,(f x).length<=k)->((l.map f).flatten).length<=l.length*k
 | [],_=>by simp
 | x::l,h=>by
  have h1:=h x (.head _);have ih:=uy l λy hy=>h y (.tail _ hy);rw[zzr,zz9,zza,zzj,Nat.succ_mul];omega
def CI(l:List (List dK)):(l.flatten.map fD).flatten=(l.map λx=>(x.map fD).flatten).flatten:=by
 induction l with
 | nil=>rfl
 | cons x l ih=>simp only[zz9,zzt,yyy,zzr,ih]
def bIt{x:cJ}(h:eH x=true){b:Φ}(hb:uw x= .ok b):b.length<=29+x.ops.length*71+x.notes.length*63:=by
 obtain⟨h0,ho,hn⟩:=oQ.1 h;rw[(Is h).1]at hb
 cases hb;rw[zza,lV];unfold lh;simp only[zzt,zzr,yy8,yyy,zz9,xx8,zza,zz2,vx];rw[CI,CI,xxk,xxk];have k1:=uy (f:=(λx=>(x.map fD).flatten)∘pW) (k:=71) x.ops λo Dn=>by
  have:=(DO.1 (ho o Dn)).2.2.2.2.2.2.1;have e:(fD (tF o.val)).length=3+o.val.size:=by
   show (gY 2::(eZ (o.val.size:Nat) 2++o.val.data.toList)).length=_;rw[zzj,zza,lV];have:o.val.data.toList.length=o.val.size:=rfl;omega
  show (((pW o).map fD).flatten).length<=71;unfold pW;simp only[zzr,yy8,zz9,xx8,zza,yym,vx,e];omega
 have k2:=uy (f:=(λx=>(x.map fD).flatten)∘pV) (k:=63) x.notes λn rI=>by
  show (((pV n).map fD).flatten).length<=63;unfold pV;simp only[zzr,yy8,zz9,xx8,zza,yym,vx];omega
 omega

/- Part. -/
import Derived.Test.YthohmpdacdmclaaGreatDoorJ5
namespace Go.Proofs.YthohmpdacdmclaaGreatDoor
set_option linter.all false
open Go.RowKit Go.Proofs.Tryz
def vvp:=@Array.getElem?_modify
def vvu:=@Nat.pow_le_pow_right
def yyz:=@underlying9
def wwk:=@underlying5
def yy6:=@List.map_nil
def zz8:=@List.mem_singleton
def uuh:=@Bool.true_and
def uu9:=@Bool.false_and
def zze:=@List.take_succ_eq_append_getElem
def xxk:=@List.map_singleton
def yye:=@decide_eq_decide
def xxr:=@decide_eq_false_iff_not
def ww9:=@Bool.eq_iff_iff
def vv4:=@decide_eq_true_iff
def yyh:=@List.getElem_of_mem
def xxs:=@Int.eq_ofNat_of_zero_le
def xxp:=@List.take_left'
def xx0:=@List.drop_left'
section
variable {W w:Ζ} {l:Β} {P:Program}
def WX{t:Ι}{s:Η}{j:Nat}{k:IntKind}{K:Ε->Prop}(ht:P.underlying t=some .string)(hj:j<s.size)(h:K (.int .u8 (s[j]).toNat)):dP P (Instr.index t (.string s) (.int k (j:Int))) w K:=by
 refine⟨_,?_,h⟩;have:s[j]?=some s[j]:=by simp[hj]
 simp[Instr.index,asIntOf,zzu ht,Result.andThen,this]
def YN{src dst e:Ι}{b:Nat}{n:Int}{cap:Nat}{t:Ι}{K:Ε->Prop}(hS:SL W l w)(hm:Has (.pt b [.int .u8 n] t) l)(h1:P.underlying src=some (.slice e))(h2:P.underlying dst=some .string)(h3:P.underlying e=some (.int .u8))
  (h:K (.string ⟨#[UInt8.ofNat n.toNat]⟩)):dP P (convert src dst (.slice (some ⟨b,0,none⟩) 1 cap)) w K:=by
 refine⟨_,?_,h⟩;have hc:w.cell? ⟨b,0,none⟩=some (.int .u8 n):=hS.cell hm rfl;have hl:(loadCells ⟨b,0,none⟩ 1).run P w= .ok ([n].map (Value.int .u8)).toArray w:=by
  refine ww3 (P:=P) (w:=w) ⟨b,0,none⟩ [.int .u8 n] (λj v hj=>?_)
  match j,hj with
  | 0,hj=>
   simp at hj;subst hj;rw[zz9];exact hc
 have:=run_bytesToString (P:=P) w ⟨b,0,none⟩ 1 cap [n] hl;simp[convert,zzu h1,zzu h2,zzu h3,Result.andThen,this];rfl
def QT{a b:Η}{K:Ε->Prop}(hr:a.size+b.size<=1000000)(h:K (.string (a++b))):zc .add (.string a) (.string b) K:=by
 refine⟨_,?_,h⟩;have hm:IntKind.i64.max=9223372036854775807:=by decide
 simp only[iJ];rw[zzb (by rw[hm];omega)]
end
set_option maxRecDepth 100000
def cU(bs:Φ):Η:=⟨bs.toArray⟩
def Rh{a b:Φ}:cU a=cU b↔a=b:=by
 constructor
 ·intro h;have:=yyp ByteArray.data h;exact List.toArray_inj this
 rintro rfl;rfl
def ma(a:Φ):(cU a).size=a.length:=by simp[cU,ByteArray.size]
def fold_push:∀(bs:Φ) (s:Η),(bs.map λb=>(b.toNat:Int)).foldl (λr n=>r.push (UInt8.ofNat n.toNat)) s=⟨s.data++bs.toArray⟩
 | [],s=>by cases s;simp
 | b::bs,s=>by
  simp only[zzp,xxo];rw[fold_push bs];cases s;simp[ByteArray.push]
section
variable {W w:Ζ} {l:Β} {P:Program}
def Zd{src dst e:Ι}{v:Ε}{bs:Φ}{K:Ε->Prop}(hv:∃a n c,v= .slice a n c)(gK:jw w 1 v bs.length (bs.map bU))(h1:P.underlying src=some (.slice e))(h2:P.underlying dst=some .string)(h3:P.underlying e=some (.int .u8))
  (h:K (.string (cU bs))):dP P (convert src dst v) w K:=by
 refine⟨_,?_,h⟩;obtain⟨a,n,c,rfl⟩:=hv;rw[run_convert_bytes_string w src dst e a n c h1 h3 h2];cases a with
 | none=>
  obtain⟨e1,e2⟩:=gK;have:bs=[]:=by simpa using e2
  subst this;rfl
 | some p=>
  obtain⟨e1,e2,e3⟩:=gK;subst e1;have hl:(loadCells p bs.length).run P w= .ok ((bs.map λb=>(b.toNat:Int)).map (Value.int .u8)).toArray w:=by
   have h4:=ww3 (P:=P) (w:=w) p (bs.map bU) e3;rw[zzv]at h4
   rw[h4,xxh];rfl
  rw[run_bytesToString w p bs.length c _ hl,fold_push];simp[cU]
def A8{a b:Η}{K:Ε->Prop}(hr:a.size+b.size<=9223372036854775807)(h:K (.string (a++b))):zc .add (.string a) (.string b) K:=by
 refine⟨_,?_,h⟩;have hm:IntKind.i64.max=9223372036854775807:=by decide
 simp only[iJ];rw[zzb (by rw[hm];omega)]
def cn.Jn{H:a_}{sz n:Nat}{v:Ε}{cells:Ξ}(h:cn H sz v n cells):∃a n c,v= .slice a n c:=by
 obtain⟨_,a,cap,rfl,_,_⟩:=h;exact⟨_,_,_,rfl⟩
end
def SL.mark{W w:Ζ}{l l':Β}{b n:Nat}{cs:Ξ}{t:Ι}(h:SL W l w)(u:fg (.pt b cs t) (.pt b cs t) l l')(hn:cs.length=n):SL W l' (w.freeze {block:=b,off:=n} 1):=by
 obtain⟨f,hf,e⟩:=h.pD u.has;obtain⟨x,y⟩:=f;refine h.ri (b:=b) (o':=.cells cs.toArray t (if x == y then (n,n+1) else (min x n,max y (n+1)))) u ?_ ⟨_,?_,rfl⟩ ?_ ?_ rfl rfl rfl
 ·rintro k ⟨f,_,rfl⟩;exact⟨_,rfl⟩
 ·rcases hf with hf|hf
  ·simp only at hf;subst hf;rw[zzc (by simp)];right;simp only;omega
  simp only at hf;split
  ·right;simp only;omega
  right;simp only;omega
 ·show (w.heap.modify b _)[b]?=_;rw[vvp];simp[e]
 intro z hz;show (w.heap.modify b _)[z]?=_;rw[vvp,zzb (by omega)]
abbrev mD(rp:Nat)(r:iH)(v:Ε):Μ:=.pt rp [v,Γ r.e] 129
def VP(n:Nat)(r:iH):(fT n r).1.length<=n/\(fT n r).1.length<=r.b.length/\(fT n r).2.b.length<=r.b.length:=by
 unfold fT;split
 ·simp
 split
 ·simp
 simp only[zzf,zzq];omega
def aid(X:Μ)(rp n:Nat)(r:iH)(u:Ε)(post:Β):Prop:=∃v',cK X u (fT n r).1/\cK X v' (fT n r).2.b/\post=[mD rp (fT n r).2 v',X]
def YI(X:Μ)(rp n:Nat)(v:Ε)(r:iH)(hv:cK X v r.b):SP 99 [Δ rp,Γ n] [mD rp r v,X] (aid X rp n r):=by
 refine Enzz λW F w hS=>?_;apply bJ6;delta aI bh bS ai bc;have s3:=hv.one hS Xh;refine⟨λvs w=>vs=[]/\∃e,e=(if r.e=0/\r.b.length<n then 2 else r.e)/\SL W (.pt rp [v,Γ e] 129::X::F) w,?_,?_⟩
 ·refine bj (λh=>?_) (λh=>?_)
  ·refine Gp ?_;refine yt hS Xh hv ?_;refine bj (λh2=>?_) (λh2=>?_)
   ·refine Gn λw hS=>?_;exact⟨2,by rw[zzc ⟨h,by omega⟩],hS⟩
   refine⟨rfl,_,rfl,?_⟩;rw[zzb (by omega)];exact hS
  refine⟨rfl,_,rfl,?_⟩;rw[zzb (by omega)];exact hS
 rintro w ⟨_,e,he,hS⟩;refine Gp ?_;by_cases h1:r.e=0
 ·by_cases h2:r.b.length<n
  ·rw[zzc ⟨h1,h2⟩]at he
   subst he;refine Υ ?_;have e1:fT n r=([],{r with e:=2}):=by unfold fT;rw[zzb (by simp[h1]),zzc h2]
   refine⟨_,⟨v,?_,?_,rfl⟩,?_⟩
   ·rw[e1];exact cK.nil
   ·rw[e1];exact hv
   rw[e1];exact hS
  rw[zzb (by omega),h1]at he
  subst he;refine Χ ?_;have e1:fT n r=(r.b.take n,{r with b:=r.b.drop n}):=by unfold fT;rw[zzb (by simp[h1]),zzb h2]
  refine Gp ?_;refine WU hS Xh hv (by omega) ?_;intro u hu;refine Gp ?_;refine WV hS Xh hv (by omega) ?_;intro v' pe;have bL9:=pe.one hS Xh;refine Gn λw hS=>?_;refine⟨_,⟨v',?_,?_,rfl⟩,?_⟩
  ·rw[e1];exact hu
  ·rw[e1];exact pe
  rw[e1];simp only[h1];exact hS
 rw[zzb (by omega)]at he
 subst he;refine za (λ_=>?_) (λh=>absurd h1 h);have e1:fT n r=([],r):=by unfold fT;rw[zzc h1]
 refine⟨_,⟨v,?_,?_,rfl⟩,?_⟩
 ·rw[e1];exact cK.nil
 ·rw[e1];exact hv
 rw[e1];exact hS
def brw{a b:Nat}(ha:a<18446744073709551616)(hb:b<18446744073709551616):iJ .or (.int .u64 (a:Int)) (.int .u64 (b:Int))=some (.int .u64 ((a ||| b:Nat):Int)):=by
 have h:(a ||| b)<18446744073709551616:=Nat.or_lt_two_pow (n:=64) ha hb;simp only[iJ,ww0];congr 2;have e1:(BitVec.ofInt IntKind.u64.bits (a:Int))=BitVec.ofNat 64 a:=vvt 64 a;have e2:(BitVec.ofInt IntKind.u64.bits (b:Int))=BitVec.ofNat 64 b:=vvt 64 b;rw[e1,e2];have e3:(BitVec.ofNat 64 a ||| BitVec.ofNat 64 b).toNat=a ||| b:=by
  rw[BitVec.toNat_or,vv3,vv3,wwp (by omega),wwp (by omega)]
 show IntKind.u64.wrap (((BitVec.ofNat 64 a ||| BitVec.ofNat 64 b).toNat:Nat):Int)=_;rw[e3,wrap_u64 (by omega) (by omega)]
def bxu{x:Nat}{c:Κ}{K:Ε->Prop}(h:K (.int .u64 (((x*256+c.toNat) % 18446744073709551616:Nat):Int))):
  zc .shl (.int .u64 (x:Int)) (.int .u64 8) λv=>zM .u64 (bU c) λy=>zc .or v y K:=by
 have hc:=c.toNat_lt;refine⟨.int .u64 (((x*256) % 18446744073709551616:Nat):Int),?_,?_⟩
 ·show (if (8:Int)<0 then none else some (Value.int .u64 (IntKind.u64.wrap ((x:Int)*2 ^ (min (8:Int).toNat IntKind.u64.bits)))))=_;rw[zzb (by omega)];congr 2
 refine zT ?_;rw[wrap_u64 (by omega) (by omega)];refine⟨_,brw (by omega) (by omega),?_⟩;have e:(x*256) % 18446744073709551616=((x*256) % 18446744073709551616 / 256) <<< 8:=by rw[uu1];omega
 have e2:(x*256) % 18446744073709551616 ||| c.toNat=(x*256+c.toNat) % 18446744073709551616:=by
  rw[e,<- Nat.shiftLeft_add_eq_or_of_lt (show c.toNat<2 ^ 8 by omega),uu1];omega
 rw[e2];exact h
def Ra{b:Φ}{i:Nat}(h:i<b.length):h_ (b.take (i+1))=(h_ (b.take i)*256+b[i].toNat) % 18446744073709551616:=by
 rw[show b.take (i+1)=b.take i++[b[i]] by rw[wwx];simp[h]];exact aRo _ _ _ rfl
def aie(X:Μ)(rp n:Nat)(r:iH)(u:Ε)(post:Β):Prop:=∃v',u= .int .u64 ((eU n r).1:Nat)/\cK X v' (eU n r).2.b/\post=[mD rp (eU n r).2 v',X]
def Zx(X:Μ)(rp n:Nat)(v:Ε)(r:iH)(hv:cK X v r.b)(hn:n<=1000):SP 98 [Δ rp,Γ n] [mD rp r v,X] (aie X rp n r):=by
 refine Enzz λW F w hS=>?_;apply bJ5;delta aI ai;refine Cc (YI X rp n v r hv) ?_;clear hS;rintro u post ⟨v',hu,pe,rfl⟩ w hS;(try simp only[app]at hS);have hl:=VP n r;refine yt hS Xh hu ?_;refine⟨λvs w=>∃i:Nat,i<=(fT n r).1.length/\vs=[.int .u64 (h_ ((fT n r).1.take i):Nat),Γ i]/\SL W (mD rp (fT n r).2 v'::X::F) w,λvs _=>match vs with
  | [_,.int _ i]=>(fT n r).1.length-i.toNat
  | _=>0,⟨0,by omega,rfl,hS⟩,?_⟩
 rintro v1 v2 w1 ⟨i,hi,hv,hS⟩;cases hv;refine bj (λh=>?_) (λh=>?_)
 ·have hi:i<(fT n r).1.length:=by omega
  refine yX hS Xh hu hi ?_;refine bxu ?_;refine Gp ?_;refine⟨⟨i+1,by omega,?_,hS⟩,?_⟩
  ·rw[Ra hi]
  simp only[zzw];omega
 have:(fT n r).1.take i=(fT n r).1:=zzz (by omega);rw[this];exact⟨_,⟨v',rfl,pe,rfl⟩,hS⟩
def Q_:∀(n:Nat) (b:Φ),b.length=n->h_ b<256 ^ n
 | 0,b,h=>by
  have:b=[]:=zzl h;subst this;decide
 | n+1,b,h=>by
  have h1:=Q_ n (b.take n) (by rw[zzf];omega);have h2:=Ra (b:=b) (i:=n) (by omega);rw[zzz (by omega)]at h2
  have hc:=(b[n]'(by omega)).toNat_lt;have h3:=Nat.mod_le (h_ (b.take n)*256+(b[n]'(by omega)).toNat) 18446744073709551616;rw[h2,Nat.pow_succ];omega
def JO(n:Nat)(r:iH):(eU n r).1<256 ^ n:=by
 have h1:=Q_ _ _ (rfl:(fT n r).1.length=_);have h2:=(VP n r).1;exact Nat.lt_of_lt_of_le h1 (vvu (by omega) h2)
def aic(X:Μ)(rp m:Nat)(r:iH)(u:Ε)(post:Β):Prop:=∃v',u= Γ ((fS m r).1:Nat)/\cK X v' (fS m r).2.b/\post=[mD rp (fS m r).2 v',X]
def YG(X:Μ)(rp m:Nat)(v:Ε)(r:iH)(hv:cK X v r.b)(hm:m<=100000):SP 66 [Δ rp,Γ m] [mD rp r v,X] (aic X rp m r):=by
 refine Enzz λW F w hS=>?_;apply bI9;delta aI bS ai;refine Cc (Zx X rp 2 v r hv (by omega)) ?_;clear hS;rintro u post ⟨v',rfl,pe,rfl⟩ w hS;(try simp only[app]at hS);have b9:=JO 2 r;refine yz (by omega) ?_;refine bj (λh=>?_) (λh=>?_)
 ·refine Gn λw hS=>?_;have e:fS m r=(0,{(eU 2 r).2 with e:=3}):=by unfold fS;rw[zzc (by omega)]
  refine⟨_,⟨v',?_,?_,rfl⟩,?_⟩
  ·rw[e];rfl
  ·rw[e];exact pe
  rw[e];exact hS
 have e:fS m r=eU 2 r:=by unfold fS;rw[zzb (by omega)]
 refine⟨_,⟨v',?_,?_,rfl⟩,?_⟩
 ·rw[e]
 ·rw[e];exact pe
 rw[e];exact hS
def bqe(m:Nat)(r:iH):(fS m r).1<=m:=by
 unfold fS;split
 ·exact zz6 _
 rename_i h;exact wwq.1 h
def bzb{n:Nat}(h:n<18446744073709551616):IntKind.i64.wrap (n:Int)=sig n:=by
 rw[IntKind.wrap_i64,sig];split<;>omega
def Z'(X:Μ)(rp:Nat)(r:iH)(u:Ε)(post:Β):Prop:=∃v',u= .agg (fo (gv r).1).toArray/\cK X v' (gv r).2.b/\post=[mD rp (gv r).2 v',X]
def Qv(X:Μ)(rp:Nat)(v:Ε)(r:iH)(hv:cK X v r.b):SP 67 [Δ rp] [mD rp r v,X] (Z' X rp r):=by
 refine Enzz λW F w hS=>?_;apply bJa;delta aI bh bS ai bK;refine Gm λb w hS=>?_;refine Cc (Zx X rp 1 v r hv (by omega)) ?_;clear hS;rintro u post ⟨v1,rfl,pX,rfl⟩ w hS;(try simp only[app]at hS);have b9:=JO 1 r;refine yz (by omega) ?_;refine bj (λh=>?_) (λh=>?_)
 ·refine Cc (Zx X rp 8 v1 (eU 1 r).2 pX (by omega)) ?_;clear hS;rintro u post ⟨v2,rfl,s5,rfl⟩ w hS;(try simp only[app]at hS);have bLy:=JO 8 (eU 1 r).2;refine zT ?_;rw[bzb (by omega),h];have e:gv r=(⟨1,sig (eU 8 (eU 1 r).2).1,⟨#[]⟩⟩,(eU 8 (eU 1 r).2).2):=by
   unfold gv;rw[zzc (by omega)]
  refine Gn λw hS=>?_;refine⟨[mD rp (gv r).2 v2,X],⟨v2,?_,?_,rfl⟩,?_⟩
  ·rw[e];rfl
  ·rw[e];exact s5
  rw[e];exact aR hS
 refine bj (λh2=>?_) (λh2=>?_)
 ·refine Cc (YG X rp 4096 v1 (eU 1 r).2 pX (by omega)) ?_;clear hS;rintro u post ⟨v2,rfl,s5,rfl⟩ w hS;(try simp only[app]at hS);refine Cc (YI X rp (fS 4096 (eU 1 r).2).1 v2 (fS 4096 (eU 1 r).2).2 s5) ?_;clear hS;rintro u post ⟨v3,hu,hv3,rfl⟩ w hS;(try simp only[app]at hS);obtain⟨au,cu,eu,_⟩:=hu.sl hS Xh;refine Zd ⟨_,_,_,eu⟩ (hu.src hS Xh) xxt yyz wwk ?_;rw[h2];have e:gv r=(⟨2,0,cU (fT (fS 4096 (eU 1 r).2).1 (fS 4096 (eU 1 r).2).2).1⟩,(fT (fS 4096 (eU 1 r).2).1 (fS 4096 (eU 1 r).2).2).2):=by
   unfold gv cU;rw[zzb (by omega),zzc (by omega)]
  refine Gn λw hS=>?_;refine⟨[mD rp (gv r).2 v3,X],⟨v3,?_,?_,rfl⟩,?_⟩
  ·rw[e];rfl
  ·rw[e];exact hv3
  rw[e];exact aR hS
 refine Gp ?_;have e:gv r=(uY,if (eU 1 r).2.e=0 then {(eU 1 r).2 with e:=3} else (eU 1 r).2):=by
  unfold gv;rw[zzb (by omega),zzb (by omega)]
 refine za (λh3=>?_) (λh3=>?_)
 ·rw[zzc h3]at e
  refine Gn λw hS=>?_;refine⟨[mD rp (gv r).2 v1,X],⟨v1,?_,?_,rfl⟩,?_⟩
  ·rw[e];rfl
  ·rw[e];exact pX
  rw[e];exact aR hS
 rw[zzb h3]at e
 refine Gn λw hS=>?_;refine⟨[mD rp (gv r).2 v1,X],⟨v1,?_,?_,rfl⟩,?_⟩
 ·rw[e];rfl
 ·rw[e];exact pX
 rw[e];exact aR hS
def B7(x:cA):(fo x).length=3:=rfl
def sI(r:iH):Int:=if r.e=0 then if 0<r.b.length then 3 else 0 else r.e
def Ht(b:Φ):gJ b=if sI (gw (fS 32767 ⟨b,0⟩).1 (fS 32767 ⟨b,0⟩).2).2=0 then .ok (gw (fS 32767 ⟨b,0⟩).1 (fS 32767 ⟨b,0⟩).2).1 else .error (sI (gw (fS 32767 ⟨b,0⟩).1 (fS 32767 ⟨b,0⟩).2).2):=rfl
def uH(X:Μ)(b:Φ)(u:Ε)(post:Β):Prop:=match gJ b with
 | .error e=>u= .tuple #[Θ,Γ e]/\post=[X]
 | .ok l=>∃v,u= .tuple #[v,Γ 0]/\post=[.ob (bd v 70 3 l.length (l.map fo).flatten),X]
def Sw(x:cA):∀v∈fo x,v.oneCell'=true:=λv hv=>by
 simp only[fo,yya,yy5,vvb]at hv;rcases hv with rfl|rfl|rfl<;>rfl
def yq(X:Μ)(v:Ε)(b:Φ)(hv:cK X v b):SP 29 [v] [X] (uH X b):=by
 refine Enzz λW F w hS=>?_;apply bHa;delta aI bh bS bg bk ai bK bc;obtain⟨a0,c0,rfl,_⟩:=hv.sl hS .hd;refine yW rfl ?_;refine⟨_,rfl,zD hS ?_⟩;clear hS;intro rp w hS;generalize hm:fS 32767 ⟨b,0⟩=m;refine⟨λvs w=>∃u v',vs=[u]/\cK X v' (gw m.1 m.2).2.b/\SL W (.ob (bd u 70 3 (gw m.1 m.2).1.length ((gw m.1 m.2).1.map fo).flatten)::mD rp (gw m.1 m.2).2 v'::X::F) w,?_,?_⟩
 ·have hS:SL W (mD rp ⟨b,0⟩ (.slice a0 b.length c0)::X::F) w:=hS;refine Cc (YG X rp 32767 _ ⟨b,0⟩ hv (by omega)) ?_;clear hS;rintro u post ⟨v1,rfl,pX,rfl⟩ w hS;(try simp only[app]at hS);rw[hm]at hS pX ⊢
  have hle:m.1<=32767:=by rw[<- hm];exact bqe _ _
  have hS:=bd.nil (t:=70) (sz:=3) hS;refine⟨λvs w=>∃(u v':Ε) (xs:List cA) (i:Nat) (r:iH),vs=[u,Γ i]/\xs.length+i=m.1/\gw m.1 m.2=(xs++(gw i r).1,(gw i r).2)/\cK X v' r.b/\SL W (.ob (bd u 70 3 xs.length (xs.map fo).flatten)::mD rp r v'::X::F) w,λvs _=>match vs with
   | [_,.int _ i]=>i.toNat
   | _=>0,⟨_,v1,[],m.1,m.2,rfl,by simp,by simp,pX,hS⟩,?_⟩
  rintro u1 u2 w1 ⟨u,v',xs,i,r,hv,hx,hf,hr,hS⟩;cases hv;refine bj (λh=>?_) (λh=>?_)
  ·refine Gp ?_;obtain⟨j,rfl⟩:∃j,i=j+1:=⟨i-1,by omega⟩;refine za (λh2=>?_) (λh2=>?_)
   ·refine Cc (Qv X rp v' r hr) ?_;clear hS;rintro u5 post ⟨v2,rfl,s5,rfl⟩ w hS;(try simp only[app]at hS);refine zR (cells:=fo (gv r).1) hS rfl ?_;clear hS;intro p w hS;refine zL (m:=1) (cs:=fo (gv r).1) hS Xr (jx hS .hd rfl) rfl rfl (Sw _) (by omega) (by omega) ?_;clear hS;intro u' w hS;refine Gp ?_;have e:((j+1:Nat):Int)-1=(j:Int):=by omega
    rw[e];refine⟨⟨u',v2,xs++[(gv r).1],j,(gv r).2,rfl,by simp;omega,?_,s5,?_⟩,?_⟩
    ·rw[hf];have:gw (j+1) r=((gv r).1::(gw j (gv r).2).1,(gw j (gv r).2).2):=by
      show (if r.e=0 then _ else _)=_;rw[zzc h2]
     rw[this];simp
    ·simp only[zza,zzi,yyw,zzr,zzp,yy6,yyq,zz2,wwj,zz3];exact aR hS
    simp only[zzw];omega
   have:gw (j+1) r=([],r):=by
    show (if r.e=0 then _ else _)=_;rw[zzb h2]
   rw[this,zz3]at hf
   refine⟨u1,v',rfl,?_,?_⟩
   ·rw[hf];exact hr
   rw[hf];exact hS
  obtain rfl:i=0:=by omega
  have:gw 0 r=([],r):=rfl;rw[this,zz3]at hf
  refine⟨u1,v',rfl,?_,?_⟩
  ·rw[hf];exact hr
  rw[hf];exact hS
 rintro u5 w ⟨u,v',hu,pe,hS⟩;obtain rfl:u5=u:=(List.cons.inj hu).1;have hd:=Ht b;rw[hm]at hd
 generalize (gw m.1 m.2).2=r at *
 generalize (gw m.1 m.2).1=xs at *
 refine⟨λvs w=>vs=[]/\SL W (.ob (bd u5 70 3 xs.length (xs.map fo).flatten)::.pt rp [v',Γ (sI r)] 129::X::F) w,?_,?_⟩
 ·refine bj (λh=>?_) (λh=>?_)
  ·refine Gp ?_;refine yt hS Xh pe ?_;refine bj (λh2=>?_) (λh2=>?_)
   ·refine Gn λw hS=>?_;have e:sI r=3:=by unfold sI;rw[zzc h,zzc (by omega)]
    rw[e];exact hS
   have e:sI r=r.e:=by unfold sI;rw[zzc h,zzb (by omega),h]
   rw[e];exact⟨rfl,hS⟩
  have e:sI r=r.e:=by unfold sI;rw[zzb h]
  rw[e];exact⟨rfl,hS⟩
 rintro w ⟨_,hS⟩;refine bj (λh=>?_) (λh=>?_)
 ·refine Gn λw hS=>?_;rw[zzb h]at hd
  refine⟨[X],?_,aR hS⟩;unfold uH;rw[hd];exact⟨rfl,rfl⟩
 have h:sI r=0:=by omega
 rw[zzc h]at hd
 refine⟨[.ob (bd u5 70 3 xs.length (xs.map fo).flatten),X],?_,aR hS⟩;unfold uH;rw[hd];exact⟨u5,rfl,rfl⟩
def bxw{a:Int}{n:Nat}{k:IntKind}(hn:n<=64){K:Ε->Prop}(h:K (.int .u64 (a.fdiv (2 ^ n)))):zc .shr (.int .u64 a) (.int k (n:Int)) K:=by
 refine⟨.int .u64 (a.fdiv (2 ^ n)),?_,h⟩;have h1:¬((n:Int)<0):=by omega
 simp only[iJ,h1,wwt];rw[show min (n:Int).toNat IntKind.u64.bits=n by simp only[IntKind.bits];omega]
def Zw(b:Φ)(v:Ε)(x:Int)(n:Nat)(hn:n<=8)(hb:b.length<=140737488355000):SP 27 [v,.int .u64 x,Γ n] [.ob (bd v 5 1 b.length (b.map bU))] (λu post=>post=[.ob (bd u 5 1 (b++cR x n).length ((b++cR x n).map bU))]):=by
 refine Enzz λW F w hS=>?_;apply bGp;delta aI ai;refine Gp ?_;refine⟨λvs w=>∃(u:Ε) (c:Φ) (k:Nat),vs=[u,Γ ((k:Int)-1)]/\k<=n/\c++cR x k=b++cR x n/\SL W (.ob (bd u 5 1 c.length (c.map bU))::F) w,λvs _=>match vs with
  | [_,.int _ i]=>(i+1).toNat
  | _=>0,⟨v,b,n,rfl,zzj _,rfl,hS⟩,?_⟩
 rintro u1 u2 w1 ⟨u,c,k,hv,hk,hc,hS⟩;cases hv;refine bj (λh=>?_) (λh=>?_)
 ·obtain⟨j,rfl⟩:∃j,k=j+1:=⟨k-1,by omega⟩;have e0:((j+1:Nat):Int)-1=(j:Int):=by omega
  rw[e0];refine bxo (by omega) ?_;have e1:(8:Int)*(j:Int)=((8*j:Nat):Int):=by omega
  rw[e1];refine bxw (by omega) ?_;refine zT ?_;rw[wrap_u8];refine zR (cells:=[bU (fx (x.fdiv (2 ^ (8*j))))]) hS rfl ?_;clear hS;intro p w hS;have mR:c.length+(j+1)=b.length+n:=by
   have:=yyp List.length hc;simpa [ie] using this
  refine zL (m:=1) (cs:=[bU (fx (x.fdiv (2 ^ (8*j))))]) hS Xr (jx hS .hd rfl) rfl rfl (by intro v hv;simp only[zz8]at hv;subst hv;rfl) (by omega) (by omega) ?_;clear hS;intro u' w hS;refine Gp ?_;refine⟨⟨u',c++[fx (x.fdiv (2 ^ (8*j)))],j,rfl,by omega,?_,?_⟩,?_⟩
  ·rw[<- hc];simp[cR]
  ·simp only[zza,zzi,yyw,zzr,zzp,yy6];exact aR hS
  show ((j:Int)-1+1).toNat<((j:Int)+1).toNat;omega
 obtain rfl:k=0:=by omega
 have e:c=b++cR x n:=by simpa [cR] using hc
 rw[e]at hS
 exact⟨_,rfl,hS⟩
def qL(x:cA):SP 28 [.agg (fo x).toArray] [] (bA (.bool (nQ x)) []):=by
 refine Enzz λW F w hS=>?_;apply bGz;delta aI aW br ai;refine⟨fo x,rfl,?_⟩;unfold fo;refine Gm λb w hS=>?_;unfold nQ;refine za (λh=>?_) (λh=>?_)
 ·rw[zzc h];refine Gp ?_;have e:decide (x.s=({data:=#[]}:Η))=decide (x.s=⟨#[]⟩):=rfl;exact bw hS
 rw[zzb h];refine bj (λh2=>?_) (λh2=>?_)
 ·rw[zzc h2];refine bj (λh3=>?_) (λh3=>?_)
  ·refine Gp ?_;rw[zzm h3,uuh];have e:decide ((x.s.size:Int)<=4096)=decide (x.s.size<=4096):=by congr 1;exact propext ⟨λ_=>by omega,λ_=>by omega⟩
   rw[e];exact bw hS
  rw[zzx h3,uu9];exact bw hS
 rw[zzb h2];exact bw hS
def qO{P:Program}{t:Ι}{fs:Array Field}{f:Field}{i:Nat}{vs:Ξ}{v:Ε}{w:Ζ}{K:Ε->Prop}(ht:P.underlying t=some (.struct fs))(hf:fs[i]?=some f)(ha:∀w,(isAgg f.type).run P w= .ok false w)(hv:vs[f.offset]?=some v)(h:K v):
  dP P (Instr.field t (.agg vs.toArray) i) w K:=by
 refine⟨_,?_,h⟩;simp[Instr.field,asAgg,zzu ht,Result.andThen,hf,part,ha,hv]
def Si(x:cA):∀v∈fo x,v.oneCell'=true:=Sw x
def HL(x:cA):(fo x).length=3:=rfl
def yG(b:Nat)(ns:Ω)(t:Ι)(hn:ns.length<=1000):
  SP 13 [.slice (some ⟨b,0,none⟩) ns.length ns.length] [.pt b (ns.map (Value.int .i64)) t] (λu post=>post=[.ob (bd u 70 3 ns.length ((ns.map iF).map fo).flatten)]):=by
 refine Enzz λW F w hS=>?_;apply bC3;delta aI ai bK bc;have hS:=bd.nil (t:=70) (sz:=3) hS;refine Gp ?_;refine⟨λvs w=>∃(i:Nat) (u:Ε),vs=[u,Γ i]/\i<=ns.length/\SL W (.ob (bd u 70 3 i (((ns.take i).map iF).map fo).flatten)::.pt b (ns.map (Value.int .i64)) t::F) w,
  λvs _=>match vs with|[_,.int _ i]=>(ns.length-i).toNat|_=>0,⟨0,_,rfl,by omega,hS⟩,?_⟩
 clear hS;rintro u v8 w ⟨i,_,dq,hi,hS⟩;cases dq;refine bj (λh=>?_) (λh=>?_)
 ·have bn:i<ns.length:=by omega
  refine zI bn (zV hS Xh (v:=Γ ns[i]) (by simp[bn]) ?_);refine Gm λb w hS=>?_;refine yf (n:=i) (xs:=(ns.take i).map iF) (y:=iF ns[i]) (enc:=fo) hS Xr Xh HL Si rfl (by omega) (by omega) λv2 w hS=>?_;refine Gp ?_;refine⟨⟨i+1,_,rfl,by omega,?_⟩,by dsimp only;omega⟩;rw[zze bn,zzr (f:=iF),xxk];exact aR hS
 have:i=ns.length:=by omega
 subst this;rw[zz0]at hS
 exact⟨_,rfl,aR hS⟩
def yj(s:Η):SP 64 [.string s] [] (bA (agg (fo (tF s))) []):=by
 refine Enzz λW F w hS=>?_;apply bI7;delta ai bK;refine Gm λb w hS=>?_;(exact bw hS)
def y2(b:Bool):SP 65 [.bool b] [] (bA (Γ (fV b)) []):=by
 refine Enzz λW F w hS=>?_;apply bI8;delta ai;cases b<;>(repeat (first|refine Gp ?_|refine Gw λw hS=>?_|refine Gb λb w hS=>?_))<;>(exact bw hS)
def dc(rp:Nat)(r:bP):zC:=iX λv:Ε=>zF True [.pt rp [v,.bool r.bad] 132,.ob (cz v 70 3 r.l.length (r.l.map fo).flatten)]
def dc.iff{W w:Ζ}{rp:Nat}{r:bP}{l:Β}:SL W (.ob (dc rp r)::l) w↔∃v,SL W (.pt rp [v,.bool r.bad] 132::.ob (cz v 70 3 r.l.length (r.l.map fo).flatten)::l) w:=by
 unfold dc;simp only[SL.ex,SL.fact,zzn,zzo,uus]
def yQ(v:Ε)(l:List cA):SP 30 [v] [.ob (bd v 70 3 l.length (l.map fo).flatten)] (λu post=>∃rp:Nat,u= Δ rp/\post=[.ob (dc rp ⟨l,false⟩)]):=by
 refine Enzz λW F w hS=>?_;apply bHi;delta bc;have h1:=bd.one hS;obtain⟨a,c,rfl,_⟩:=bd.at hS .hd;refine Gp ?_;refine zx hS λb w hS=>?_;refine⟨_,⟨b,rfl,rfl⟩,(dc.iff (r:=⟨l,false⟩)).2 ⟨.slice a l.length c,?_⟩⟩;exact (cz.of (hS.perm (.swap _ _ _))).perm (.swap _ _ _)
def Z7(rp:Nat)(r:bP)(k:Int):SP 100 [Δ rp,Γ k] [.ob (dc rp r)] (bA (agg (fo (pk k r).1)) [.ob (dc rp (pk k r).2)]):=by
 obtain⟨l,bad⟩:=r;refine Enzz λW F w hS=>?_;apply bB9;delta aI bh aW bS DT ai bK;obtain⟨v,hS⟩:=dc.iff.1 hS;simp only at hS;refine Gm λb w hS=>?_;cases bad with
 | true=>
  refine Gn λw hS=>?_;have e:pk k ⟨l,true⟩=(uY,⟨l,true⟩):=by unfold pk;rfl
  rw[e];exact⟨_,⟨rfl,rfl⟩,dc.iff.2 ⟨v,aR hS⟩⟩
 | false=>
  refine Gp ?_;refine zO hS (v:=v) Xh ?_;refine Gp ?_;cases l with
  | nil=>
   refine za (λh=>?_) (λh=>absurd rfl h);refine Gn λw hS=>?_;rw[show pk k ⟨[],false⟩=(uY,⟨[],true⟩) from rfl];exact⟨_,⟨rfl,rfl⟩,dc.iff.2 ⟨v,aR hS⟩⟩
  | cons f l=>
   refine za (λh=>by rw[zzi]at h;omega) (λh=>?_);refine Gp ?_;refine y3 (j:=0) (k:=.i64) hS (v:=v) Xh (by simp) λab ao hb=>yI ⟨_,Γ f.kind,rfl,hb 0 _ (by decide) rfl,?_⟩;refine bj (λhk=>?_) (λhk=>?_)
   ·refine Gn λw hS=>?_;have e:pk k ⟨f::l,false⟩=(uY,⟨f::l,true⟩):=by unfold pk;exact zzb hk
    rw[e];exact⟨_,⟨rfl,rfl⟩,dc.iff.2 ⟨v,aR hS⟩⟩
   refine Gp ?_;refine qP (j:=0) (k:=.i64) hS (v:=v) (enc:=fo) (xs:=f::l) Xh HL rfl (by simp) ?_;refine Gm λb w hS=>?_;refine Yd (k:=1) (v:=v) (Has.front hS Xr) (by simp) λu hS=>?_;have hS:SL W (.ob (cz u 70 3 l.length (l.map fo).flatten)::_) _:=hS;have h1:=cz.one hS .hd;refine Gn λw hS=>?_;have e:pk k ⟨f::l,false⟩=(f,⟨l,false⟩):=by unfold pk;exact zzc (Classical.not_not.1 hk)
   rw[e];exact⟨_,⟨rfl,rfl⟩,dc.iff.2 ⟨u,aR hS⟩⟩
def zG(rp:Nat)(r:bP):SP 68 [Δ rp] [.ob (dc rp r)] (bA (Γ (dM r).1) [.ob (dc rp (dM r).2)]):=by
 refine Enzz λW F w hS=>?_;apply bJb;delta ai;refine Cg (Z7 rp r 1) λw hS=>?_;exact qO underlying70 rfl (λw=>by kernel_rfl) rfl ⟨_,⟨rfl,rfl⟩,hS⟩
def zZ(rp:Nat)(r:bP):SP 101 [Δ rp] [.ob (dc rp r)] (bA (.string (j6 r).1) [.ob (dc rp (j6 r).2)]):=by
 refine Enzz λW F w hS=>?_;apply bCa;delta ai;refine Cg (Z7 rp r 2) λw hS=>?_;exact qO underlying70 rfl (λw=>by kernel_rfl) rfl ⟨_,⟨rfl,rfl⟩,hS⟩
def dc.bad{W w:Ζ}{rp:Nat}{r:bP}{l:Β}(v:Ε)(h:SL W (.pt rp [v,.bool true] 132::.ob (cz v 70 3 r.l.length (r.l.map fo).flatten)::l) w):SL W (.ob (dc rp {r with bad:=true})::l) w:=dc.iff.2 ⟨v,h⟩
def zp(rp:Nat)(r:bP)(m:Int):SP 31 [Δ rp,Γ m] [.ob (dc rp r)] (bA (Γ (bN m r).1) [.ob (dc rp (bN m r).2)]):=by
 refine Enzz λW F w hS=>?_;apply bHn;delta aI bS ai;refine Cg (zG rp r) λw hS=>?_;have hB:((dM r).1<0\/m<(dM r).1)->bN m r=(0,{(dM r).2 with bad:=true}):=λh=>zzc h;have hG:¬((dM r).1<0\/m<(dM r).1)->bN m r=dM r:=λh=>zzb h;refine za (λh=>?_) (λh=>?_)
 ·rw[hB (.inl h)];obtain⟨v,hS⟩:=dc.iff.1 hS;refine Gn λw hS=>?_;exact⟨_,⟨rfl,rfl⟩,dc.bad v hS⟩
 refine bj (λh2=>?_) (λh2=>?_)
 ·rw[hB (.inr h2)];obtain⟨v,hS⟩:=dc.iff.1 hS;refine Gn λw hS=>?_;exact⟨_,⟨rfl,rfl⟩,dc.bad v hS⟩
 rw[hG (by omega)];(exact bw hS)
def yP(rp:Nat)(r:bP):SP 102 [Δ rp] [.ob (dc rp r)] (bA (.bool (rA r).1) [.ob (dc rp (rA r).2)]):=by
 refine Enzz λW F w hS=>?_;apply bCb;delta ai;refine Cg (zp rp r 1) λw hS=>?_;exact⟨_,⟨rfl,rfl⟩,hS⟩
def yO(rp:Nat)(r:bP):SP 32 [Δ rp] [.ob (dc rp r)] (bA (.bool (!r.bad)) [.ob (dc rp r)]):=by
 refine Enzz λW F w hS=>?_;apply bHu;delta bh;obtain⟨v,hS⟩:=dc.iff.1 hS;refine Gp ?_;exact⟨_,⟨rfl,rfl⟩,dc.iff.2 ⟨v,hS⟩⟩
def yN(rp:Nat)(r:bP):SP 34 [Δ rp] [.ob (dc rp r)] (bA (.bool (decide (r.bad=false/\r.l=[]))) [.ob (dc rp r)]):=by
 refine Enzz λW F w hS=>?_;apply bH5;delta bh bJ br ai;obtain⟨v,hS⟩:=dc.iff.1 hS;refine Gp ?_;obtain⟨l,bad⟩:=r;cases bad with
 | true=>
  refine zq ?_;rw[zzx (by simp)];exact⟨_,⟨rfl,rfl⟩,dc.iff.2 ⟨v,hS⟩⟩
 | false=>
  refine zu ?_;refine Gp ?_;refine zO hS (v:=v) Xh ?_;refine Gp ?_;have e:decide ((l.length:Int)=0)=decide ((bP.mk l false).bad=false/\(bP.mk l false).l=[]):=by
   rw[yye];simp
  rw[e];exact⟨_,⟨rfl,rfl⟩,dc.iff.2 ⟨v,hS⟩⟩
def DN(C:List Cell):Prop:=C.Pairwise (λa b=>a.key<b.key)
def u7(C:List Cell)(k:Int):Option Cell:=C.find? (λc=>decide (c.key=k))
def lS:List Cell->Cell->List Cell
 | [],c=>[c]
 | x::C,c=>if x.key<c.key then x::lS C c else if x.key=c.key then c::C else c::x::C
def cellOf(o:fB):Cell:=⟨o.key,o.aw,o.gone,if o.gone then ⟨#[]⟩ else o.val⟩
def p8(C:List Cell)(o:fB):List Cell × Bool:=match u7 C o.key with
 | some c=>if o.aw<c.aw then (C,false) else (lS C (cellOf o),true)
 | none=>(lS C (cellOf o),true)
def kP(ts:List (List Cell))(o:fB):List (List Cell) × Bool:=
 if o.table<0 then (ts,false) else match ts[o.table.toNat]? with
 | some C=>(ts.set o.table.toNat (p8 C o).1,(p8 C o).2)
 | none=>(ts,false)
def ep:List (List Cell)->List fB->List (List Cell) × Nat
 | ts,[]=>(ts,0)
 | ts,o::l=>((ep (kP ts o).1 l).1,(if (kP ts o).2 then 1 else 0)+(ep (kP ts o).1 l).2)
theorem Vz{C:List Cell}{c x:Cell}(h:x∈lS C c):x=c\/x∈C:=by
 induction C with
 | nil=>simpa [lS] using h
 | cons y C ih=>
  grind [lS]
theorem bzu{C:List Cell}(h:DN C)(c:Cell):DN (lS C c):=by
 unfold DN at *
 induction C with
 | nil=>simp[lS]
 | cons y C ih=>
  rw[yyi]at h
  unfold lS;split
  ·rename_i b9;refine yyi.2 ⟨λz hz=>?_,ih h.2⟩
   grind [Vz]
  split
  ·rename_i he;exact yyi.2 ⟨λz hz=>by have:=h.1 z hz;omega,h.2⟩
  rename_i h1 h2;refine yyi.2 ⟨λz hz=>?_,yyi.2 h⟩
  grind
def bf9(C:List Cell)(c:Cell)(k:Int):u7 (lS C c) k=if c.key=k then some c else u7 C k:=by
 unfold u7;induction C with
 | nil=>by_cases h:c.key=k<;>simp[lS,h]
 | cons y C ih=>
  grind [lS]
theorem bnm(C:List Cell)(c:Cell):(lS C c).length<=C.length+1:=by
 induction C with
 | nil=>simp[lS]
 | cons y C ih=>
  grind [lS]
def Ws{ts:List (List Cell)}{t:Nat}{o:fB}(h:o.table=t)(ht:t<ts.length):kP ts o=(ts.set t (p8 ts[t] o).1,(p8 ts[t] o).2):=by
 grind [kP]
def FY(ts:List (List Cell))(o:fB):(kP ts o).1.length=ts.length:=by
 grind [kP]
def J8(l:List fB):∀ts,(ep ts l).1.length=ts.length:=by
 induction l with
 | nil=>intro ts;rfl
 | cons o l ih=>intro ts;simp only[ep];rw[ih,FY]
def btn(l:List fB):∀ts,(ep ts l).2<=l.length:=by
 induction l with
 | nil=>intro ts;simp[ep]
 | cons o l ih=>intro ts;simp only[ep,zzi];have:=ih (kP ts o).1;split<;>omega
def btm(l l':List fB):∀ts,ep ts (l++l')=((ep (ep ts l).1 l').1,(ep ts l).2+(ep (ep ts l).1 l').2):=by
 induction l with
 | nil=>intro ts;simp[ep]
 | cons o l ih=>intro ts;simp only[zzn,ep,ih];simp only[vvy]
def small(ts:List (List Cell))(k:Nat):Prop:=∀C∈ts,C.length+k<=1000000
theorem btw(C:List Cell)(o:fB):(p8 C o).1.length<=C.length+1:=by
 grind [p8,bnm]
def bzj{ts:List (List Cell)}{k:Nat}{o:fB}(h:small ts (k+1)):small (kP ts o).1 k:=by
 unfold kP;split
 ·intro C hC;have:=h C hC;omega
 split
 ·rename_i C0 h0;intro C hC;rcases List.mem_or_eq_of_mem_set hC with hC|rfl
  ·have:=h C hC;omega
  have:=h C0 (xxu h0)
  grind [btw]
 intro C hC;have:=h C hC;omega
def W7{ts:List (List Cell)}{j k:Nat}(h:small ts k)(hj:j<=k):small ts j:=λC hC=>by have:=h C hC;omega
def bzh{l:List fB}:∀{ts:List (List Cell)} {k:Nat},small ts (k+l.length)->small (ep ts l).1 k:=by
 induction l with
 | nil=>intro ts k h;simpa [ep] using h
 | cons o l ih=>intro ts k h;exact ih (bzj (by rw[zzi]at h;rw[vvy];exact h))
def kJ(n:Int):Prop:=-9223372036854775808<=n/\n<=9223372036854775807
def AY(C:List Cell):Prop:=DN C/\∀c∈C,kJ c.key
def sh(ts:List (List Cell)):Prop:=∀C∈ts,AY C
def brb{C:List Cell}{o:fB}(h:AY C)(ho:kJ o.key):AY (p8 C o).1:=by
 grind [AY,cellOf,bzu,Vz,p8]
def V3{ts:List (List Cell)}{o:fB}(h:sh ts)(ho:kJ o.key):sh (kP ts o).1:=by
 unfold kP;split
 ·exact h
 split
 ·rename_i C0 h0;intro C hC;rcases List.mem_or_eq_of_mem_set hC with hC|rfl
  ·exact h C hC
  exact brb (h C0 (xxu h0)) ho
 exact h
def brf{l:List fB}:∀{ts:List (List Cell)},sh ts->(∀o∈l,kJ o.key)->sh (ep ts l).1:=by
 induction l with
 | nil=>intro ts h _;exact h
 | cons o l ih=>intro ts h ho;exact ih (V3 h (ho o (.head _))) (λo' h'=>ho o' (.tail _ h'))
structure rr(m:List (Int × Cell))(C:List Cell):Prop where
 get:∀k,fD m k=u7 C k
 nodup:(m.map (·.1)).Nodup
def bo4{α:Type}(m:List (Int × α))(k:Int)(v:α)(k':Int):fD (fN m k v) k'=if k=k' then some v else fD m k':=by
 induction m with
 | nil=>by_cases h:k=k'<;>simp[fN,fD,h]
 | cons p m ih=>
  grind [fN,fD]
theorem bo1{α:Type}{m:List (Int × α)}{k:Int}{v:α}{x:Int}(h:x∈(fN m k v).map (·.1)):x=k\/x∈m.map (·.1):=by
 induction m with
 | nil=>simpa [fN] using h
 | cons p m ih=>
  grind [fN]
def bqr{α:Type}{m:List (Int × α)}(h:(m.map (·.1)).Nodup)(k:Int)(v:α):((fN m k v).map (·.1)).Nodup:=by
 induction m with
 | nil=>simp[fN]
 | cons p m ih=>
  grind [fN,bo1]
def rr.put{m:List (Int × Cell)}{C:List Cell}(h:rr m C)(c:Cell):rr (fN m c.key c) (lS C c):=
 ⟨λk=>by rw[bo4,bf9,h.get],bqr h.nodup _ _⟩
def rr.nil:rr [] []:=⟨λk=>rfl,by simp⟩
structure da where
 table:Int
 key:Int
 gone:Bool
 val:Η
deriving DecidableEq
structure bD where
 aw:Int
 kind:Int
 changes:List da
 signals:Ψ
 mark:Int
def eM(c:da):Ξ:=[Γ c.table,Γ c.key,.bool c.gone,.string c.val]
def pF(c:da):(eM c).length=4:=rfl
def HB(c:da):∀v∈eM c,v.oneCell'=true:=by simp[eM,Value.oneCell']
structure l_ where
 aw:Int
 kind:Int
 cv:Ε
 sv:Ε
 mark:Int
def eb(x:l_):Ξ:=[Γ x.aw,Γ x.kind,x.cv,x.sv,Γ x.mark]
structure lE(H:a_)(x:l_)(t:bD):Prop where
 aw:x.aw=t.aw
 kind:x.kind=t.kind
 mark:x.mark=t.mark
 cv:cn H 4 x.cv t.changes.length (t.changes.map eM).flatten
 sv:cn H 1 x.sv t.signals.length (t.signals.map Value.string)
def ff(C:List Row):Prop:=C.Pairwise (λa b=>a.key<b.key)
def dL(C:List Row)(k:Int):Option Η:=(C.find? (λc=>decide (c.key=k))).map (·.val)
def fZ:List Row->Row->List Row
 | [],c=>[c]
 | x::C,c=>if x.key<c.key then x::fZ C c else if x.key=c.key then c::C else c::x::C
def jo:List Row->Int->List Row
 | [],_=>[]
 | x::C,k=>if x.key=k then C else x::jo C k
def kz(C:List Row)(c:da):List Row:=if c.gone then jo C c.key else fZ C ⟨c.key,c.val⟩
def uQ(t:Int)(C:List Row)(c:da):List Row:=if c.table=t then (if c.gone then jo C c.key else fZ C ⟨c.key,c.val⟩) else C
def wB(t:Int)(l:List bD):List Row:=(l.flatMap (·.changes)).foldl (uQ t) []
theorem VA{C:List Row}{c x:Row}(h:x∈fZ C c):x=c\/x∈C:=by
 induction C with
 | nil=>simpa [fZ] using h
 | cons y C ih=>
  grind [fZ]
def Kj{C:List Row}(h:ff C)(c:Row):ff (fZ C c):=by
 unfold ff at *
 induction C with
 | nil=>simp[fZ]
 | cons y C ih=>
  rw[yyi]at h
  unfold fZ;split
  ·rename_i b9;refine yyi.2 ⟨λz hz=>?_,ih h.2⟩
   grind [VA]
  split
  ·rename_i he;exact yyi.2 ⟨λz hz=>by have:=h.1 z hz;omega,h.2⟩
  rename_i h1 h2;refine yyi.2 ⟨λz hz=>?_,yyi.2 h⟩
  grind
def Vy{C:List Row}{k:Int}{x:Row}(h:x∈jo C k):x∈C:=by
 induction C with
 | nil=>exact h
 | cons y C ih=>
  grind [jo]
def Xd{C:List Row}(h:ff C)(k:Int):ff (jo C k):=by
 unfold ff at *
 induction C with
 | nil=>exact h
 | cons y C ih=>
  rw[yyi]at h
  unfold jo;split
  ·exact h.2
  exact yyi.2 ⟨λz hz=>h.1 z (Vy hz),ih h.2⟩
def SX(C:List Row)(c:Row)(k:Int):dL (fZ C c) k=if c.key=k then some c.val else dL C k:=by
 unfold dL;induction C with
 | nil=>by_cases h:c.key=k<;>simp[fZ,h]
 | cons y C ih=>
  grind [fZ]
def SV{C:List Row}(hs:ff C)(k0 k:Int):dL (jo C k0) k=if k0=k then none else dL C k:=by
 unfold dL ff at *
 induction C with
 | nil=>simp[jo]
 | cons y C ih=>
  rw[yyi]at hs
  grind [jo]
theorem Jt(C:List Row)(c:Row):(fZ C c).length<=C.length+1:=by
 induction C with
 | nil=>simp[fZ]
 | cons y C ih=>
  grind [fZ]
theorem U_(C:List Row)(k:Int):(jo C k).length<=C.length:=by
 induction C with
 | nil=>exact zzj _
 | cons y C ih=>unfold jo;split<;>simp;omega
def bnk(t:Int)(C:List Row)(c:da):(uQ t C c).length<=C.length+1:=by
 grind [uQ,Jt,U_]
def bnl{l:List da}:∀(C:List Row) (t:Int),(l.foldl (uQ t) C).length<=C.length+l.length:=by
 induction l with
 | nil=>intro C t;simp
 | cons c l ih=>intro C t;have:=ih (uQ t C c) t;have:=bnk t C c;simp only[xxo,zzi];omega
def bhy(k:Int)(bI:Nat):Nat:=(min (max k 0) (bI:Int)).toNat
set_option maxRecDepth 100000
open Go.RowKit
def qI(o:fB)(aw:Int):SP 276 [agg (iR o),Γ aw] [] (bA (.bool (jT o aw)) []):=by
 refine Enzz λW F w hS=>?_;apply bGv;delta aI aW bJ br ai;refine zx hS λb w hS=>?_;unfold iR at hS;have hF:∀{w:Ζ},¬(1<=o.aw/\o.aw<=aw/\0<=o.table/\o.table<8/\1<=o.key/\o.key<=1099511627776/\o.val.size<=32)->SL W (.pt b [Γ o.aw,Γ o.table,Γ o.key,.bool o.gone,.string o.val] 354::F) w ->
   ∃post,bA (.bool (jT o aw)) [] (.bool false) post/\SL W (app post F) w:=λh hS=>⟨_,⟨by rw[show jT o aw=false by unfold jT;rw[xxr];exact λk=>h ⟨k.1,k.2.1,k.2.2.1,k.2.2.2.1,k.2.2.2.2.1,k.2.2.2.2.2.1,k.2.2.2.2.2.2.1⟩],rfl⟩,aR hS⟩
 (repeat (first|refine Gp ?_|refine Gw λw hS=>?_|refine za (λ_=>hF (by omega) hS) (λ_=>?_)|refine za (λ_=>?_) (λ_=>hF (by omega) hS)))
 have e:jT o aw=decide (o.gone=true->o.val=emp):=by
  unfold jT;rw[yye];exact⟨λh=>h.2.2.2.2.2.2.2,λh=>⟨by omega,by omega,by omega,by omega,by omega,by omega,by omega,h⟩⟩
 rw[e];refine zw (λh=>?_) (λh=>?_)
 ·rw[h,zzm (by simp)];(exact bw hS)
 refine Gp ?_;rw[h];have e2:decide (true=true->o.val=emp)=decide (o.val={data:=#[]}):=by rw[yye];exact⟨λh=>h rfl,λh _=>h⟩
 rw[e2];(exact bw hS)
def bqu(n:gF)(aw:Int){W w:Ζ}{F:Β}(hS:SL W F w):GP (agg (jP n)) (Γ aw) w λv w'=>∃post,bA (.bool (iD n aw)) [] v post/\SL W (app post F) w':=by
 delta GP aI aW br ai;refine zx hS λb w hS=>?_;unfold jP at hS;have hF:∀{w:Ζ},¬(1<=n.id/\n.id<=64/\((n.kind=1/\0<=n.table/\n.table<8/\1<=n.weight/\n.weight<=8/\1<=n.at_/\n.at_<=aw/\n.cG=0)\/(n.kind=2/\n.table=0/\n.weight=0/\n.at_=0/\0<=n.cG))) ->
   SL W (.pt b [Γ n.kind,Γ n.id,Γ n.table,Γ n.weight,Γ n.at_,Γ n.cG,.bool n.done] 357::F) w->∃post,bA (.bool (iD n aw)) [] (.bool false) post/\SL W (app post F) w:=λh hS=>⟨_,⟨by
    rw[show iD n aw=false by
     unfold iD;rw[xxr];rintro ⟨h1,h2,h3⟩;rcases h3 with h3|h3
     ·exact h ⟨h1,h2,.inl ⟨h3.1,h3.2.1,h3.2.2.1,h3.2.2.2.1,h3.2.2.2.2.1,h3.2.2.2.2.2.1,h3.2.2.2.2.2.2.1,h3.2.2.2.2.2.2.2.1⟩⟩
     exact h ⟨h1,h2,.inr ⟨h3.1,h3.2.1,h3.2.2.1,h3.2.2.2.1,h3.2.2.2.2.1⟩⟩],rfl⟩,aR hS⟩
 refine Gp ?_;refine za (λ_=>hF (by omega) hS) (λ_=>?_);refine Gp ?_;refine za (λ_=>hF (by omega) hS) (λ_=>?_);refine bj (λ_=>?_) (λ_=>?_)
 ·(repeat (first|refine Gp ?_|refine Gw λw hS=>?_|refine za (λ_=>hF (by omega) hS) (λ_=>?_)|refine za (λ_=>?_) (λ_=>hF (by omega) hS)))
  have e:iD n aw = !n.done:=by
   unfold iD;rw[ww9,vv4];cases n.done<;>simp<;>omega
  rw[e];(exact bw hS)
 (repeat (first|refine Gp ?_|refine Gw λw hS=>?_|refine za (λ_=>hF (by omega) hS) (λ_=>?_)|refine za (λ_=>?_) (λ_=>hF (by omega) hS)))
 have e:iD n aw=decide (n.cG<=1099511627776):=by
  unfold iD;rw[yye];omega
 rw[e];(exact bw hS)
def Yq(n:gF)(aw:Int):SP 277 [agg (jP n),Γ aw] [] (bA (.bool (iD n aw)) []):=λW F w hS=>bGw _ _ _ _ (bqu n aw hS)
def kN(c:da)(k:Int):Bool:=decide (0<=c.table/\c.table<k/\1<=c.key/\c.key<=1099511627776/\c.val.size<=32/\(c.gone=true->c.val=emp))
def FF{x:bB}(h:¬(1<=x.aw/\x.aw<=1099511627776/\x.ops.length<=4096/\x.notes.length<=256)):du x=false:=by
 unfold du;rw[zzx h];rfl
def boe{x:bB}{i:Nat}(hi:i<x.ops.length)(h:jT x.ops[i] x.aw=false):du x=false:=by
 cases hm:du x with
 | false=>rfl
 | true=>
  unfold du at hm;rw[zzs,zzs,zz7]at hm
  rw[hm.1.2 _ (zzk hi)]at h;cases h
def bof{x:bB}{i:Nat}(hi:i<x.notes.length)(h:iD x.notes[i] x.aw=false):du x=false:=by
 cases hm:du x with
 | false=>rfl
 | true=>
  unfold du at hm;rw[zzs,zzs,zz7,zz7]at hm
  rw[hm.2 _ (zzk hi)]at h;cases h
def bog{x:bB}(h:1<=x.aw/\x.aw<=1099511627776/\x.ops.length<=4096/\x.notes.length<=256)(h1:∀j (hj:j<x.ops.length),jT x.ops[j] x.aw=true)(h2:∀j (hj:j<x.notes.length),iD x.notes[j] x.aw=true):du x=true:=by
 unfold du;rw[zzs,zzs,zz7,zz7];refine⟨⟨zzm h,λo ho=>?_⟩,λn hn=>?_⟩
 ·obtain⟨j,hj,rfl⟩:=yyh ho;exact h1 j hj
 obtain⟨j,hj,rfl⟩:=yyh hn;exact h2 j hj
def zW(H:a_)(x:gO)(t:bB)(hx:gn H x t):SP 231 [agg (dD x)] [.mem H] (bA (.bool (du t)) [.mem H]):=by
 refine Enzz λW F w hS=>?_;apply bFr;delta aI aW bJ br ai bK;refine zx hS λxb w hS=>?_;unfold dD at hS;rw[hx.aw]at hS
 have hF:∀{w:Ζ},du t=false->SL W (.pt xb [Γ t.aw,x.ov,x.nv] 236::.mem H::F) w->∃post,bA (.bool (du t)) [.mem H] (.bool false) post/\SL W (app post F) w:=λh hS=>⟨_,⟨by rw[h],rfl⟩,aR hS⟩;refine Gp ?_;refine za (λh=>hF (FF (by omega)) hS) (λh1=>?_);refine Gp ?_;refine za (λh=>hF (FF (by omega)) hS) (λh2=>?_);refine Gp ?_;refine zn hx.ops ?_;refine Gp ?_;refine za (λh=>hF (FF (by omega)) hS) (λh3=>?_);refine Gp ?_;refine zn hx.g_ ?_;refine Gp ?_;refine za (λh=>hF (FF (by omega)) hS) (λh4=>?_);refine Gp ?_;refine zn hx.ops ?_;refine⟨λvs w=>∃i:Nat,vs=[Γ i]/\i<=t.ops.length/\(∀j (hj:j<t.ops.length),j<i->jT t.ops[j] t.aw=true)/\SL W (.pt xb [Γ t.aw,x.ov,x.nv] 236::.mem H::F) w,
  λvs _=>match vs with|[.int _ i]=>(t.ops.length-i).toNat|_=>0,⟨0,rfl,by omega,λj hj h=>by omega,hS⟩,?_⟩
 clear hS;rintro v3 w ⟨i,dq,hi,dh,hS⟩;cases dq;refine bj (λh=>?_) (λh=>?_)
 ·have bn:i<t.ops.length:=by omega
  refine zB hS Xh wx hx.ops (x:=t.ops[i]) (by simp[bn]) bn ?_;refine Gm λb w hS=>?_;refine Cg (qI t.ops[i] t.aw) λw hS=>?_;refine zw (λh=>hF (boe bn h) (aR hS)) (λh=>?_);refine Gp ?_;refine⟨⟨i+1,rfl,by omega,λj hj gZ=>?_,aR hS⟩,by dsimp only;omega⟩;by_cases e:j=i
  ·subst e;exact h
  exact dh j hj (by omega)
 have gh:i=t.ops.length:=by omega
 have cZ:∀j (hj:j<t.ops.length),jT t.ops[j] t.aw=true:=λj hj=>dh j hj (by omega);clear dh;refine Gp ?_;refine zn hx.g_ ?_;refine⟨λvs w=>∃i:Nat,vs=[Γ i]/\i<=t.notes.length/\(∀j (hj:j<t.notes.length),j<i->iD t.notes[j] t.aw=true)/\SL W (.pt xb [Γ t.aw,x.ov,x.nv] 236::.mem H::F) w,
  λvs _=>match vs with|[.int _ i]=>(t.notes.length-i).toNat|_=>0,⟨0,rfl,by omega,λj hj h=>by omega,aR hS⟩,?_⟩
 clear hS;rintro v5 w ⟨i,dq,hi,dh,hS⟩;cases dq;refine bj (λh=>?_) (λh=>?_)
 ·have bn:i<t.notes.length:=by omega
  refine zB hS Xh wu hx.g_ (x:=t.notes[i]) (by simp[bn]) bn ?_;refine Gm λb w hS=>?_;refine Cg (Yq t.notes[i] t.aw) λw hS=>?_;refine zw (λh=>hF (bof bn h) (aR hS)) (λh=>?_);refine Gp ?_;refine⟨⟨i+1,rfl,by omega,λj hj gZ=>?_,aR hS⟩,by dsimp only;omega⟩;by_cases e:j=i
  ·subst e;exact h
  exact dh j hj (by omega)
 rw[bog (by omega) cZ λj hj=>dh j hj (by omega)];(exact bw hS)
def nL(x:cA):Prop:=(x.kind=1/\0<=x.n/\x.n<1152921504606846976/\x.s=emp)\/(x.kind=2/\x.n=0/\x.s.size<=4096)
def nL.right{x:cA}(h:nL x):nQ x=true:=by
 unfold nQ;rcases h with ⟨h1,_,_,h2⟩|⟨h1,h2,h3⟩
 ·rw[zzc h1,h2];rfl
 rw[zzb (by omega),zzc h1,zzm h2,zzm h3];rfl
def AX{n:Nat}(h:n<65536):h_ (cR n 2)=n:=by
 have f:∀k,((n:Int).fdiv (2 ^ (8*k)))=((n / 2 ^ (8*k):Nat):Int):=λk=>by
  have:=B8 n (2 ^ (8*k)) (Nat.two_pow_pos _);rw[<- this];push_cast;rfl
 unfold cR cR cR;simp only[f,h_,xxo,uu7,Jx,show (2:Nat) ^ (8*1)=256 from rfl,show (2:Nat) ^ (8*0)=1 from rfl];omega
def RP:∀(l acc:List cA),(∀x∈l,nL x)->lH acc l.length ⟨(l.map cQ).flatten,0⟩= .ok (acc++l)
 | [],acc,_=>by
  rw[yy6,wwj,yyw,RQ,zzb (by simp),zz3]
 | x::l,acc,h=>by
  have hx:=h x (.head _);have ih:=RP l (acc++[x]) λy hy=>h y (.tail _ hy);obtain⟨kind,n,s⟩:=x;rw[zzp,zz2,zzi];rcases hx with ⟨h1,h2,h3,h4⟩|⟨h1,h2,h3⟩
  ·have h1:kind=1:=h1;have h4:s=emp:=h4;subst h1 h4;obtain⟨m,rfl⟩:=xxs h2;have hm:m<1152921504606846976:=by have h3:(m:Int)<1152921504606846976:=h3;omega
   have e:cQ ⟨1,(m:Int),emp⟩=fx 1::cR (m:Int) 8:=by
    show fx 1::cR ((m:Int) % 18446744073709551616) 8=_;rw[show (m:Int) % 18446744073709551616=(m:Int) by omega]
   have hl:=ie (m:Int) 8;rw[e,zzn,Ea (by decide),zzb (by rw[zza,hl];omega),xxp hl,xx0 hl,FK hm,sig,zzc (by omega)];rw[zzg]at ih
   exact ih
  have h1:kind=2:=h1;have h2:n=0:=h2;have h3:s.size<=4096:=h3;subst h1 h2;have e:cQ ⟨2,0,s⟩=fx 2::(cR (s.size:Nat) 2++s.data.toList):=rfl;have hl:=ie (s.size:Int) 2;have hs:s.data.toList.length=s.size:=rfl;rw[e,zzn,zzg,Eb (by decide),zzb (by rw[zza,hl];omega),xxp hl,xx0 hl,AX (by omega),zzb (by omega),
   zzb (by rw[zza,zza,hl];omega),xxp hs,xx0 hs]
  rw[zzg]at ih
  exact ih
theorem BZ{l:List cA}(hl:l.length<=32767)(h:∀x∈l,nL x):lJ l= .ok (cR l.length 2++(l.map cQ).flatten)/\gJ (cR l.length 2++(l.map cQ).flatten)= .ok l:=by
 have h2:=ie (l.length:Int) 2;have hb:=AX (n:=l.length) (by omega);refine⟨?_,?_⟩
 ·unfold lJ;rw[zzb (by omega),zzc (zz7.2 λx hx=>(h x hx).right)]
 have ht:(cR (l.length:Int) 2++(l.map cQ).flatten).take 2=cR l.length 2:=xxp h2;have hd:(cR (l.length:Int) 2++(l.map cQ).flatten).drop 2=(l.map cQ).flatten:=xx0 h2;rw[Hu (by rw[zza,h2];omega) (by rw[ht,hb];omega),ht,hd,hb,RP l [] h,zzo]
def nN{x:bB}:du x=true↔(1<=x.aw/\x.aw<=1099511627776/\x.ops.length<=4096/\x.notes.length<=256)/\(∀o∈x.ops,jT o x.aw=true)/\∀n∈x.notes,iD n x.aw=true:=by
 unfold du;rw[zzs,zzs,zz1,zz7,zz7,and_assoc]
def Da{o:fB}{aw:Int}:jT o aw=true↔1<=o.aw/\o.aw<=aw/\0<=o.table/\o.table<8/\1<=o.key/\o.key<=1099511627776/\o.val.size<=32/\(o.gone=true->o.val=emp):=by unfold jT;rw[zz1]
def C_{n:gF}{aw:Int}:iD n aw=true↔1<=n.id/\n.id<=64/\((n.kind=1/\0<=n.table/\n.table<8/\1<=n.weight/\n.weight<=8/\1<=n.at_/\n.at_<=aw/\n.cG=0/\n.done=false)\/(n.kind=2/\n.table=0/\n.weight=0/\n.at_=0/\0<=n.cG/\n.cG<=1099511627776)):=by unfold iD;rw[zz1]
def D5(b:Bool):0<=fV b/\fV b<=1:=by cases b<;>decide
theorem kI{n:Int}(h:0<=n/\n<=1099511627776):nL (iF n):=.inl ⟨rfl,h.1,by show n<_;omega,rfl⟩
def bfb{x:bB}(h:du x=true):∀f∈j9 x,nL f:=by
 obtain⟨h0,ho,hn⟩:=nN.1 h;intro f hf;unfold j9 at hf;simp only[zz4,yya,wwi,zz5,yy5,vvb]at hf;rcases hf with ((rfl|rfl)|⟨l,⟨o,CK,rfl⟩,hf⟩)|rfl|⟨l,⟨n,pT,rfl⟩,hf⟩
 ·exact kI (by omega)
 ·exact kI (by omega)
 ·have h1:=Da.1 (ho o CK);have hb:=D5 o.gone;unfold oW at hf;simp only[yya,yy5,vvb]at hf;rcases hf with rfl|rfl|rfl|rfl|rfl
  ·exact kI (by omega)
  ·exact kI (by omega)
  ·exact kI (by omega)
  ·exact kI (by omega)
  exact .inr ⟨rfl,rfl,by show o.val.size<=4096;omega⟩
 ·exact kI (by omega)
 have h1:=C_.1 (hn n pT);have hb:=D5 n.done;unfold oV at hf;simp only[yya,yy5,vvb]at hf;rcases hf with rfl|rfl|rfl|rfl|rfl|rfl|rfl<;>exact kI (by omega)
def Ah{α β:Type}{f:α->List β}{k:Nat}(h:∀x,(f x).length=k):∀l:List α,((l.map f).flatten).length=l.length*k
 | []=>by simp
 | x::l=>by rw[zzp,zz2,zza,h,Ah h l,zzi,Nat.succ_mul,uu3]
def bfc(x:bB):(j9 x).length=3+x.ops.length*5+x.notes.length*7:=by
 unfold j9;simp only[zza,zzi,yyw];rw[Ah (f:=oW) (k:=5) (λ_=>rfl),Ah (f:=oV) (k:=7) (λ_=>rfl)];omega
def HE{x:bB}(h:du x=true):tG x= .ok (cR (j9 x).length 2++((j9 x).map cQ).flatten)/\gJ (cR (j9 x).length 2++((j9 x).map cQ).flatten)= .ok (j9 x):=by
 have hl:=bfc x;obtain⟨h0,_,_⟩:=nN.1 h;obtain⟨e1,e2⟩:=BZ (l:=j9 x) (by omega) (bfb h);exact⟨by unfold tG;rw[zzc h,e1],e2⟩
def nR{m n:Int}{l:List cA}(h:0<=n/\n<=m):bN m ⟨iF n::l,false⟩=(n,⟨l,false⟩):=by
 have e:dM ⟨iF n::l,false⟩=(n,⟨l,false⟩):=rfl;unfold bN;rw[e,zzb (by show ¬(n<0\/m<n);omega)]
def Hi{b:Bool}{l:List cA}:rA ⟨iF (fV b)::l,false⟩=(b,⟨l,false⟩):=by
 unfold rA;rw[nR (D5 b)];cases b<;>rfl
def brl{o:fB}{l:List cA}(h:0<=o.table/\o.table<=8):m_ ⟨oW o++l,false⟩=(o,⟨l,false⟩):=by
 unfold m_ oW;have e1:dM ⟨[iF o.aw,iF o.table,iF o.key,iF (fV o.gone),tF o.val]++l,false⟩=(o.aw,⟨[iF o.table,iF o.key,iF (fV o.gone),tF o.val]++l,false⟩):=rfl;have e2:bN 8 ⟨[iF o.table,iF o.key,iF (fV o.gone),tF o.val]++l,false⟩=(o.table,⟨[iF o.key,iF (fV o.gone),tF o.val]++l,false⟩):=nR h;have e3:dM ⟨[iF o.key,iF (fV o.gone),tF o.val]++l,false⟩=(o.key,⟨[iF (fV o.gone),tF o.val]++l,false⟩):=rfl;have e4:rA ⟨[iF (fV o.gone),tF o.val]++l,false⟩=(o.gone,⟨[tF o.val]++l,false⟩):=Hi;have e5:j6 ⟨[tF o.val]++l,false⟩=(o.val,⟨l,false⟩):=rfl;simp only[e1,e2,e3,e4,e5]
def bqt{n:gF}{l:List cA}(h1:0<=n.kind/\n.kind<=2)(h2:0<=n.id/\n.id<=64)(h3:0<=n.table/\n.table<=8)(h4:0<=n.weight/\n.weight<=8):oD ⟨oV n++l,false⟩=(n,⟨l,false⟩):=by
 unfold oD oV;have e1:bN 2 ⟨[iF n.kind,iF n.id,iF n.table,iF n.weight,iF n.at_,iF n.cG,iF (fV n.done)]++l,false⟩=(n.kind,⟨[iF n.id,iF n.table,iF n.weight,iF n.at_,iF n.cG,iF (fV n.done)]++l,false⟩):=nR h1;have e2:bN 64 ⟨[iF n.id,iF n.table,iF n.weight,iF n.at_,iF n.cG,iF (fV n.done)]++l,false⟩=(n.id,⟨[iF n.table,iF n.weight,iF n.at_,iF n.cG,iF (fV n.done)]++l,false⟩):=nR h2;have e3:bN 8 ⟨[iF n.table,iF n.weight,iF n.at_,iF n.cG,iF (fV n.done)]++l,false⟩=(n.table,⟨[iF n.weight,iF n.at_,iF n.cG,iF (fV n.done)]++l,false⟩):=nR h3;have e4:bN 8 ⟨[iF n.weight,iF n.at_,iF n.cG,iF (fV n.done)]++l,false⟩=(n.weight,⟨[iF n.at_,iF n.cG,iF (fV n.done)]++l,false⟩):=nR h4;have e5:dM ⟨[iF n.at_,iF n.cG,iF (fV n.done)]++l,false⟩=(n.at_,⟨[iF n.cG,iF (fV n.done)]++l,false⟩):=rfl;have e6:dM ⟨[iF n.cG,iF (fV n.done)]++l,false⟩=(n.cG,⟨[iF (fV n.done)]++l,false⟩):=rfl;have e7:rA ⟨[iF (fV n.done)]++l,false⟩=(n.done,⟨l,false⟩):=Hi;simp only[e1,e2,e3,e4,e5,e6,e7]
theorem FD{α:Type}{one:bP->α × bP}{f:α->List cA}:∀(xs:List α) (l:List cA),(∀x∈xs,∀l,one ⟨f x++l,false⟩=(x,⟨l,false⟩))->gj one xs.length ⟨(xs.map f).flatten++l,false⟩=(xs,⟨l,false⟩)
 | [],l,_=>rfl
 | x::xs,l,h=>by
  have ih:=FD xs l λy hy=>h y (.tail _ hy);have h1:=h x (.head _) ((xs.map f).flatten++l);rw[zzp,zz2,zzg,zzi,gj,zzb (by simp),h1,ih]
def bms{x:bB}(h:du x=true):mY ⟨j9 x,false⟩=(x,⟨[],false⟩):=by
 obtain⟨h0,ho,hn⟩:=nN.1 h;have e0:j9 x=iF x.aw::(iF x.ops.length::((x.ops.map oW).flatten++(iF x.notes.length::((x.notes.map oV).flatten++[])))):=by
  unfold j9;simp
 rw[e0];unfold mY;have e1:∀l,dM ⟨iF x.aw::l,false⟩=(x.aw,⟨l,false⟩):=λl=>rfl;have e2:∀l,bN 4096 ⟨iF x.ops.length::l,false⟩=((x.ops.length:Int),⟨l,false⟩):=λl=>nR (by omega);have e3:∀l,gj m_ x.ops.length ⟨(x.ops.map oW).flatten++l,false⟩=(x.ops,⟨l,false⟩):=λl=>FD x.ops l λo CK l=>brl (by have:=Da.1 (ho o CK);omega);have e4:∀l,bN 256 ⟨iF x.notes.length::l,false⟩=((x.notes.length:Int),⟨l,false⟩):=λl=>nR (by omega);have e5:∀l,gj oD x.notes.length ⟨(x.notes.map oV).flatten++l,false⟩=(x.notes,⟨l,false⟩):=λl=>FD x.notes l λn pT l=>by
  have:=C_.1 (hn n pT);exact bqt (by omega) (by omega) (by omega) (by omega)
 simp only[e1,e2,e3,e4,e5,zzw]
theorem RV{x:bB}(h:du x=true):∃b,tG x= .ok b/\mO b= .ok x:=by
 obtain⟨e1,e2⟩:=HE h;refine⟨_,e1,?_⟩;unfold mO;rw[e2];have e3:x8 (j9 x)=some x:=by
  unfold x8;rw[bms h];simp only;rw[zzc ⟨trivial,trivial,h⟩]
 simp only[e3]
theorem uU(n:Int):(cQ (iF n)).length=9:=by
 show (fx 1::cR (vQ n) 8).length=9;rw[zzi,ie]
def tK{α β:Type}{f:α->List β}{k:Nat}:∀l:List α,(∀x∈l,(f x).length<=k)->((l.map f).flatten).length<=l.length*k
 | [],_=>by simp
 | x::l,h=>by
  have h1:=h x (.head _);have ih:=tK l λy hy=>h y (.tail _ hy);rw[zzp,zz2,zza,zzi,Nat.succ_mul];omega
def B3(l:List (List cA)):(l.flatten.map cQ).flatten=(l.map λx=>(x.map cQ).flatten).flatten:=by
 induction l with
 | nil=>rfl
 | cons x l ih=>simp only[zz2,zzr,yyq,zzp,ih]
def bdf{x:bB}(h:du x=true){b:Φ}(hb:tG x= .ok b):b.length<=29+x.ops.length*71+x.notes.length*63:=by
 obtain⟨h0,ho,hn⟩:=nN.1 h;rw[(HE h).1]at hb
 cases hb;rw[zza,ie];unfold j9;simp only[zzr,zzp,yy6,yyq,zz2,wwj,zza,zz3,uU];rw[B3,B3,xxh,xxh];have k1:=tK (f:=(λx=>(x.map cQ).flatten)∘oW) (k:=71) x.ops λo CK=>by
  have:=(Da.1 (ho o CK)).2.2.2.2.2.2.1;have e:(cQ (tF o.val)).length=3+o.val.size:=by
   show (fx 2::(cR (o.val.size:Nat) 2++o.val.data.toList)).length=_;rw[zzi,zza,ie];have:o.val.data.toList.length=o.val.size:=rfl;omega
  show (((oW o).map cQ).flatten).length<=71;unfold oW;simp only[zzp,yy6,zz2,wwj,zza,yyw,uU,e];omega
 have k2:=tK (f:=(λx=>(x.map cQ).flatten)∘oV) (k:=63) x.notes λn pT=>by
  show (((oV n).map cQ).flatten).length<=63;unfold oV;simp only[zzp,yy6,zz2,wwj,zza,yyw,uU];omega
 omega

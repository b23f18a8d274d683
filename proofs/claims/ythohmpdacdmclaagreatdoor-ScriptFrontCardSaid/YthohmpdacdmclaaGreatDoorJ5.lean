/- Part. -/
import Derived.Test.YthohmpdacdmclaaGreatDoorJ4
namespace Go.Proofs.YthohmpdacdmclaaGreatDoor
set_option linter.all false
open Go.RowKit Go.Proofs.Tryz
def xxy:=@Nat.add_zero
def vvf:=@List.eq_of_mem_replicate
def uui:=@List.mem_of_mem_drop
def yy4:=@List.take_append_of_le_length
def wwf:=@List.drop_append_of_le_length
def yym:=@List.findIdx?_eq_some_iff_getElem
def xxz:=@Nat.lt_or_ge
def wwb:=@List.findIdx?_eq_none_iff
def zzx:=@decide_eq_false
def uu5:=@UInt8.toNat_inj
def zzm:=@decide_eq_true
def xxt:=@underlying28
def yyq:=@List.flatten_append
def wwj:=@List.flatten_nil
def vvt:=@BitVec.ofInt_natCast
def vv3:=@BitVec.toNat_ofNat
def uu1:=@Nat.shiftLeft_eq
def bKy{z:Ξ}{n i:Nat}(h:i<n*z.length):(bE z n)[i]?=z[i % z.length]?:=by
 induction n generalizing i with
 | zero=>omega
 | succ n ih=>
  have e:bE z (n+1)=z++bE z n:=by simp[bE,List.replicate_succ]
  rw[e];rw[yyv]at h
  by_cases hi:i<z.length
  ·rw[zzy hi,wwp hi]
  rw[yyk (by omega),ih (by omega)];congr 1
  conv=>rhs;rw[show i=(i-z.length)+z.length by omega]
  rw[Nat.add_mod_right]
def RA(A B z rest:Ξ)(h:B.length=z.length):(A++(B++rest)).take A.length++z++(A++(B++rest)).drop (A.length+z.length)=A++(z++rest):=by
 rw[wwg,xxa,<- h,wwv,zzg]
def KR(zv:Array Ε)(z:Ξ)(hz:zv.toList=z)(n:Nat):(Builtin.zeroCells zv n).toList=bE z n:=by
 subst hz;refine vv9 λi=>?_;by_cases hi:i<n*zv.size
 ·have h0:0<zv.size:=by
   rcases yy8 zv.size with h|h
   ·rw[h]at hi;omega
   exact h
  rw[bKy (by simpa using hi)];have hm:i % zv.size<zv.size:=vvc _ h0;simp[Builtin.zeroCells,hi,hm,wws]
 have h1:(Builtin.zeroCells zv n).toList.length<=i:=by simp[Builtin.zeroCells];omega
 have h2:(bE zv.toList n).length<=i:=by rw[kV];simp;omega
 rw[yyt h1,yyt h2]
section
variable {W w:Ζ} {l l':Β} {P:Program}
def SL.Xm{b:Nat}{t:Ι}:∀(vs:Ξ) (o:Nat) (cs:Ξ) (w:Ζ) (l l':Β),SL W l w->fg (.pt b cs t) (.pt b (over cs o vs) t) l l'->o+vs.length<=cs.length->SL W l' (w.setCells b o vs)
 | [],o,cs,w,l,l',hS,u,hl=>by
  simp only[over]at u;have:l=l':=by
   clear hS;generalize hc:Chunk.pt b cs t=c at u;revert hc;induction u with
   | hd=>intro;rfl
   | tl _ ih=>intro hc;rw[ih hc]
  rw[<- this];exact hS
 | v::r,o,cs,w,l,l',hS,u,hl=>by
  simp only[zzi]at hl;have hc:cs[o]?=some (cs[o]'(by omega)):=zzd (by omega);obtain⟨l2,p,q⟩:=u.other (.pt b (cs.set o v) t);rw[World.setCells];exact SL.Xm r (o+1) _ _ l2 l' (hS.store p hc) (by simpa [over] using q) (by simp;omega)
def SL.Xn{b o:Nat}{t:Ι}{cs vs:Ξ}(hS:SL W l w)(u:fg (.pt b cs t) (.pt b (cs.take o++vs++cs.drop (o+vs.length)) t) l l')(hl:o+vs.length<=cs.length):SL W l' (w.setCells b o vs):=
 SL.Xm vs o cs w l l' hS (by rw[A0 _ _ _ hl];exact u) hl
def WM{b o n c:Nat}{cs z:Ξ}{tt t e ty:Ι}{zv:Ε}{K:Ε->Ζ->Prop}(hS:SL W l w)(u:fg (.pt b cs tt) (.pt b (cs.take o++bE z n++cs.drop (o+n*z.length)) tt) l l')
  (ht:P.underlying t=some (.slice e)) (hv:∀w,(zeroValue e).run P w= .ok zv w) (hz:zv.cells.toList=z) (h1:∀v∈z,v.oneCell'=true) (hn:0<n) (ho:o+n*z.length<=cs.length)
  (h:∀u w',SL W l' w'->K u w'):zQ P (Builtin.clear_ #[t] ty #[.slice (some ⟨b,o,none⟩) n c]) w K:=by
 have Jd:=KR zv.cells z hz n;have hlen:(bE z n).length=n*z.length:=kV _ _;have gx:∀j,j<n*z.length->∃v,cs[o+j]?=some v:=λj hj=>⟨_,zzd (by omega)⟩;have eN:=run_storeCells_cells (P:=P) b o (bE z n) 0 w (λj hj=>by obtain⟨v,hv⟩:=gx j (by omega);rw[xxy,hS.cell u.has hv];rfl) (λj hj=>by obtain⟨v,hv⟩:=gx j (by omega);rw[xxy];exact hS.frozen u.has hv)
  (by
   intro v pe;obtain⟨l0,pR,Ut⟩:=wwi.1 pe;rw[vvf pR]at Ut
   exact h1 v Ut)
 simp only[xxy]at eN;obtain⟨m,rfl⟩:∃m,n=m+1:=⟨n-1,by omega⟩;refine⟨_,_,by simp[Builtin.clear_,zzu ht,hv,Jd,eN];exact⟨rfl,rfl⟩,h _ _ (SL.Xn hS (by rw[hlen];exact u) (by rw[hlen];exact ho))⟩
def yB{b o sz n j:Nat}{k:IntKind}{K:Ε->Prop}(hj:j<n)(h:K (.pointer (some ⟨b,o+j*sz,none⟩))):yD sz n (.pointer (some ⟨b,o,none⟩)) (.int k (j:Int)) K:=
 ⟨_,k,j,rfl,rfl,hj,by rw[zz9];exact h⟩
def WK{t e:Ι}{len j:Nat}{vs:Ξ}{v:Ε}{k:IntKind}{K:Ε->Prop}(ht:P.underlying t=some (.array len e))(ha:∀w,(isAgg e).run P w= .ok false w)(hs:∀w,(sizeOf e).run P w= .ok 1 w)(hj:j<len)(hv:vs[j]?=some v)(h:K v):
  dP P (Instr.index t (.agg vs.toArray) (.int k (j:Int))) w K:=by
 refine⟨_,?_,h⟩;simp[Instr.index,asIntOf,zzu ht,Result.andThen,hj,hs,part,ha,hv]
def PR(P:Program)(sz gb:Nat)(z:Ξ)(et st:Ι)(v0:Ε)(v1:Ε)(v2:Ε)(w:Ζ)(R:Ε->Ζ->Prop):Prop:=
 zd v0 λv12=>
 dQ sz v0 (some v1) (some v2) (some v12) λGj=>
 zc .eql v1 v2 λxA=>
 cB xA
 (R v0 w)
 (zd v0 λKB=>
 zi w λuF=>
 dQ sz v0 none (some v1) none λv22=>
 dQ sz v0 (some v2) none none λv25=>
 zt sz gb z et v22 v25 uF λv26 xB=>
 zd v26 λv29=>
 dQ sz v26 (some v29) (some KB) none λv31=>
 zQ P (Builtin.clear_ #[st] 0 [v31].toArray) xB λu DB=>
 R v26 DB)
def Hx{f:FuncId}{sz gb:Nat}{z:Ξ}{et st:Ι}{zv:Ε}(vc:∀v0 v1 v2 w R,PR P sz gb z et st v0 v1 v2 w R->zJ P f [v0,v1,v2] w R)
  (ht:P.underlying st=some (.slice et)) (hv:∀w,(zeroValue et).run P w= .ok zv w) (hz:zv.cells.toList=z) (Je:z.length=sz) (h1:∀v∈z,v.oneCell'=true)
  (v:Ε) (n i:Nat) (cells:Ξ) (hi:i<n) (gf:∀v∈cells,v.oneCell'=true) (hb:n*gb<=140737488355328) (hn:n<=140737488355328) :
  Spec P f [v,Γ (i:Int),Γ ((i+1:Nat):Int)] [.ob (bd v et sz n cells)] (λu post=>post=[.ob (bd u et sz (n-1) (cells.take (i*sz)++cells.drop ((i+1)*sz)))]):=by
 refine Enzz λW F w hS=>?_;apply vc;unfold PR;rcases bd.open hS with ⟨⟨a,rfl⟩,rfl,rfl,_⟩|⟨b,cap,rest,rfl,om,hlen,iT,hS⟩
 ·omega
 have bMi:(i+1)*sz<=n*sz:=yy3 _ (by omega);have bMh:(i+1)*sz=i*sz+sz:=by rw[yyv,wwu]
 refine yg ?_;refine⟨_,n,cap,i,i+1,n,rfl,⟨_,rfl⟩,⟨_,rfl⟩,⟨_,rfl⟩,by omega,by omega,by omega,?_⟩;refine Gp ?_;refine Χ ?_;refine Gn λw hS=>?_;refine⟨_,n,cap,0,i,cap,rfl,rfl,⟨_,rfl⟩,rfl,by omega,by omega,by omega,?_⟩;rw[zzb (show ¬cap=0 by omega)];refine⟨_,n,cap,i+1,n,cap,rfl,rfl,rfl,⟨_,rfl⟩,by omega,by omega,by omega,?_⟩;simp only[yyo,zz9,vv8,xxy,wwh];have ow:(cells.drop ((i+1)*sz)).length=(n-(i+1))*sz:=by rw[zzq,hlen,wwo]
 have Uq:i*sz+((n-(i+1))*sz)=(n-1)*sz:=by rw[<- yyv];congr 1;omega
 have bMg:(n-1)*sz+sz=n*sz:=by rw[show n*sz=(n-1+1)*sz by congr 1;omega,yyv,wwu]
 refine⟨some ⟨b,0,none⟩,i,cap,n-(i+1),cells.drop ((i+1)*sz),rfl,?_,?_,by omega,λpO=>?_,λh=>by omega⟩
 ·have bh9:∀a:Option Addr,(n-(i+1)=0\/a=some ⟨b,0+(i+1)*sz,none⟩)->jw w sz (.slice a (n-(i+1)) (cap-(i+1))) (n-(i+1)) (cells.drop ((i+1)*sz)):=by
   intro a ha;rcases ha with h0|rfl
   ·rw[h0]at ow ⊢
    have:cells.drop ((i+1)*sz)=[]:=zzl (by simpa using ow);rw[this];cases a with
    | none=>exact⟨rfl,rfl⟩
    | some p=>exact⟨rfl,by simp,λj v e=>by simp at e⟩
   refine Xj hS (Has.hd) ow λj u hu=>?_;rw[vvk]at hu
   rw[yyd,zzy (zzh.1 hu).1];exact hu
  refine bh9 _ ?_;by_cases Io:cap=i+1
  ·left;omega
  right;rw[zzb Io]
 ·exact yy1 (yy3 _ (by omega)) hb
 show tg (Addr.add ⟨b,0,none⟩ (i*sz)) 0 _ w _;rw[zz9,yyd];have bLi:i*sz+(cells.drop ((i+1)*sz)).length<=(cells++rest).length:=by rw[zza,ow,Uq,hlen];omega
 refine Bb (t:=et) (cells.drop ((i+1)*sz)) (i*sz) 0 (cells++rest) w _ (.pt b (cells.take (i*sz)++cells.drop ((i+1)*sz)++(cells.drop ((n-1)*sz)++rest)) et::F) hS ?_ (by omega) (λv hv=>gf v (uui hv)) ?_
 ·rw[A0 _ _ _ (by omega),xxy,ow,Uq,yy4 (by omega),wwf (by omega)];exact fg.hd
 intro w' hS;refine yg ?_;refine⟨some ⟨b,0,none⟩,i+(n-(i+1)),cap,i+(n-(i+1)),n,cap,rfl,rfl,⟨_,rfl⟩,⟨_,rfl⟩,by omega,by omega,by omega,?_⟩;have en:i+(n-(i+1))=n-1:=by omega
 rw[en,zzb (show ¬cap=n-1 by omega)];simp only[yyo,zz9,yyd];rw[show n-(n-1)=1 by omega];have hA:(cells.take (i*sz)++cells.drop ((i+1)*sz)).length=(n-1)*sz:=by rw[zza,ow,zzf,hlen];omega
 have hB:(cells.drop ((n-1)*sz)).length=sz:=by rw[zzq,hlen];omega
 have hle:(n-1)*sz+1*z.length<=(cells.take (i*sz)++cells.drop ((i+1)*sz)++(cells.drop ((n-1)*sz)++rest)).length:=by
  rw[zza (bs:=cells.drop ((n-1)*sz)++rest),zza (bs:=rest),hA,hB,Je];omega
 refine WM (tt:=et) (n:=1) (l':=.pt b (cells.take (i*sz)++cells.drop ((i+1)*sz)++(z++rest)) et::F) hS ?_ ht hv hz h1 (by omega) hle ?_
 ·have e1:bE z 1=z:=by simp[bE]
  have e2:=RA (cells.take (i*sz)++cells.drop ((i+1)*sz)) (cells.drop ((n-1)*sz)) z rest (by rw[hB,Je]);rw[hA]at e2
  rw[e1,wwu,e2];exact fg.hd
 intro u w hS;exact⟨_,rfl,bd.mk (n:=n-1) (cap:=cap) (rest:=z++rest) (by omega) hA (by rw[zza,Je,iT,show cap-(n-1)=(cap-n)+1 by omega,yyv,wwu];omega) hS⟩
def DR(P:Program)(T:List Bool)(sz:Nat)(v0:Ε)(v1:Ε)(w:Ζ)(R:Ε->Ζ->Prop):Prop:=
 zd v0 λv7=>
 ∃(I:Ξ->Ζ->Prop) (μ:Ξ->Ζ->Nat),I [(Γ 0)] w /\
 ∀(v8:Ε) uF,I [v8] uF ->
 zc .lss v8 v7 λv9=>
 cB v9
 (zl sz v0 v8 λKA=>
 zf sz KA uF λXN=>
 zU P T v1 [XN] uF λxA xB=>
 cB xA
 (R v8 xB)
 (zc .add v8 (Γ 1) λXO=>
 I [XO] xB/\μ [XO] xB<μ [v8] uF))
 (R (Γ (-1)) uF)
def km:Option Nat->Int
 | some i=>(i:Int)
 | none=>-1
def Jf{T:List Bool}{f g:FuncId}{sz:Nat}{α:Type}{enc:α->Ξ}(hn:∀x,(enc x).length=sz)(hT:T.getD g false=true){cap:Array Ε}{pre:Β}{q:α->Bool}{t:Ι}
  (vc:∀v0 v1 w R,DR P T sz v0 v1 w R->zJ P f [v0,v1] w R) (one:∀x,Spec P g ([agg (enc x)]++cap.toList) pre (bA (.bool (q x)) pre))
  (v:Ε) (xs:List α) (hl:xs.length<=9223372036854775806) :
  Spec P f [v,.func (.func g) #[] cap] (pre++[.ob (bd v t sz xs.length (xs.map enc).flatten)]) (bA (Γ (km (xs.findIdx? q))) (pre++[.ob (bd v t sz xs.length (xs.map enc).flatten)])):=by
 intro W F w hS;apply vc;unfold DR;have e0:app (pre++[.ob (bd v t sz xs.length (xs.map enc).flatten)]) F=pre++(.ob (bd v t sz xs.length (xs.map enc).flatten)::F):=by rw[BN];simp
 have hm:Has (.ob (bd v t sz xs.length (xs.map enc).flatten)) (app (pre++[.ob (bd v t sz xs.length (xs.map enc).flatten)]) F):=by
  rw[e0];clear hS one e0;induction pre with
  | nil=>exact .hd
  | cons c r ih=>exact .tl ih
 refine zy hS hm ?_;refine⟨λvs w=>∃k:Nat,vs=[Γ k]/\k<=xs.length/\(∀j (h:j<xs.length),j<k->q xs[j]=false)/\SL W (app (pre++[.ob (bd v t sz xs.length (xs.map enc).flatten)]) F) w,λvs _=>match vs with|[.int _ k]=>(xs.length-k).toNat|_=>0,⟨0,rfl,by omega,λj h hj=>by omega,hS⟩,?_⟩;clear hS;rintro v8 w ⟨k,hv,hk,hq,hS⟩;cases hv;refine bj (λh=>?_) (λh=>?_)
 ·have mS:k<xs.length:=by omega
  refine zX hS hm hn (x:=xs[k]) (by simp[mS]) mS ?_;refine⟨g,#[],cap,rfl,hT,?_⟩;refine zJ.mono (one xs[k] W (.ob (bd v t sz xs.length (xs.map enc).flatten)::F) w (by rw[BN,<- e0];exact hS)) ?_;clear hS;rintro u w ⟨post,⟨rfl,rfl⟩,hS⟩;rw[BN,<- e0]at hS
  cases CN:q xs[k] with
  | true=>
   refine zu ?_;have e:xs.findIdx? q=some k:=yym.2 ⟨mS,CN,λj hj=>by rw[hq j (by omega) hj];decide⟩;rw[e];exact⟨_,⟨rfl,rfl⟩,hS⟩
  | false=>
   refine zq ?_;refine Gp ?_;refine⟨⟨k+1,rfl,by omega,λj h hj=>?_,hS⟩,by dsimp only;omega⟩;rcases xxz j k with CE|CE
   ·exact hq j h CE
   obtain rfl:j=k:=by omega
   exact CN
 have e:xs.findIdx? q=none:=wwb.2 λx hx=>by
  obtain⟨j,hj,rfl⟩:=xxc.1 hx;exact hq j hj (by omega)
 rw[e];exact⟨_,⟨rfl,rfl⟩,hS⟩
end
set_option maxRecDepth 100000
def WL{P:Program}{w:Ζ}{t e ty:Ι}{a:Option Addr}{n c:Nat}{K:Ε->Prop}(ht:P.underlying t=some (.slice e))(h:K (Γ c)):dP P (Builtin.cap_ #[t] ty #[.slice a n c]) w K:=by
 refine⟨_,?_,h⟩;simp[Builtin.cap_,zzu ht,Result.andThen,goInt]
def wrap_u8(n:Int):Value.int .u8 (IntKind.u8.wrap n)=bU (fx n):=(bn5 n).symm
def wrap_u64{n:Int}(h0:0<=n)(h1:n<18446744073709551616):IntKind.u64.wrap n=n:=by
 simp only[IntKind.wrap,IntKind.bits,IntKind.signed];simp;omega
def Yz(x:Int):SP 332 [.int .u32 x] [] (λv post=>post=[.ob (bd v 5 1 4 ((four x).map bU))]):=by
 refine Enzz λW F w hS=>?_;apply bH3;refine ZV (n:=24) (by omega) ?_;refine zT ?_;refine ZV (n:=16) (by omega) ?_;refine zT ?_;refine ZV (n:=8) (by omega) ?_;refine zT ?_;refine zT ?_;rw[wrap_u8,wrap_u8,wrap_u8,wrap_u8];refine zR (cells:=(four x).map bU) hS rfl ?_;intro b w' fR;exact⟨_,rfl,bd.full (n:=4) rfl fR⟩
def YQ(a:Option Addr)(n c:Nat)(hn:n<=1048576):SP 310 [.agg #[.slice a n c]] [] (λv post=>post=[.ob (bd v 5 1 4 ((four n).map bU))]):=by
 refine Enzz λW F w hS=>?_;apply bHo;delta aW;refine⟨[.slice a n c],rfl,?_⟩;refine Gm λb w hS=>?_;refine zT ?_;rw[wrap_u32 (by omega) (by omega)];refine Cc (Yz n) ?_;clear hS;(rintro v post rfl w hS;(try simp only[app]at hS);(repeat (first|refine Gp ?_|refine Gw λw hS=>?_|refine Gb λb w hS=>?_)))
 exact⟨_,rfl,aR hS⟩
def VX(X:Μ)(v:Ε)(q:Φ)(hb:cK X v q)(hN:q.length<=1048576):SP 309 [v] [X] (λr post=>∃u,r= .agg #[v,u]/\post=[.ob (bd u 5 1 4 ((four (sumOf q)).map bU)),X]):=by
 refine Enzz λW F w hS=>?_;apply bHm;delta bc;obtain⟨a,c,rfl,hc⟩:=hb.sl hS .hd;refine Gm λb w hS=>?_;refine Gm λb w hS=>?_;refine Cc (YQ a q.length c hN) ?_;clear hS;rintro v8 post rfl w hS;(try simp only[app]at hS);have h8:=hS.p6 .hd;refine Gp ?_;refine zR (cells:=[v8,.slice a q.length c]) hS ?_ ?_
 ·obtain⟨a8,c8,e,_⟩:=bd.at hS .hd;subst e;rfl
 clear hS;intro p w hS;refine Gp ?_;refine Cg (bAc X (.ob (bd v8 5 1 4 ((four q.length).map bU))) (.slice a q.length c) v8 q (four q.length) hb (cK.own (b:=four q.length)) (by omega) (by rw[Aj];omega) p _) λw hS=>?_;refine Cc (Yz (sumOf q)) ?_;clear hS;rintro v12 post rfl w hS;(try simp only[app]at hS);have cF:=hS.p6 .hd;obtain⟨a12,BQ,e,_⟩:=bd.at hS .hd;subst e;refine Gn λw hS=>?_;exact⟨_,⟨_,rfl,rfl⟩,aR hS⟩
def Qu(X Y:Μ)(v u:Ε)(b c:Φ)(hb:cK X v b)(hc:cK Y u c)(hN:b.length<=140737488355328):
  SP 315 [v,u] [X,Y] (bA (.bool (decide (b=c))) [X,Y]):=by
 refine Enzz λW F w hS=>?_;apply bHp;delta aI br ai;refine yt hS .hd hb ?_;refine yt hS Xh hc ?_;refine bj (λh=>?_) (λh=>?_)
 ·rw[show decide (b=c)=false from zzx (λe=>h (by rw[e]))];(exact bw hS)
 have hl:b.length=c.length:=by omega
 refine yt hS .hd hb ?_;refine⟨λvs w=>∃i:Nat,i<=b.length/\vs=[Γ i]/\b.take i=c.take i/\SL W (X::Y::F) w,λvs _=>match vs with
  | [.int _ i]=>b.length-i.toNat
  | _=>0,⟨0,by omega,rfl,by simp,hS⟩,?_⟩
 rintro v1 w1 ⟨i,hi,hv,he,hS⟩;cases hv;refine bj (λh=>?_) (λh=>?_)
 ·have hi:i<b.length:=by omega
  have hj:i<c.length:=by omega
  refine Gn λw hS=>?_;refine yX hS .hd hb hi ?_;refine yX hS Xh hc hj ?_;refine A9 ?_;refine za (λh2=>?_) (λh2=>?_)
  ·rw[show decide (b=c)=false from zzx (λe=>h2 (by subst e;rfl))];(exact bw hS)
  refine Gp ?_;have e1:b[i]=c[i]:=by
   apply uu5.1;omega
  refine⟨⟨i+1,by omega,rfl,?_,hS⟩,?_⟩
  ·rw[wwx,wwx,he];simp[hi,hj,e1]
  simp only[zzw];omega
 obtain rfl:i=b.length:=by omega
 have e:b=c:=by
  rw[zz0]at he
  rw[he,hl,zz0]
 rw[show decide (b=c)=true from zzm e];(exact bw hS)
def Tryz.UO:(prog.info? 5).map (λi=>(i.zero,i.size,i.bytes))=some (some (.int .u8 0),1,1):=by kernel_rfl
def bgk(n:Nat)(hn:n<=140737488355328):SP 318 [Θ,Γ n] [] (λv post=>post=[.ob (bd v 5 1 0 [])]):=by
 refine Enzz λW F w hS=>?_;apply bHs;delta aI ai;refine Gp ?_;refine za (λh=>by omega) (λh=>?_);refine WL xxt ?_;refine bj (λh=>?_) (λh=>?_)
 ·refine WL xxt ?_;refine⟨none,0,0,0,0,0,rfl,rfl,⟨_,rfl⟩,rfl,zzj _,zzj _,zzj _,?_⟩;have hk:0<n:=by omega
  have e:(n:Int)-(((0:Nat):Int)-((0:Nat):Int))=((n:Nat):Int):=by omega
  rw[e];cases hi:prog.info? 5 with
  | none=>have:=Tryz.UO;rw[hi]at this;cases this
  | some i=>
   have hI:=Tryz.UO;rw[hi]at hI
   simp only[yyo,Option.some.injEq,vvd]at hI;obtain⟨h1,h2,h3⟩:=hI;have oA:Builtin.nextslicecap (0+n) 0=n:=by
    unfold Builtin.nextslicecap;simp[hk]
   have w8:=Go.Lib.run_append_grow_zeros (P:=prog) w 28 3 28 5 i (.int .u8 0) .i64 .i64 xxt yyc hi h1 none 0 0 [] (by rw[h2];exact run_firstCells_none w.drew 1 0 _ _) n hk (by omega) (by omega) (by omega) (by rw[h3];omega) (by rw[oA,h3];omega);refine⟨_,_,w8,?_⟩;generalize Tt:grownCap w (0+n) 0 5=cp;have Cw:n<=cp:=by
    have:=grownCap_ge w (0+n) 0 5;omega
   refine yg ?_;refine⟨_,_,_,0,0,cp,rfl,rfl,⟨_,rfl⟩,rfl,zzj _,zz6 _,zzj _,?_⟩;refine⟨_,rfl,?_⟩;have hb:(if cp=0 then (some (⟨w.heap.size,0,none⟩:Addr)) else (some (⟨w.heap.size,0,none⟩:Addr)).map (·.add (0*1)))=some ⟨w.heap.size,0,none⟩:=by
    split
    ·rfl
    simp[Addr.add]
   rw[hb,wwh,wwh];refine bd.mk (cells:=[]) (rest:=bE [.int .u8 0] n++bE [.int .u8 0] (cp-n)) (zz6 _) rfl ?_ ?_
   ·rw[zza,kV,kV];simp;omega
   have hz:∀k,Builtin.zeroCells (Value.cells (.int .u8 0)) k=(bE [.int .u8 0] k).toArray:=λk=>by
    rw[<- KR (Value.cells (.int .u8 0)) [.int .u8 0] rfl k,Array.toArray_toList]
   rw[hz,hz,yyd];have e2:([]:Ξ).toArray++(bE [Value.int .u8 0] n).toArray++(bE [Value.int .u8 0] (cp-n)).toArray=([]++(bE [Value.int .u8 0] n++bE [Value.int .u8 0] (cp-n))).toArray:=by simp
   rw[e2];exact SL.new hS.drew
 have:n=0:=by omega
 exact⟨_,rfl,bd.nil hS⟩
def Has.app{c:Μ}:∀{p F:Β},Has c p->Has c (app p F)
 | _::_,_,.hd=>.hd
 | _::_,_,.tl h=>.tl h.app
def SF{α:Type}{bs:List (List α)}{i:Nat}(h:i<bs.length):(bs.take (i+1)).flatten=(bs.take i).flatten++bs[i]:=by
 rw[wwx,zzd h,yyq];simp only[Option.toList_some,zz2,wwj,zz3]
def Ek{α:Type}(bs:List (List α))(i:Nat):(bs.take i).flatten.length<=bs.flatten.length:=by
 have:bs.flatten=(bs.take i).flatten++(bs.drop i).flatten:=by rw[<- yyq,yyf]
 rw[this,zza];omega
def ZE(p n:Nat)(t:Ι)(vs:Ξ)(bs:List Φ)(Xs:Β)(hn:vs.length=n)(hb:bs.length=n)(hx:∀i (h:i<n),∃X,Has X Xs/\cK X (vs[i]'(by omega)) (bs[i]'(by omega)))(hN:bs.flatten.length<=100000000)(rV:n<=100):
  SP 284 [.slice (some ⟨p,0,none⟩) n n] (.pt p vs t::Xs) (λv post=>post= .ob (bd v 5 1 bs.flatten.length (bs.flatten.map bU))::Xs):=by
 refine Enzz λW F w hS=>?_;apply bG4;delta aI ai bc;refine Gp ?_;refine⟨λus w=>∃i:Nat,i<=n/\us=[Γ ((bs.take i).flatten.length:Nat),Γ i]/\SL W (.pt p vs t::app Xs F) w,λus _=>match us with
  | [_,.int _ i]=>n-i.toNat
  | _=>0,⟨0,by omega,by simp,hS⟩,?_⟩
 rintro v1 v2 w1 ⟨i,hi,hv,hS⟩;cases hv;have hle:=Ek bs i;refine bj (λh=>?_) (λh=>?_)
 ·have hi:i<n:=by omega
  obtain⟨X,hX,hr⟩:=hx i hi;refine zI (j:=i) hi ?_;refine zV hS .hd (v:=vs[i]'(by omega)) (by rw[zzd (by omega)];congr 2;omega) ?_;refine yt hS (.tl hX.app) hr ?_;have e:=SF (bs:=bs) (i:=i) (by omega);have TS:=Ek bs (i+1);have el:(bs.take (i+1)).flatten.length=(bs.take i).flatten.length+(bs[i]'(by omega)).length:=by rw[e,zza]
  refine Gp ?_;refine za (λh=>by omega) (λh=>?_);refine Gp ?_;refine⟨⟨i+1,by omega,?_,hS⟩,?_⟩
  ·rw[el]
  simp only[zzw];omega
 obtain rfl:i=n:=by omega
 have ef:bs.take i=bs:=zzz (by omega);rw[ef];refine yF (F:=.pt p vs t::app Xs F) (bgk bs.flatten.length (by omega)) hS fK.nil ?_;clear hS;rintro v post rfl w hS;(try simp only[app]at hS);refine Gp ?_;refine⟨λus w=>∃(j:Nat) (u:Ε),j<=i/\us=[u,Γ j]/\SL W (.ob (bd u 5 1 (bs.take j).flatten.length ((bs.take j).flatten.map bU))::.pt p vs t::app Xs F) w,λus _=>match us with
  | [_,.int _ j]=>i-j.toNat
  | _=>0,⟨0,v,by omega,rfl,hS⟩,?_⟩
 rintro v1 v2 w2 ⟨j,u,hj,hv,hS⟩;cases hv;have hle:=Ek bs j;refine bj (λh=>?_) (λh=>?_)
 ·have hj:j<i:=by omega
  obtain⟨X,hX,hr⟩:=hx j hj;refine zI (j:=j) hj ?_;refine zV hS Xh (v:=vs[j]'(by omega)) (by rw[zzd (by omega)];congr 2;omega) ?_;have e:=SF (bs:=bs) (i:=j) (by omega);have TS:=Ek bs (j+1);have el:(bs.take (j+1)).flatten.length=(bs.take j).flatten.length+(bs[j]'(by omega)).length:=by rw[e,zza]
  refine zL hS .hd (hr.src hS (.tl (.tl hX.app))) (by simp) rfl (uE _) (by omega) (by omega) ?_;clear hS;intro v' w hS;refine Gp ?_;refine⟨⟨j+1,v',by omega,rfl,?_⟩,?_⟩
  ·rw[el,e,zzr];exact hS
  simp only[zzw];omega
 obtain rfl:j=i:=by omega
 rw[ef]at hS
 exact⟨_,rfl,SL.bo hS (.cons .hd (by
  have:jk (app Xs F) (.pt p vs t::app Xs F):=jk.drop .refl;exact this))⟩
def sB(X:Μ)(q:Φ)(r:Ε)(post:Β):Prop:=
 if 1048576<q.length then r= .tuple #[Θ,Γ 1]/\post=[X]
 else ∃u,r= .tuple #[u,Γ 0]/\post=[.ob (bd u 5 1 (bY q).length ((bY q).map bU)),X]
def sB.big{X:Μ}{q:Φ}(h:1048576<q.length):sB X q (.tuple #[Θ,Γ 1]) [X]:=by
 unfold sB;rw[zzc h];exact⟨rfl,rfl⟩
def sB.ok{X:Μ}{q:Φ}(h:q.length<=1048576)(u:Ε):sB X q (.tuple #[u,Γ 0]) [.ob (bd u 5 1 (bY q).length ((bY q).map bU)),X]:=by
 unfold sB;rw[zzb (wwq.2 h)];exact⟨u,rfl,rfl⟩
def Z9(X:Μ)(v:Ε)(q:Φ)(hq:cK X v q)(hN:q.length<=140737488355328):SP 265 [v] [X] (sB X q):=by
 refine Enzz λW F w hS=>?_;apply bGo;delta aI bg ai bc;refine yt hS .hd hq ?_;refine bj (λh=>?_) (λh=>?_)
 ·exact⟨_,.big (by omega),hS⟩
 obtain⟨a,c,rfl,hc⟩:=hq.sl hS .hd;refine Cc (VX X _ q hq (by omega)) ?_;clear hS;rintro v9 post ⟨u,rfl,rfl⟩ w hS;(try simp only[app]at hS);have hu:=hS.p6 .hd;obtain⟨au,cu,e,_⟩:=bd.at hS .hd;subst e;refine Gm λb w hS=>?_;refine yh hS (vs:=[.slice a q.length c]) Xh rfl (λj v e=>?_) ?_
 ·match j,e with
  | 0,e=>exact e
 refine Gp ?_;refine Cc (YQ a q.length c (by omega)) ?_;clear hS;rintro v12 post rfl w hS;(try simp only[app]at hS);obtain⟨a12,BQ,e,_⟩:=bd.at hS .hd;subst e;refine Gm λb w hS=>?_;refine yF (F:=_) (ZE _ 3 _ [_,_,_] [four q.length,four (sumOf q),q] [.ob (bd (.slice a12 4 BQ) 5 1 4 ((four q.length).map bU)),.ob (bd (.slice au 4 cu) 5 1 4 ((four (sumOf q)).map bU)),X] rfl rfl ?_ ?_ (by omega)) hS Xp ?_
 ·intro i hi
  match i,hi with
  | 0,_=>exact⟨_,.hd,cK.own (b:=four q.length)⟩
  | 1,_=>exact⟨_,.tl .hd,cK.own (b:=four (sumOf q))⟩
  | 2,_=>exact⟨_,.tl (.tl .hd),hq⟩
 ·simp[Aj];omega
 clear hS;rintro v post rfl w hS;(try simp only[app]at hS);have e:[four q.length,four (sumOf q),q].flatten=bY q:=by simp[bY]
 rw[e]at hS
 exact⟨_,.ok (by omega) v,aR hS⟩
def orW{a b:Nat}(ha:a<9223372036854775808)(hb:b<9223372036854775808):iJ .or (Γ (a:Int)) (Γ (b:Int))=some (Γ ((a ||| b:Nat):Int)):=by
 have h:(a ||| b)<9223372036854775808:=Nat.or_lt_two_pow (n:=63) ha hb;simp only[iJ,ww0];congr 2;have e1:(BitVec.ofInt IntKind.i64.bits (a:Int))=BitVec.ofNat 64 a:=vvt 64 a;have e2:(BitVec.ofInt IntKind.i64.bits (b:Int))=BitVec.ofNat 64 b:=vvt 64 b;rw[e1,e2];have e3:(BitVec.ofNat 64 a ||| BitVec.ofNat 64 b).toNat=a ||| b:=by
  rw[BitVec.toNat_or,vv3,vv3,wwp (by omega),wwp (by omega)]
 show IntKind.i64.wrap (((BitVec.ofNat 64 a ||| BitVec.ofNat 64 b).toNat:Nat):Int)=_;rw[e3,xx3 _ (by omega)]
def Ki{a b k:Nat}{K:Ε->Prop}(ha:a*2 ^ k<9223372036854775808)(hb:b<2 ^ k)(o0:b<9223372036854775808)(h:K (Γ ((a*2 ^ k+b:Nat):Int))):zc .or (Γ ((a*2 ^ k:Nat):Int)) (Γ (b:Int)) K:=by
 refine⟨_,orW ha o0,?_⟩;have:a*2 ^ k ||| b=a*2 ^ k+b:=by rw[<- uu1,Nat.shiftLeft_add_eq_or_of_lt hb]
 rw[this];exact h
def Y8{a n:Nat}{K:Ε->Prop}(hn:n<=64)(ha:a*2 ^ n<9223372036854775808)(h:K (Γ ((a*2 ^ n:Nat):Int))):zc .shl (Γ (a:Int)) (.int .u64 (n:Int)) K:=by
 refine⟨Γ ((a*2 ^ n:Nat):Int),?_,h⟩;have h1:¬((n:Int)<0):=by omega
 simp only[iJ,h1,wwt];rw[show min (n:Int).toNat IntKind.i64.bits=n by simp only[IntKind.bits];omega];congr 2;rw[show (a:Int)*2 ^ n=((a*2 ^ n:Nat):Int) by push_cast;rfl];exact xx3 _ (by omega)
def tn(X:Μ)(q:Φ)(r:Ε)(post:Β):Prop:=match f_ q with
 | .error e=>r= .tuple #[Θ,Γ 0,Γ e]/\post=[X]
 | .ok (p,n)=>∃u,r= .tuple #[u,Γ (n:Nat),Γ 0]/\post=[.ob (bd u 5 1 p.length (p.map bU)),X]
def tn.er{X:Μ}{q:Φ}{e:Int}(h:f_ q= .error e):tn X q (.tuple #[Θ,Γ 0,Γ e]) [X]:=by
 unfold tn;rw[h];exact⟨rfl,rfl⟩
def tn.ok{X:Μ}{q p:Φ}{n:Nat}(h:f_ q= .ok (p,n))(u:Ε):tn X q (.tuple #[u,Γ (n:Nat),Γ 0]) [.ob (bd u 5 1 p.length (p.map bU)),X]:=by
 unfold tn;rw[h];exact⟨u,rfl,rfl⟩
def bAo{q:Φ}(h:q.length<8):f_ q= .error 2:=by unfold f_;rw[zzc h]
def bAp{q:Φ}(h:8<=q.length)(h2:1048576<iy q):f_ q= .error 3:=by unfold f_;rw[zzb (wwq.2 h),zzc h2]
def bAq{q:Φ}(h:8<=q.length)(h2:iy q<=1048576)(h3:q.length<8+iy q):f_ q= .error 2:=by unfold f_;rw[zzb (wwq.2 h),zzb (wwq.2 h2),zzc h3]
def bAr{q:Φ}(h:8<=q.length)(h2:iy q<=1048576)(h3:8+iy q<=q.length)(h4:four (sumOf ((q.drop 8).take (iy q)))≠(q.drop 4).take 4):f_ q= .error 4:=by unfold f_;rw[zzb (wwq.2 h),zzb (wwq.2 h2),zzb (wwq.2 h3),zzc h4]
def bAt{q:Φ}(h:8<=q.length)(h2:iy q<=1048576)(h3:8+iy q<=q.length)(h4:four (sumOf ((q.drop 8).take (iy q)))=(q.drop 4).take 4):f_ q= .ok ((q.drop 8).take (iy q),8+iy q):=by unfold f_;rw[zzb (wwq.2 h),zzb (wwq.2 h2),zzb (wwq.2 h3),zzb (not_not_intro h4)]
def YS(X:Μ)(v:Ε)(q:Φ)(hq:cK X v q)(hN:q.length<=140737488355328):SP 274 [v] [X] (tn X q):=by
 refine Enzz λW F w hS=>?_;apply bGt;delta aI aW bJ ai bc;refine yt hS .hd hq ?_;refine bj (λh=>?_) (λh=>?_)
 ·exact⟨_,.er (bAo (by omega)),hS⟩
 have h8:8<=q.length:=by omega
 refine Gn λw hS=>?_;have g0:=q[0].toNat_lt;have g1:=q[1].toNat_lt;have g2:=q[2].toNat_lt;have g3:=q[3].toNat_lt;have hn:iy q=((q[0].toNat*2 ^ 24+q[1].toNat*2 ^ 16)+q[2].toNat*2 ^ 8)+q[3].toNat:=by
  unfold iy;have hd:∀i (h:i<q.length),q.getD i 0=q[i]:=λi h=>by simp[ww4,h]
  rw[hd 0 (by omega),hd 1 (by omega),hd 2 (by omega),hd 3 (by omega)]
 refine yX (j:=0) hS .hd hq (by omega) ?_;refine yz (by omega) ?_;refine Y8 (n:=24) (by omega) (by omega) ?_;refine yX (j:=1) hS .hd hq (by omega) ?_;refine yz (by omega) ?_;refine Y8 (n:=16) (by omega) (by omega) ?_;refine Ki (k:=24) (by omega) (by omega) (by omega) ?_;refine yX (j:=2) hS .hd hq (by omega) ?_;refine yz (by omega) ?_;refine Y8 (n:=8) (by omega) (by omega) ?_;rw[show q[0].toNat*2 ^ 24+q[1].toNat*2 ^ 16=(q[0].toNat*2 ^ 8+q[1].toNat)*2 ^ 16 by omega];refine Ki (k:=16) (by omega) (by omega) (by omega) ?_;refine yX (j:=3) hS .hd hq (by omega) ?_;refine yz (by omega) ?_;rw[show (q[0].toNat*2 ^ 8+q[1].toNat)*2 ^ 16+q[2].toNat*2 ^ 8=((q[0].toNat*2 ^ 8+q[1].toNat)*2 ^ 8+q[2].toNat)*2 ^ 8 by omega];refine Ki (k:=8) (by omega) (by omega) (by omega) ?_;rw[show ((q[0].toNat*2 ^ 8+q[1].toNat)*2 ^ 8+q[2].toNat)*2 ^ 8+q[3].toNat=iy q by omega];clear hn g0 g1 g2 g3;have b9:=bq1 q;generalize hk:iy q=k at *
 refine bj (λh2=>?_) (λh2=>?_)
 ·exact⟨_,.er (bAp h8 (by omega)),hS⟩
 refine yt hS .hd hq ?_;refine Zy (a:=8) (b:=k) (by omega) ?_;refine bj (λh3=>?_) (λh3=>?_)
 ·exact⟨_,.er (bAq h8 (by omega) (by omega)),hS⟩
 refine Zy (a:=8) (b:=k) (by omega) ?_;refine WT (lo:=8) (hi:=8+k) hS .hd hq (by omega) (by omega) ?_;intro v44 Ev;rw[show 8+k-8=k by omega]at Ev
 have bLr:((q.drop 8).take k).length=k:=by rw[zzf,zzq];omega
 generalize hp:(q.drop 8).take k=p at *
 obtain⟨a,c,e,hc⟩:=Ev.sl hS .hd;subst e;refine Cc (VX X _ p Ev (by omega)) ?_;clear hS;rintro v9 post ⟨u,rfl,rfl⟩ w hS;(try simp only[app]at hS);obtain⟨au,cu,e,_⟩:=bd.at hS .hd;subst e;refine Gm λb w hS=>?_;refine WT (lo:=4) (hi:=8) hS Xh hq (by omega) (by omega) ?_;intro v49 S3;rw[show 8-4=4 from rfl]at S3
 refine Cc (Qu (.ob (bd (.slice au 4 cu) 5 1 4 ((four (sumOf p)).map bU))) X _ v49 (four (sumOf p)) ((q.drop 4).take 4) (cK.own (b:=four (sumOf p))) S3 (by rw[Aj];omega)) ?_;clear hS;rintro v post ⟨rfl,rfl⟩ w hS;(try simp only[app]at hS);refine z7 ?_;by_cases h4:four (sumOf p)=(q.drop 4).take 4
 ·rw[zzm h4];refine zq ?_;refine Gp ?_;refine Zm (cs:=p.map bU) hS (λw' c fR=>Ev.src fR Xh) (by simp) (uE _) (by omega) ?_;clear hS;intro u' w hS _;refine Zy (a:=8) (b:=k) (by omega) ?_;have ht:=bAt h8 (by omega) (by omega) (by rw[hk,hp];exact h4);rw[hk,hp]at ht
  exact⟨_,.ok ht u',aR hS⟩
 rw[zzx h4];refine zu ?_;exact⟨_,.er (bAr h8 (by omega) (by omega) (by rw[hk,hp];exact h4)),aR hS⟩

/- Part of the proof. -/
import Derived.Test.YtmkllimamejcgaaGreatJ3
import Derived.Lib.SliceRun
import Derived.Test.YtmkllimamejcgaaGreatQVcF
namespace Go.Proofs.YtmkllimamejcgaaGreat
set_option linter.all false
open Go.RowKit
def ww1:=@Nat.mod_eq_of_lt
def wwv:=@getElem!_pos
def yyr:=@List.getElem?_eq_none
def vvb:=@List.eq_of_mem_replicate
def www:=@Nat.sub_zero
def wwj:=@List.getElem?_drop
def xxb:=@List.drop_append_of_le_length
def yyk:=@List.findIdx?_eq_some_iff_getElem
def xxl:=@List.findIdx?_eq_none_iff
def xxy:=@List.getElem_map
def zzl:=@decide_eq_true
def vv6:=@Bool.true_and
def xxj:=@List.not_mem_nil
def vvw:=@or_false
def cLo{z:Ξ}{n i:Nat}(h:i<n*z.length):(cK z n)[i]?=z[i % z.length]?:=by
 induction n generalizing i with
 | zero=>omega
 | succ n ih=>
  have e:cK z (n+1)=z++cK z n:=by simp[cK,List.replicate_succ]
  rw[e];rw[yyz]at h
  by_cases hi:i<z.length
  ·rw[zzt hi,ww1 hi]
  rw[yya (by omega),ih (by omega)];congr 1
  conv=>rhs;rw[show i=(i-z.length)+z.length by omega]
  rw[Nat.add_mod_right]
def Rp(A B z rest:Ξ)(h:B.length=z.length):(A++(B++rest)).take A.length++z++(A++(B++rest)).drop (A.length+z.length)=A++(z++rest):=by
 rw[wwp,xxr,<- h,wwo,zzk]
def KS(zv:Array Ε)(z:Ξ)(hz:zv.toList=z)(n:Nat):(Builtin.zeroCells zv n).toList=cK z n:=by
 subst hz;refine uul λi=>?_;by_cases hi:i<n*zv.size
 ·have h0:0<zv.size:=by
   rcases yy8 zv.size with h|h
   ·rw[h]at hi;omega
   exact h
  rw[cLo (by simpa using hi)];have hm:i % zv.size<zv.size:=vvi _ h0;simp[Builtin.zeroCells,hi,hm,wwv]
 have h1:(Builtin.zeroCells zv n).toList.length<=i:=by simp[Builtin.zeroCells];omega
 have h2:(cK zv.toList n).length<=i:=by rw[lQ];simp;omega
 rw[yyr h1,yyr h2]
section
variable {W w:Ζ} {l l':Β} {P:Program}
def SL.Xc{b:Nat}{t:Ι}:∀(vs:Ξ) (o:Nat) (cs:Ξ) (w:Ζ) (l l':Β),SL W l w->ga (.pt b cs t) (.pt b (pW cs o vs) t) l l'->o+vs.length<=cs.length->SL W l' (w.setCells b o vs)
 | [],o,cs,w,l,l',hS,u,hl=>by
  simp only[pW]at u;have:l=l':=by
   clear hS;generalize hc:Chunk.pt b cs t=c at u;revert hc;induction u with
   | hd=>intro;rfl
   | tl _ ih=>intro hc;rw[ih hc]
  rw[<- this];exact hS
 | v::r,o,cs,w,l,l',hS,u,hl=>by
  simp only[zzh]at hl;have hc:cs[o]?=some (cs[o]'(by omega)):=zzd (by omega);obtain⟨l2,p,q⟩:=u.other (.pt b (cs.set o v) t);rw[World.setCells];exact SL.Xc r (o+1) _ _ l2 l' (hS.store p hc) (by simpa [pW] using q) (by simp;omega)
def SL.Xd{b o:Nat}{t:Ι}{cs vs:Ξ}(hS:SL W l w)(u:ga (.pt b cs t) (.pt b (cs.take o++vs++cs.drop (o+vs.length)) t) l l')(hl:o+vs.length<=cs.length):SL W l' (w.setCells b o vs):=
 SL.Xc vs o cs w l l' hS (by rw[Bj _ _ _ hl];exact u) hl
def WA{b o n c:Nat}{cs z:Ξ}{tt t e ty:Ι}{zv:Ε}{K:Ε->Ζ->Prop}(hS:SL W l w)(u:ga (.pt b cs tt) (.pt b (cs.take o++cK z n++cs.drop (o+n*z.length)) tt) l l')
  (ht:P.underlying t=some (.slice e)) (hv:∀w,(zeroValue e).run P w= .ok zv w) (hz:zv.cells.toList=z) (h1:∀v∈z,v.oneCell'=true) (hn:0<n) (ho:o+n*z.length<=cs.length)
  (h:∀u w',SL W l' w'->K u w'):zR P (Builtin.clear_ #[t] ty #[.slice (some ⟨b,o,none⟩) n c]) w K:=by
 have Jh:=KS zv.cells z hz n;have hlen:(cK z n).length=n*z.length:=lQ _ _;have ib:∀j,j<n*z.length->∃v,cs[o+j]?=some v:=λj hj=>⟨_,zzd (by omega)⟩;have fX:=run_storeCells_cells (P:=P) b o (cK z n) 0 w (λj hj=>by obtain⟨v,hv⟩:=ib j (by omega);rw[xxg,hS.cell u.has hv];rfl) (λj hj=>by obtain⟨v,hv⟩:=ib j (by omega);rw[xxg];exact hS.frozen u.has hv)
  (by
   intro v pT;obtain⟨l0,rh,Ul⟩:=xx8.1 pT;rw[vvb rh]at Ul
   exact h1 v Ul)
 simp only[xxg]at fX;obtain⟨m,rfl⟩:∃m,n=m+1:=⟨n-1,by omega⟩;refine⟨_,_,by simp[Builtin.clear_,yyn ht,hv,Jh,fX];exact⟨rfl,rfl⟩,h _ _ (SL.Xd hS (by rw[hlen];exact u) (by rw[hlen];exact ho))⟩
def yB{b o sz n j:Nat}{k:IntKind}{K:Ε->Prop}(hj:j<n)(h:K (.pointer (some ⟨b,o+j*sz,none⟩))):yD sz n (.pointer (some ⟨b,o,none⟩)) (.int k (j:Int)) K:=
 ⟨_,k,j,rfl,rfl,hj,by rw[yyb];exact h⟩
def Wy{t e:Ι}{len j:Nat}{vs:Ξ}{v:Ε}{k:IntKind}{K:Ε->Prop}(ht:P.underlying t=some (.array len e))(ha:∀w,(isAgg e).run P w= .ok false w)(hs:∀w,(sizeOf e).run P w= .ok 1 w)(hj:j<len)(hv:vs[j]?=some v)(h:K v):
  eW P (Instr.index t (.agg vs.toArray) (.int k (j:Int))) w K:=by
 refine⟨_,?_,h⟩;simp[Instr.index,asIntOf,yyn ht,Result.andThen,hj,hs,part,ha,hv]
def PL(P:Program)(sz gT:Nat)(z:Ξ)(et st:Ι)(v0:Ε)(v1:Ε)(v2:Ε)(w:Ζ)(R:Ε->Ζ->Prop):Prop:=
 zd v0 λv12=>
 fh sz v0 (some v1) (some v2) (some v12) λGr=>
 zc .eql v1 v2 λBz=>
 dm Bz
 (R v0 w)
 (zd v0 λKF=>
 zi w λpf=>
 fh sz v0 none (some v1) none λv22=>
 fh sz v0 (some v2) none none λv25=>
 zx sz gT z et v22 v25 pf λv26 sK=>
 zd v26 λv29=>
 fh sz v26 (some v29) (some KF) none λv31=>
 zR P (Builtin.clear_ #[st] 0 [v31].toArray) sK λu uR=>
 R v26 uR)
def HC{f:FuncId}{sz gT:Nat}{z:Ξ}{et st:Ι}{zv:Ε}(vc:∀v0 v1 v2 w R,PL P sz gT z et st v0 v1 v2 w R->zQ P f [v0,v1,v2] w R)
  (ht:P.underlying st=some (.slice et)) (hv:∀w,(zeroValue et).run P w= .ok zv w) (hz:zv.cells.toList=z) (Ji:z.length=sz) (h1:∀v∈z,v.oneCell'=true)
  (v:Ε) (n i:Nat) (cells:Ξ) (hi:i<n) (gB:∀v∈cells,v.oneCell'=true) (hb:n*gT<=140737488355328) (hn:n<=140737488355328) :
  Spec P f [v,Γ (i:Int),Γ ((i+1:Nat):Int)] [.ob (bI v et sz n cells)] (λu post=>post=[.ob (bI u et sz (n-1) (cells.take (i*sz)++cells.drop ((i+1)*sz)))]):=by
 refine Enzz λW F w hS=>?_;apply vc;unfold PL;rcases bI.open hS with ⟨⟨a,rfl⟩,rfl,rfl,_⟩|⟨b,cap,rest,rfl,oU,hlen,jN,hS⟩
 ·omega
 have cNn:(i+1)*sz<=n*sz:=yyt _ (by omega);have cNm:(i+1)*sz=i*sz+sz:=by rw[yyz,wwm]
 refine yc ?_;refine⟨_,n,cap,i,i+1,n,rfl,⟨_,rfl⟩,⟨_,rfl⟩,⟨_,rfl⟩,by omega,by omega,by omega,?_⟩;refine Gp ?_;refine za (λh=>by omega) (λ_=>?_);refine Gn λw hS=>?_;refine⟨_,n,cap,0,i,cap,rfl,rfl,⟨_,rfl⟩,rfl,by omega,by omega,by omega,?_⟩;rw[zzb (show ¬cap=0 by omega)];refine⟨_,n,cap,i+1,n,cap,rfl,rfl,rfl,⟨_,rfl⟩,by omega,by omega,by omega,?_⟩;simp only[yyf,yyb,uuh,xxg,www];have oY:(cells.drop ((i+1)*sz)).length=(n-(i+1))*sz:=by rw[zzr,hlen,wwg]
 have my:i*sz+((n-(i+1))*sz)=(n-1)*sz:=by rw[<- yyz];congr 1;omega
 have cNl:(n-1)*sz+sz=n*sz:=by rw[show n*sz=(n-1+1)*sz by congr 1;omega,yyz,wwm]
 refine⟨some ⟨b,0,none⟩,i,cap,n-(i+1),cells.drop ((i+1)*sz),rfl,?_,?_,by omega,λpM=>?_,λh=>by omega⟩
 ·have bRy:∀a:Option Addr,(n-(i+1)=0\/a=some ⟨b,0+(i+1)*sz,none⟩)->kE w sz (.slice a (n-(i+1)) (cap-(i+1))) (n-(i+1)) (cells.drop ((i+1)*sz)):=by
   intro a ha;rcases ha with h0|rfl
   ·rw[h0]at oY ⊢
    have:cells.drop ((i+1)*sz)=[]:=zzp (by simpa using oY);rw[this];cases a with
    | none=>exact⟨rfl,rfl⟩
    | some p=>exact⟨rfl,by simp,λj v e=>by simp at e⟩
   refine W9 hS (Has.hd) oY λj u hu=>?_;rw[wwj]at hu
   rw[yye,zzt (zzj.1 hu).1];exact hu
  refine bRy _ ?_;by_cases Iq:cap=i+1
  ·left;omega
  right;rw[zzb Iq]
 ·exact yyy (yyt _ (by omega)) hb
 show tO (Addr.add ⟨b,0,none⟩ (i*sz)) 0 _ w _;rw[yyb,yye];have cMr:i*sz+(cells.drop ((i+1)*sz)).length<=(cells++rest).length:=by rw[zza,oY,my,hlen];omega
 refine Bw (t:=et) (cells.drop ((i+1)*sz)) (i*sz) 0 (cells++rest) w _ (.pt b (cells.take (i*sz)++cells.drop ((i+1)*sz)++(cells.drop ((n-1)*sz)++rest)) et::F) hS ?_ (by omega) (λv hv=>gB v (vvt hv)) ?_
 ·rw[Bj _ _ _ (by omega),xxg,oY,my,xxa (by omega),xxb (by omega)];exact ga.hd
 intro w' hS;refine yc ?_;refine⟨some ⟨b,0,none⟩,i+(n-(i+1)),cap,i+(n-(i+1)),n,cap,rfl,rfl,⟨_,rfl⟩,⟨_,rfl⟩,by omega,by omega,by omega,?_⟩;have en:i+(n-(i+1))=n-1:=by omega
 rw[en,zzb (show ¬cap=n-1 by omega)];simp only[yyf,yyb,yye];rw[show n-(n-1)=1 by omega];have hA:(cells.take (i*sz)++cells.drop ((i+1)*sz)).length=(n-1)*sz:=by rw[zza,oY,zzf,hlen];omega
 have hB:(cells.drop ((n-1)*sz)).length=sz:=by rw[zzr,hlen];omega
 have hle:(n-1)*sz+1*z.length<=(cells.take (i*sz)++cells.drop ((i+1)*sz)++(cells.drop ((n-1)*sz)++rest)).length:=by
  rw[zza (bs:=cells.drop ((n-1)*sz)++rest),zza (bs:=rest),hA,hB,Ji];omega
 refine WA (tt:=et) (n:=1) (l':=.pt b (cells.take (i*sz)++cells.drop ((i+1)*sz)++(z++rest)) et::F) hS ?_ ht hv hz h1 (by omega) hle ?_
 ·have e1:cK z 1=z:=by simp[cK]
  have e2:=Rp (cells.take (i*sz)++cells.drop ((i+1)*sz)) (cells.drop ((n-1)*sz)) z rest (by rw[hB,Ji]);rw[hA]at e2
  rw[e1,wwm,e2];exact ga.hd
 intro u w hS;exact⟨_,rfl,bI.mk (n:=n-1) (cap:=cap) (rest:=z++rest) (by omega) hA (by rw[zza,Ji,jN,show cap-(n-1)=(cap-n)+1 by omega,yyz,wwm];omega) hS⟩
def D6(P:Program)(T:List Bool)(sz:Nat)(v0:Ε)(v1:Ε)(w:Ζ)(R:Ε->Ζ->Prop):Prop:=
 zd v0 λv7=>
 ∃(I:Ξ->Ζ->Prop) (μ:Ξ->Ζ->Nat),I [(Γ 0)] w /\
 ∀(v8:Ε) pf,I [v8] pf ->
 zc .lss v8 v7 λv9=>
 dm v9
 (zk sz v0 v8 λKE=>
 zg sz KE pf λGs=>
 zS P T v1 [Gs] pf λBz sK=>
 dm Bz
 (R v8 sK)
 (zc .add v8 (Γ 1) λDP=>
 I [DP] sK/\μ [DP] sK<μ [v8] pf))
 (R (Γ (-1)) pf)
def k_:Option Nat->Int
 | some i=>(i:Int)
 | none=>-1
def Jj{T:List Bool}{f g:FuncId}{sz:Nat}{α:Type}{enc:α->Ξ}(hn:∀x,(enc x).length=sz)(hT:T.getD g false=true){cap:Array Ε}{pre:Β}{q:α->Bool}{t:Ι}
  (vc:∀v0 v1 w R,D6 P T sz v0 v1 w R->zQ P f [v0,v1] w R) (one:∀x,Spec P g ([agg (enc x)]++cap.toList) pre (cC (.bool (q x)) pre))
  (v:Ε) (xs:List α) (hl:xs.length<=9223372036854775806) :
  Spec P f [v,.func (.func g) #[] cap] (pre++[.ob (bI v t sz xs.length (xs.map enc).flatten)]) (cC (Γ (k_ (xs.findIdx? q))) (pre++[.ob (bI v t sz xs.length (xs.map enc).flatten)])):=by
 intro W F w hS;apply vc;unfold D6;have e0:app (pre++[.ob (bI v t sz xs.length (xs.map enc).flatten)]) F=pre++(.ob (bI v t sz xs.length (xs.map enc).flatten)::F):=by rw[B4];simp
 have hm:Has (.ob (bI v t sz xs.length (xs.map enc).flatten)) (app (pre++[.ob (bI v t sz xs.length (xs.map enc).flatten)]) F):=by
  rw[e0];clear hS one e0;induction pre with
  | nil=>exact .hd
  | cons c r ih=>exact .tl ih
 refine zt hS hm ?_;refine⟨λvs w=>∃k:Nat,vs=[Γ k]/\k<=xs.length/\(∀j (h:j<xs.length),j<k->q xs[j]=false)/\SL W (app (pre++[.ob (bI v t sz xs.length (xs.map enc).flatten)]) F) w,λvs _=>match vs with|[.int _ k]=>(xs.length-k).toNat|_=>0,⟨0,rfl,by omega,λj h hj=>by omega,hS⟩,?_⟩;clear hS;rintro v8 w ⟨k,hv,hk,hq,hS⟩;cases hv;refine bY (λh=>?_) (λh=>?_)
 ·have om:k<xs.length:=by omega
  refine zT hS hm hn (x:=xs[k]) (by simp[om]) om ?_;refine⟨g,#[],cap,rfl,hT,?_⟩;refine zQ.mono (one xs[k] W (.ob (bI v t sz xs.length (xs.map enc).flatten)::F) w (by rw[B4,<- e0];exact hS)) ?_;clear hS;rintro u w ⟨post,⟨rfl,rfl⟩,hS⟩;rw[B4,<- e0]at hS
  cases C1:q xs[k] with
  | true=>
   refine zq ?_;have e:xs.findIdx? q=some k:=yyk.2 ⟨om,C1,λj hj=>by rw[hq j (by omega) hj];decide⟩;rw[e];exact⟨_,⟨rfl,rfl⟩,hS⟩
  | false=>
   refine zp ?_;refine Gp ?_;refine⟨⟨k+1,rfl,by omega,λj h hj=>?_,hS⟩,by dsimp only;omega⟩;rcases xxx j k with CP|CP
   ·exact hq j h CP
   obtain rfl:j=k:=by omega
   exact C1
 have e:xs.findIdx? q=none:=xxl.2 λx hx=>by
  obtain⟨j,hj,rfl⟩:=yy5.1 hx;exact hq j hj (by omega)
 rw[e];exact⟨_,⟨rfl,rfl⟩,hS⟩
end
set_option maxRecDepth 100000
def GI(H:bw)(u:Ε)(post:Β)(o:Option (List Rq)):Prop:=∃H',H.le H'/\post=[.mem H']/\match o with
 | none=>u= .tuple #[Θ,.bool false]
 | some L'=>∃x,u= .tuple #[x,.bool true]/\jc H' x L'
def GC(r:Rq)(a:Int):Prop:=0<=r.table/\r.table<8/\1<=r.weight/\r.weight<=8/\max a 1<=r.at_/\r.at_<=1099511627776/\0<=r.dz/\r.dz<=1099511627776/\0<=r.chunks/\r.chunks<=1099511627776
def bZ8(r:Rq)(a:Int):SP 369 [agg (iD r),Γ a] [] (λv post=>∃q:Bool,v= .bool q/\(q=true↔GC r a)/\post=[]):=by
 refine Enzz λW F w hS=>?_;apply cI5;delta OP aI a_ cw ai;obtain⟨rid,rt,F',rat,F6,F5,rd⟩:=r;unfold iD GC;simp only;refine⟨_,rfl,zE hS ?_⟩;clear hS;intro b w hS;have fp:∀{w:Ζ},¬(0<=rt/\rt<8/\1<=F'/\F'<=8/\max a 1<=rat/\rat<=1099511627776/\0<=F6/\F6<=1099511627776/\0<=F5/\F5<=1099511627776)->SL W F w->∃post,(∃q:Bool,(.bool false:Ε)= .bool q/\(q=true↔0<=rt/\rt<8/\1<=F'/\F'<=8/\max a 1<=rat/\rat<=1099511627776/\0<=F6/\F6<=1099511627776/\0<=F5/\F5<=1099511627776)/\post=[])/\SL W (app post F) w:=λh hS=>⟨_,⟨false,rfl,⟨λe=>(by cases e),λe=>absurd e h⟩,rfl⟩,hS⟩;refine Gp ?_;refine za (λc1=>?_) (λc=>fp (by omega) (aW hS));refine Gp ?_;refine za (λc2=>?_) (λc=>fp (by omega) (aW hS));refine Gp ?_;refine za (λc3=>?_) (λc=>fp (by omega) (aW hS));refine Gp ?_;refine za (λc4=>?_) (λc=>fp (by omega) (aW hS));refine Gp ?_;refine za (λc5=>?_) (λc=>fp (by omega) (aW hS));refine Gp ?_;refine za (λc6=>?_) (λc=>fp (by omega) (aW hS));refine Gp ?_;refine za (λc7=>?_) (λc=>fp (by omega) (aW hS));refine Gp ?_;refine za (λc8=>?_) (λc=>fp (by omega) (aW hS));refine Gp ?_;refine za (λc9=>?_) (λc=>fp (by omega) (aW hS));refine Gp ?_;refine⟨_,⟨_,rfl,?_,rfl⟩,aW hS⟩;rw[zzy];exact⟨λc=>⟨c1,c2,c3,c4,c5,c6,c7,c8,c9,c⟩,λc=>c.2.2.2.2.2.2.2.2.2⟩
def uL(L:List Rq)(i t:Nat):Bool:=(L.take i).any λr=>decide (r.table=(t:Int)) && !r.done
def VW{L:List Rq}{i t:Nat}:uL L i t=true↔∃k,∃h:k<L.length,k<i/\L[k].table=(t:Int)/\L[k].done=false:=by
 unfold uL;rw[List.any_eq_true];constructor
 ·rintro ⟨r,hr,hx⟩;obtain⟨k,hk,rfl⟩:=yy5.1 hr;rw[zzf]at hk
  refine⟨k,by omega,by omega,?_⟩;simpa using hx
 rintro ⟨k,h,hk,h1,h2⟩;refine⟨L[k],yy5.2 ⟨k,by rw[zzf];omega,by simp⟩,by simp[h1,h2]⟩
def vN(L:List Rq)(i:Nat):Ξ:=(List.range 8).map λt=>.bool (uL L i t)
def VX(L:List Rq)(i:Nat){t:Nat}(h:t<8){o:Nat}(ho:o=t):(vN L i)[o]?=some (.bool (uL L i t)):=by
 subst ho;unfold vN;simp[h]
def b_a{L:List Rq}{i t:Nat}(hi:i<L.length)(ht:L[i].table=(t:Int))(h:uL L i t=false){o:Nat}(ho:o=t):(vN L i).set o (.bool !L[i].done)=vN L (i+1):=by
 subst ho;unfold vN;refine xxp (by simp) λj h1 h2=>?_;have hj:j<8:=by simpa using h2
 rw[xxi];have hs:∀t:Nat,uL L (i+1) t=(uL L i t || (decide (L[i].table=(t:Int)) && !L[i].done)):=λt=>by
  unfold uL;rw[zze hi,List.any_append];simp
 split
 ·rename_i e;subst e;simp only[xxy,List.getElem_range];rw[hs,h,ht];simp
 rename_i e;simp only[xxy,List.getElem_range];rw[hs,ht];have:¬((o:Int)=(j:Int)):=by omega
 simp[this]
def b_b(L:List Rq):vN L 0=[.bool false,.bool false,.bool false,.bool false,.bool false,.bool false,.bool false,.bool false]:=by
 simp[vN,uL,List.range,List.range.loop]
def wg(L:List Rq)(i:Nat):Int:=if i=0 then 0 else (L[i-1]?.map (·.at_)).getD 0
def bXl(H:bw)(v:Ε)(L:List Rq)(hv:jc H v L)(hn:L.length<=140737488351232):
  SP 330 [v] [.mem H] (λu post=>∃q:Bool,u= .bool q/\(q=true↔gg L)/\post=[.mem H]):=by
 refine Enzz λW F w hS=>?_;apply cIh;delta Ou aI a_ aR cL cw ai;have fp:∀{w:Ζ},¬gg L->SL W (.mem H::F) w->∃post,(∃q:Bool,(.bool false:Ε)= .bool q/\(q=true↔gg L)/\post=[.mem H])/\SL W (app post F) w:=λh hS=>
  ⟨_,⟨false,rfl,⟨λe=>(by cases e),λe=>absurd e h⟩,rfl⟩,hS⟩
 refine zE hS ?_;clear hS;intro ob w hS;refine zo hv ?_;rw[<- b_b L]at hS
 refine⟨λus w=>∃i:Nat,us=[Γ (wg L i),Γ i]/\i<=L.length/\(∀j,j<i->DX L j)/\SL W (.pt ob (vN L i) 489::.mem H::F) w,
  λus _=>match us with|[_,.int _ i]=>(L.length-i).toNat|_=>0,⟨0,rfl,by omega,λj h=>by omega,aW hS⟩,?_⟩
 clear hS;rintro v4 v9 w ⟨i,cO,hi,eE,hS⟩;cases cO;refine bY (λh=>?_) (λh=>?_)
 ·have cx:i<L.length:=by omega
  have fB:∀{w:Ζ},¬DX L i->SL W (.mem H::F) w->∃post,(∃q:Bool,(.bool false:Ε)= .bool q/\(q=true↔gg L)/\post=[.mem H])/\SL W (app post F) w:=λh hS=>fp (λhp=>h (hp.2 i)) hS;refine zD hS Xh nC hv (x:=L[i]) (by simp[cx]) cx ?_;refine zE hS ?_;clear hS;intro b w hS;refine zr (vs:=iD L[i]) hS .hd rfl rfl (Ez _) ?_;clear hS;intro w hS;have xB:DX L i->vM i L[i]/\(∀h0:0<i,L[i-1].at_<=L[i].at_)/\∀k (hk:k<i),¬(L[k].table=L[i].table/\L[k].done=false):=λh=>h cx;have S6:max (wg L i) 1<=L[i].at_↔1<=L[i].at_/\∀h0:0<i,L[i-1].at_<=L[i].at_:=by
   unfold wg;by_cases h0:i=0
   ·rw[zzc h0];exact⟨λe=>⟨by omega,λh=>by omega⟩,λe=>by have:=e.1;omega⟩
   rw[zzb h0,zzd (by omega)];simp only[yyf,xxd];exact⟨λe=>⟨by omega,λ_=>by omega⟩,λe=>by have:=e.1;have:=e.2 (by omega);omega⟩
  unfold iD at hS;refine Gp ?_;refine za (λc=>fB (λhp=>by have:=(xB hp).1.1;omega) (aW hS)) (λc1=>?_);refine zA hS Xh rfl ?_;refine Cc (bZ8 L[i] (wg L i)) ?_;clear hS;rintro _ post ⟨q1,rfl,tA,rfl⟩ w hS;(try simp only[app]at hS);refine Gp ?_
  refine zu (λhe=>fB (λhp=>?_) (aW hS)) (λhe=>?_)
  ·have hp:=xB hp;have h1:GC L[i] (wg L i):=⟨hp.1.2.1,hp.1.2.2.1,hp.1.2.2.2.1,hp.1.2.2.2.2.1,S6.2 ⟨hp.1.2.2.2.2.2.1,hp.2.1⟩,hp.1.2.2.2.2.2.2.1,hp.1.2.2.2.2.2.2.2.1,hp.1.2.2.2.2.2.2.2.2.1,hp.1.2.2.2.2.2.2.2.2.2.1,hp.1.2.2.2.2.2.2.2.2.2.2⟩;rw[tA.2 h1]at he;cases he
  have hQ:=tA.1 he;have ib:=S6.1 hQ.2.2.2.2.1;obtain⟨t,ht⟩:∃t:Nat,L[i].table=(t:Int):=⟨L[i].table.toNat,by have:=hQ.1;omega⟩;have C_:t<8:=by have:=hQ.2.1;omega
  have Uj:Γ L[i].table= Γ (t:Int):=by rw[ht]
  refine Gp ?_;rw[Uj]at hS ⊢
  refine yB C_ (zV hS Xh (VX L i C_ (by omega)) ?_);refine yU (λho=>fB (λhp=>?_) (aW hS)) (λho=>?_)
  ·obtain⟨k,hk,hki,h1,h2⟩:=VW.1 ho;exact (xB hp).2.2 k hki ⟨by rw[h1,ht],h2⟩
  refine Gn λw hS=>?_;refine yB C_ ?_;refine ZA hS Xu (VX L i C_ (by omega)) rfl ?_;clear hS;intro w hS;rw[b_a cx ht ho (by omega)]at hS
  refine Gp ?_;have ea:wg L (i+1)=L[i].at_:=by
   unfold wg;rw[zzb (by omega),Nat.add_sub_cancel,zzd cx];rfl
  refine⟨⟨i+1,by rw[ea],by omega,λj hj=>?_,aW hS⟩,by dsimp only;omega⟩;by_cases e:j=i
  ·subst e;refine λ_=>⟨⟨by omega,hQ.1,hQ.2.1,hQ.2.2.1,hQ.2.2.2.1,ib.1,hQ.2.2.2.2.2.1,hQ.2.2.2.2.2.2.1,hQ.2.2.2.2.2.2.2.1,hQ.2.2.2.2.2.2.2.2.1,hQ.2.2.2.2.2.2.2.2.2⟩,ib.2,λk hk hx=>?_⟩;have:=VW.2 ⟨k,by omega,hk,by rw[hx.1,ht],hx.2⟩;rw[ho]at this;cases this
  exact eE j (by omega)
 have jL:i=L.length:=by omega
 subst jL;refine zo hv ?_;refine Gp ?_;refine⟨_,⟨_,rfl,?_,rfl⟩,aW hS⟩;rw[zzy];exact⟨λh=>⟨by omega,λj hj=>eE j hj hj⟩,λhp=>by have:=hp.1;omega⟩
def Zj(H:bw)(v:Ε)(L:List Rq)(hv:jc H v L)(hn:L.length<=140737488351232):
  SP 279 [v] [.mem H] (λu post=>∃q:Bool,u= .bool q/\(q=true↔gg L)/\post=[.mem H]):=by
 refine Enzz λW F w hS=>?_;apply cHa;unfold NN;refine Cc (bXl H v L hv hn) ?_;clear hS;rintro _ post ⟨q,rfl,hq,rfl⟩ w hS;try simp only[app]at hS
 exact⟨_,⟨q,rfl,hq,rfl⟩,aW hS⟩
def sG(L:List Rq)(id:Int):Bool:=decide (1<=id/\id<=L.length) && (match L[(id-1).toNat]? with|some r=>!r.done|none=>false)
def czq{a b:Int}{K:Ε->Prop}(h:K (Γ (IntKind.i64.wrap (a-b)))):zc .sub (Γ a) (Γ b) K:=⟨_,rfl,h⟩
def XV{n:Int}(h : -9223372036854775808<=n/\n<=9223372036854775807):IntKind.i64.wrap n=n:=wwe _ h
def QI(H:bw)(v:Ε)(L:List Rq)(id:Int)(hv:jc H v L)(hn:L.length<=1000)(hid : -9223372036854775808<=id/\id<=9223372036854775807):
  SP 340 [v,Γ id] [.mem H] (cC (.tuple #[Γ (IntKind.i64.wrap (id-1)),.bool (sG L id)]) [.mem H]):=by
 refine Enzz λW F w hS=>?_;apply cIs;delta OE aI aR ai;refine Gn λw hS=>?_;refine czq ?_;refine bY (λh1=>?_) (λh1=>?_)
 ·refine zo hv ?_;refine bY (λh2=>?_) (λh2=>?_)
  ·obtain⟨j,rfl⟩:∃j:Nat,id=((j+1:Nat):Int):=⟨(id-1).toNat,by omega⟩;have hj:j<L.length:=by omega
   have ej:((j+1:Nat):Int)-1=(j:Int):=by omega
   have hp:sG L ((j+1:Nat):Int) = !L[j].done:=by
    unfold sG;rw[zzl (by omega),show (((j+1:Nat):Int)-1).toNat=j by omega,zzd hj];rfl
   rw[hp,XV (by omega),ej];refine Gp ?_;rw[ej];have hd:=p' nC L j 6 L[j] (.bool L[j].done) (by simp[hj]) rfl;refine Y1 hv hj λb o hb=>yL (Ga hS Xh (hb 6 _ (by decide) hd) ?_);refine Gp ?_;refine Ga hS Xh (hb 6 _ (by decide) hd) ?_;exact⟨rfl,_,⟨rfl,rfl⟩,aW hS⟩
  have hp:sG L id=false:=by unfold sG;rw[zzz (by omega)];rfl
  rw[hp];exact cA hS
 have hp:sG L id=false:=by unfold sG;rw[zzz (by omega)];rfl
 rw[hp];exact cA hS
def z8(H:bw)(v:Ε)(L:List Rq)(hv:jc H v L)(hn:L.length<=1000):
  SP 85 [v] [.mem H] (λu post=>post=[.ob (bI u 98 7 L.length (L.map iD).flatten),.mem H]):=by
 exact Ro cKj rfl (by decide) hv (cxe L) (by omega) (by omega)
def Zl(H:bw)(v:Ε)(L:List Rq)(table weight at_:Int)(hv:jc H v L)(hn:L.length<=1000):
  SP 328 [v,Γ table,Γ weight,Γ at_] [.mem H] (λu post=>GI H u post (pw L table weight at_)):=by
 refine Enzz λW F w hS=>?_;apply cIe;delta Oo cL ai bR;refine Cc (z8 H v L hv hn) ?_;clear hS;rintro v1 post rfl w hS;(try simp only[app]at hS);refine zo hv ?_;refine Gm λb w hS=>?_;refine zJ (n:=L.length) (m:=1) (cells:=(L.map iD).flatten) hS Xr (j8 (cs:=iD ⟨((L.length+1:Nat):Int),table,weight,at_,0,0,false⟩) hS .hd rfl) rfl rfl (Ez _) (by omega) (by omega) ?_;clear hS;intro v2 w hS;rw[<- vj]at hS
 obtain⟨H1,dj,jC,hS⟩:=zz (H:=H) (v:=v2) (n:=L.length+1) (sz:=7) (t:=98) (cells:=((L++[(⟨((L.length+1:Nat):Int),table,weight,at_,0,0,false⟩:Rq)]).map iD).flatten) hS Xp;have hlen:(L++[(⟨((L.length+1:Nat):Int),table,weight,at_,0,0,false⟩:Rq)]).length=L.length+1:=by simp
 have jC:jc H1 v2 (L++[(⟨((L.length+1:Nat):Int),table,weight,at_,0,0,false⟩:Rq)]):=by unfold jc;rw[hlen];exact jC
 have hN:xR L table weight at_=⟨((L.length+1:Nat):Int),table,weight,at_,0,0,false⟩:=rfl;unfold pw;rw[hN];generalize Cx:L++[(⟨((L.length+1:Nat):Int),table,weight,at_,0,0,false⟩:Rq)]=L2 at jC hlen ⊢;refine Cc (Zj H1 v L (hv.mono dj) (by omega)) ?_;clear hS;rintro _ post ⟨q1,rfl,tA,rfl⟩ w hS;(try simp only[app]at hS);refine Gp ?_
 refine zu (λhe=>?_) (λhe=>?_)
 ·rw[zzb λh=>by rw[tA.2 h.1]at he;cases he];exact⟨_,⟨H1,dj,rfl,rfl⟩,aW hS⟩
 skip
 refine Cc (Zj H1 v2 L2 jC (by omega)) ?_;clear hS;rintro _ post ⟨q2,rfl,kz,rfl⟩ w hS;(try simp only[app]at hS);refine Gp ?_
 refine zu (λE9=>?_) (λE9=>?_)
 ·rw[zzb λh=>by rw[kz.2 h.2]at E9;cases E9];exact⟨_,⟨H1,dj,rfl,rfl⟩,aW hS⟩
 rw[zzc ⟨tA.1 he,kz.1 E9⟩];exact⟨_,⟨H1,dj,rfl,v2,rfl,jC⟩,aW hS⟩
def b_x{L:List Rq}{id:Int}(h:sG L id=true):∃j:Nat,∃hj:j<L.length,id=((j+1:Nat):Int)/\L[j].done=false:=by
 unfold sG at h;rw[zz9,zzy]at h
 obtain⟨⟨h1,h2⟩,h3⟩:=h;have hj:(id-1).toNat<L.length:=by omega
 rw[zzd hj]at h3
 exact⟨(id-1).toNat,hj,by omega,by simpa using h3⟩
def aRb{L:List Rq}{id c:Int}{dn:Bool}(h:sG L id=false):lW L id c dn=none:=by
 unfold lW;split
 ·rename_i hc;have hj:(id-1).toNat<L.length:=by omega
  unfold sG at h;rw[zzl hc.2,zzd hj]at h
  rw[zzd hj];simp only[vv6,Bool.not_eq_false']at h;simp only[h,true_or,ww8]
 rfl
def Kf{L:List Rq}{rest:Ξ}{j i:Nat}(hj:j<L.length)(hi:i<7){v:Ε}{y:Rq}(hy:(iD L[j]).set i v=iD y):((L.map iD).flatten++rest).set (0+j*7+i) v=((L.set j y).map iD).flatten++rest:=by
 rw[yye,wwn _ _ (by rw[oP nC];omega),HR nC L j i hj y v hi hy]
def F9{L:List Rq}{rest:Ξ}{j i:Nat}(hj:j<L.length){u:Ε}(hu:(iD L[j])[i]?=some u):((L.map iD).flatten++rest)[0+j*7+i]?=some u:=by
 have h:=p' nC L j i L[j] u (zzd hj) hu;rw[yye,zzt (zzj.1 h).1];exact h
def ZI(H:bw)(v:Ε)(L:List Rq)(id dz:Int)(dn:Bool)(hv:jc H v L)(hn:L.length<=1000)(hid : -9223372036854775808<=id/\id<=9223372036854775807):
  SP 295 [v,Γ id,Γ dz,.bool dn] [.mem H] (λu post=>GI H u post (lW L id dz dn)):=by
 refine Enzz λW F w hS=>?_;apply cHr;delta N4 aI a_ cL ai bR;have fp:∀{w:Ζ},lW L id dz dn=none->SL W (.mem H::F) w->∃post,GI H (.tuple #[Θ,.bool false]) post (lW L id dz dn)/\SL W (app post F) w:=λe hS=>⟨_,⟨H,bw.le_refl H,rfl,by rw[e]⟩,hS⟩;refine Cg (QI H v L id hv hn hid) λw hS=>?_;refine Cc (Zj H v L hv (by omega)) ?_;clear hS;rintro _ post ⟨q1,rfl,tA,rfl⟩ w hS;(try simp only[app]at hS);refine Gp ?_
 refine zu (λhe=>fp (aRa λh=>by rw[tA.2 h.1]at he;cases he) (aW hS)) (λhe=>?_);have hM:=tA.1 he;refine Gp ?_;refine zu (λh=>fp (aRb h) (aW hS)) (λh1=>?_);obtain⟨j,hj,rfl,hd⟩:=b_x h1;have ew:IntKind.i64.wrap (((j+1:Nat):Int)-1)=(j:Int):=by rw[XV (by omega)];omega
 rw[ew];have l6:=aI8 hM hj dz dn;have cG:=(hM.2 j hj).1;unfold vM at cG;have hx:L[j]?=some L[j]:=zzd hj;refine QR hS Xh nC hv hx hj (i:=4) rfl ?_;refine Gp ?_;refine za (λh=>fp (by rw[l6,zzc (.inr (.inl h))]) (aW hS)) (λh4=>?_);refine Gp ?_;refine za (λh=>fp (by rw[l6,zzc (.inr (.inr (.inl h)))]) (aW hS)) (λh5=>?_);refine QR hS Xh nC hv hx hj (i:=5) rfl ?_;refine Gp ?_;refine za (λh=>fp (by rw[l6,zzc (.inr (.inr (.inr h)))]) (aW hS)) (λh6=>?_);rw[l6,zzb (by rw[hd];rintro (h|h|h|h);exact Bool.false_ne_true h;exact h4 h;exact h5 h;exact h6 h)];refine Cc (z8 H v L hv hn) ?_;clear hS;rintro v1 post rfl w hS;(try simp only[app]at hS);rcases bI.open hS with ⟨_,h0,_⟩|⟨ob,cap,rest,rfl,hc,hl,jN,hS⟩
 ·omega
 refine zG hj (yL (ZA hS Xu (F9 hj (i:=4) rfl) rfl ?_));clear hS;intro w hS;rw[Kf hj (by decide) (y:={L[j] with dz:=dz}) rfl]at hS
 have CO:j<(L.set j {L[j] with dz:=dz}).length:=by rw[yyh];exact hj
 have e1:(L.set j {L[j] with dz:=dz})[j]={L[j] with dz:=dz}:=by simp
 refine zG hj (yL (ZA hS Xu (F9 CO (i:=6) (u:=.bool L[j].done) (by rw[e1];rfl)) rfl ?_));clear hS;intro w hS;rw[Kf CO (by decide) (y:={L[j] with dz:=dz,done:=dn}) (by rw[e1];rfl),List.set_set]at hS
 have oh:j<(L.set j {L[j] with dz:=dz,done:=dn}).length:=by rw[yyh];exact hj
 have e2:(L.set j {L[j] with dz:=dz,done:=dn})[j]={L[j] with dz:=dz,done:=dn}:=by simp
 refine zG hj (yL (zV hS .hd (F9 oh (i:=5) (u:=Γ L[j].chunks) (by rw[e2];rfl)) ?_));refine Gp ?_;refine zG hj (yL (ZA hS Xu (F9 oh (i:=5) (u:=Γ L[j].chunks) (by rw[e2];rfl)) rfl ?_));clear hS;intro w hS;rw[Kf oh (by decide) (y:={L[j] with dz:=dz,chunks:=L[j].chunks+1,done:=dn}) (by rw[e2];rfl),List.set_set]at hS
 generalize Cx:L.set j {L[j] with dz:=dz,chunks:=L[j].chunks+1,done:=dn}=L2 at *
 have hlen:L2.length=L.length:=by rw[<- Cx,yyh]
 have hS:=bI.mk (n:=L2.length) (cap:=cap) (sz:=7) (rest:=rest) (by omega) (oP nC L2) (by rw[hlen];exact jN) hS;obtain⟨H1,dj,jC,hS⟩:=zz (H:=H) (v:=.slice (some ⟨ob,0,none⟩) L2.length cap) (n:=L2.length) (sz:=7) (t:=98) (cells:=(L2.map iD).flatten) hS Xp;exact⟨_,⟨H1,dj,rfl,_,rfl,by rw[<- hlen];exact jC⟩,aW hS⟩
structure iA where
 aw:Int
 ov:Ε
 nv:Ε
def eJ(x:iA):Ξ:=[Γ x.aw,x.ov,x.nv]
abbrev X_(H:bw)(v:Ε)(l:List gl):Prop:=dx H 5 v l.length (l.map jB).flatten
abbrev X9(H:bw)(v:Ε)(l:List il):Prop:=dx H 7 v l.length (l.map kI).flatten
structure gZ(H:bw)(x:iA)(t:cD):Prop where
 aw:x.aw=t.aw
 ops:X_ H x.ov t.ops
 iN:X9 H x.nv t.notes
def gZ.mono{H H':bw}(hh:H.le H'){x:iA}{t:cD}(h:gZ H x t):gZ H' x t:=⟨h.aw,h.ops.mono hh,h.iN.mono hh⟩
def a_3(x:iA):(eJ x).length=3:=rfl
def HH(n:il):∀v∈kI n,v.oneCell'=true:=by simp[kI,Value.oneCell']
def wJ(o:gl):(jB o).length=5:=rfl
def mq{H:bw}{x:iA}{t:cD}(h:gZ H x t):∀v∈eJ x,v.oneCell'=true:=by
 intro v hv;simp only[eJ,zz8,xxj,vvw]at hv;rcases hv with rfl|rfl|rfl
 ·rfl
 ·exact h.ops.one
 exact h.iN.one
def uQ(b:Φ):∀v∈b.map cX,v.oneCell'=true:=λv hv=>by
 obtain⟨x,_,rfl⟩:=zzv.1 hv;rfl
section
variable {W w:Ζ} {l:Β}
def Zn{F:Β}{a:Option Addr}{k cap:Nat}{cs:Ξ}{K:Ε->Ζ->Prop}(hS:SL W F w)(iw:∀w' c,SL W (c::F) w'->kE w' 1 (.slice a k cap) k cs)(hl:cs.length=k)(h1:∀v∈cs,v.oneCell'=true)(hb:k<=140737488355328)
  (h:∀u w',SL W (.ob (bI u 5 1 k cs)::F) w'->(a.isSome=true->u≠Θ\/k=0)->K u w'):aF 193 [.slice a k cap] w K:=by
 apply cFb;delta MA bR;refine WD ?_;cases a with
 | none=>
  refine zq ?_;have hs:=iw _ _ (bI.nil (t:=5) (sz:=1) hS);obtain rfl:cs=[]:=hs.2;obtain rfl:k=0:=by simpa using hl.symm
  exact h _ _ (bI.nil hS) (λh=>by cases h)
 | some p=>
  refine zp ?_;refine zN hS rfl ?_;intro b w' gA;have pI:SL W (.ob (bI (.slice (some ⟨b,0,none⟩) 0 0) 5 1 0 [])::F) w':=bI.full rfl gA;refine zJ pI .hd (iw _ _ pI) (by rw[hl];omega) rfl h1 (by omega) (by omega) ?_;intro u w2 AG;rw[yye,zzq]at AG
  refine h u w2 AG λ_=>?_;rcases yy8 k with hk|hk
  ·exact .inr hk
  refine .inl λe=>?_;subst e;rcases bI.open AG with ⟨_,h2,_⟩|⟨b,cap,rest,h2,_⟩
  ·omega
  cases h2
def czm{v:Ε}{t:Ι}{sz n k:Nat}{kk:IntKind}{cells:Ξ}{K:Ε->Prop}(h:SL W l w)(m:Has (.ob (bI v t sz n cells)) l)(hk:k<=n)
  (hK:∀a cap,(∀w' l',SL W l' w'->Has (.ob (bI v t sz n cells)) l'->kE w' sz (.slice a k cap) k (cells.take (k*sz)))->K (.slice a k cap)):fh sz v none (some (.int kk (k:Int))) none K:=by
 obtain⟨a,cap,rfl,hl,hx⟩:=bI.at h m;have oU:n<=cap:=by
  obtain⟨l2,r⟩:=m.rem;rcases bI.open (h.perm r.perm) with ⟨⟨a',e⟩,rfl,rfl,_⟩|⟨b,Ej,rest,e,hc,_⟩
  ·cases e;omega
  cases e;exact hc
 refine⟨a,n,cap,0,k,cap,rfl,rfl,⟨kk,rfl⟩,rfl,zz4 _,by omega,zzi _,?_⟩;rw[www,www];have e:(if cap=0 then a else a.map (·.add (0*sz)))=a:=by
  split
  ·rfl
  cases a<;>simp[Addr.add]
 rw[e];refine hK a cap λw' l' h' m'=>?_;have hs:=mZ h' m';cases a with
 | none=>
  obtain⟨e1,e2⟩:=hs;subst e2;have e1:n=n:=e1;have hn:n*sz=0:=by simpa using hl.symm
  refine⟨rfl,by simp⟩
 | some p=>
  obtain⟨_,e2,e3⟩:=hs;refine⟨rfl,by rw[zzf,e2];exact xxn (yyt _ hk),λj v e=>?_⟩;rw[uua]at e
  split at e
  ·exact e3 j v e
  cases e
end
def awu(X:Μ)(dp:Nat)(s:DS)(N:Nat)(cG:s.Ok N)(dS:s.ops<=100000)(f:Int)(bv:Ε)(b:Φ)(hX:∀{W:Ζ} {l:Β} {w:Ζ},SL W l w->Has X l->kE w 1 bv b.length (b.map cX))(hN:((dJ PF.id s.R f).getD (xQ f)).b.length+b.length<=140737488355328):
  SP 220 [Δ dp,Γ f,bv] [.ob (bX dp s),X] (cC (Γ (s.append f b).2) [.ob (bX dp (s.append f b).1),X]):=by
 refine Enzz λW F w hS=>?_;apply cF2;delta M3 aI bU cV ai cT bR;obtain⟨mb,m,L,hr,hS⟩:=bX.iff.1 hS;refine Cg (YC dp mb s f) λw hS=>?_;unfold DS.append;refine za (λh=>?_) (λh=>?_)
 ·rw[zzc h];exact⟨_,⟨rfl,rfl⟩,bX.iff.2 ⟨mb,m,L,hr,aW hS⟩⟩
 rw[zzb h];have hm:may s f=0:=by omega
 obtain⟨h0,uv,AM⟩:=Dm hm;refine Gp ?_;refine yM hS Xh (o9 .i64) wwh yyc (λ_=>rfl) ?_;rw[hr.get f];have cM0:=cG.len;cases hg:dJ fI L f with
 | none=>
  simp only[vvp,ww0];refine Yc (zq ?_);refine yX rfl ?_;refine⟨_,rfl,zE hS ?_⟩;clear hS;intro p w hS;refine Gp ?_;refine qP (key:=Value.int .i64) (val:=gj) (k:=f) (v:=p) hS Xu (o9 .i64) wwh yyc ?_;clear hS;intro _ w hS;refine Gp ?_;have hS:=bI.nil (t:=5) (sz:=1) hS;refine zJ (n:=0) (m:=b.length) hS .hd (hX hS Xh) (by simp) rfl (uQ b) (by omega) (by omega) ?_;clear hS;intro v w hS;rw[yye,zzq]at hS
  have tz:=hS.rD .hd;refine Gn λw hS=>?_;refine Cg (yj dp mb s h0 cG.px cG.p4 dS) λw hS=>?_;have hS:=(eG.iff (x:=((⟨f,0,b⟩:PF),p))).2 ⟨v,SL.bZ hS (t:=.pt p [v,Γ 0] 296::.ob (bI v 5 1 b.length (b.map cX))::.ob (ze eG L)::.pt dp (iC mb s.cE) 168::.ob (eC (Value.int .i64) gj mb (gD m f p))::X::F) Xi⟩;have hS:=ze.snoc (SL.bZ hS (t:=.ob (ze eG L)::.ob (eG ((⟨f,0,b⟩:PF),p))::.pt dp (iC mb s.cE) 168::.ob (eC (Value.int .i64) gj mb (gD m f p))::X::F) Xi);have tu:=hr.new hg (y:=⟨f,0,b⟩) rfl p;have hS:=ze.perm hS (ys:=fU fI L (⟨f,0,b⟩,p)) (by
   have hi:ix fI L (fI ((⟨f,0,b⟩:PF),p))=false:=by rw[<- Cq,show fI ((⟨f,0,b⟩:PF),p)=f from rfl,hg];rfl
   exact vvq.trans (J' hr.rel.2 hi).symm)
  have e:kH s.R f b=fU PF.id s.R ⟨f,0,b⟩:=by
   unfold kH;rw[hr.eU f,hg];rfl
  rw[e];exact⟨_,⟨rfl,rfl⟩,bX.iff.2 ⟨mb,_,_,tu,aW hS⟩⟩
 | some x=>
  obtain⟨g1,g2,g3⟩:=vl hg;have hS:=ze.take (SL.bZ hS (t:=.ob (ze eG L)::.pt dp (iC mb s) 168::.ob (eC (Value.int .i64) gj mb m)::X::F) Xi) g1;obtain⟨v0,hS⟩:=eG.iff.1 hS;simp only[yyf,xxd];unfold gj;refine Yc (zp ?_);refine Gp ?_;have Up:x.1.b.length+b.length<=140737488355328:=by rw[hr.eU f,hg]at hN;exact hN
  refine zJ (n:=x.1.b.length) (m:=b.length) hS Xr (hX hS Xh) (by simp) rfl (uQ b) (by omega) (by omega) ?_;clear hS;intro v w hS;have tz:=hS.rD .hd;refine Gn λw hS=>?_;refine Cg (yj dp mb s h0 cG.px cG.p4 dS) λw hS=>?_;have e1:x.1.b.map cX++b.map cX=(x.1.b++b).map cX:=by rw[zzs]
  have e2:x.1.b.length+b.length=(x.1.b++b).length:=by rw[zza]
  rw[e1,e2]at hS
  have hS:=(eG.iff (x:=((⟨f,x.1.safe,x.1.b++b⟩:PF),x.2))).2 ⟨v,SL.bZ hS (t:=.pt x.2 [v,Γ x.1.safe] 296::.ob (bI v 5 1 (x.1.b++b).length ((x.1.b++b).map cX))::.ob (ze eG (L.eraseIdx (fk fI L f)))::.pt dp (iC mb s.cE) 168::.ob (eC (Value.int .i64) gj mb m)::X::F) Xi⟩;have hS:=ze.put hS g2;have e:kH s.R f b=fU PF.id s.R ⟨f,x.1.safe,x.1.b++b⟩:=by
   unfold kH;rw[hr.eU f,hg];rfl
  rw[e];exact⟨_,⟨rfl,rfl⟩,bX.iff.2 ⟨mb,_,_,hr.set hg (y:=⟨f,x.1.safe,x.1.b++b⟩) rfl,aW hS⟩⟩
def He(X:Μ)(dp:Nat)(s:DS)(N:Nat)(cG:s.Ok N)(dS:s.ops<=100000)(f:Int)(bv:Ε)(b:Φ)(hX:∀{W:Ζ} {l:Β} {w:Ζ},SL W l w->Has X l->kE w 1 bv b.length (b.map cX))(hN:N+b.length<=140737488355328):
  SP 220 [Δ dp,Γ f,bv] [.ob (bX dp s),X] (cC (Γ (s.append f b).2) [.ob (bX dp (s.append f b).1),X]):=
 awu X dp s N cG dS f bv b hX (by have:=SE (f:=f) cG.len;omega)
def HO{s:DS}{m:List (Int × Nat)}{L:List EF}(hr:lR m L s.R)(f:Int):
  (s.find f≠0/\Ck s m f= .tuple #[.pointer none,Γ (s.find f)])\/(s.find f=0/\may s f=0/\∃x,dJ fI L f=some x/\Ck s m f= .tuple #[gj x.2,Γ 0]):=by
 unfold DS.find Ck;by_cases h:may s f=0
 ·have h':¬may s f≠0:=λe=>e h;rw[zzb h',zzb h',hr.get f];have hi:ix PF.id s.R f=(dJ fI L f).isSome:=by rw[<- Cq,hr.eU f,Option.isSome_map]
  rw[hi];cases hg:dJ fI L f with
  | none=>exact .inl ⟨by simp,by simp⟩
  | some x=>exact .inr ⟨by simp,h,x,rfl,rfl⟩
 rw[zzc h,zzc h];exact .inl ⟨h,rfl⟩
def wM{W w:Ζ}{L:List EF}{f:Int}{x:EF}{l:Β}(hg:dJ fI L f=some x)(hS:SL W (.ob (ze eG L)::l) w):SL W (.ob (eG x)::.ob (ze eG (L.eraseIdx (fk fI L f)))::l) w:=ze.take hS (vl hg).1
def HL{W w:Ζ}{L:List EF}{f:Int}{x y:EF}{l:Β}(hg:dJ fI L f=some x)(hS:SL W (.ob (eG y)::.ob (ze eG (L.eraseIdx (fk fI L f)))::l) w):SL W (.ob (ze eG (L.set (fk fI L f) y))::l) w:=ze.put hS (vl hg).2.1
def HM{W w:Ζ}{L:List EF}{f:Int}{x:EF}{l:Β}(hg:dJ fI L f=some x)(hS:SL W (.ob (eG x)::.ob (ze eG (L.eraseIdx (fk fI L f)))::l) w):SL W (.ob (ze eG L)::l) w:=by
 have h:=HL hg hS;have e:L.set (fk fI L f) x=L:=by
  obtain⟨h1,h2⟩:=zzj.1 (vl hg).1;rw[<- h2];simp
 rwa [e]at h
def XC{R:List PF}{f:Int}{x:PF}(h:dJ PF.id R f=some x)(g:PF->PF):ka R f g=fU PF.id R {g x with id:=f}:=by
 unfold ka;rw[h]
def Yj(dp:Nat)(s:DS)(N:Nat)(cG:s.Ok N)(dS:s.ops<=100000)(f:Int):
  SP 221 [Δ dp,Γ f] [.ob (bX dp s)] (cC (Γ (s.sync f).2) [.ob (bX dp (s.sync f).1)]):=by
 refine Enzz λW F w hS=>?_;apply cF3;delta M4 aI bU cV ai;obtain⟨mb,m,L,hr,hS⟩:=bX.iff.1 hS;refine Cc (y5 dp mb s m f) ?_;clear hS;rintro v post ⟨rfl,rfl⟩ w hS;try simp only[app]at hS
 unfold DS.sync;rcases HO hr f with ⟨h1,e⟩|⟨h1,h2,x,hg,e⟩
 ·rw[e,zzc h1];refine Gp ?_;refine za (λh=>absurd h h1) (λ_=>?_);refine Gp ?_;refine za (λh=>absurd h h1) (λ_=>?_);exact⟨_,⟨rfl,rfl⟩,bX.iff.2 ⟨mb,m,L,hr,aW hS⟩⟩
 obtain⟨h0,uv,AM⟩:=Dm h2;rw[e,zzb (λh=>h h1)];unfold gj;refine Gp ?_;refine za (λ_=>?_) (λh=>absurd rfl h);refine Cg (yj dp mb s h0 cG.px cG.p4 dS) λw hS=>?_;by_cases hc:s.cE.off=true
 ·have he:s.cE.err=8:=by unfold DS.err;rw[zzc hc]
  rw[he,zzc hc];refine za (λh=>by cases h) (λ_=>?_);exact⟨_,⟨rfl,rfl⟩,bX.iff.2 ⟨mb,m,L,hr,aW hS⟩⟩
 have he:s.cE.err=0:=by unfold DS.err;rw[zzb hc]
 rw[he,zzb hc];refine za (λ_=>?_) (λh=>absurd rfl h);have hS:=wM hg (SL.bZ hS (t:=.ob (ze eG L)::.pt dp (iC mb s.cE) 168::.ob (eC (Value.int .i64) gj mb m)::F) Xi);obtain⟨v0,hS⟩:=eG.iff.1 hS;refine Gp ?_;refine zt hS (t:=5) (sz:=1) (n:=x.1.b.length) (cells:=x.1.b.map cX) Xh ?_;refine Gn λw hS=>?_;have hS:=HL hg ((eG.iff (x:=((⟨f,x.1.b.length,x.1.b⟩:PF),x.2))).2 ⟨v0,SL.bZ hS (t:=.pt x.2 [v0,Γ (x.1.b.length:Int)] 296::.ob (bI v0 5 1 x.1.b.length (x.1.b.map cX))::.ob (ze eG (L.eraseIdx (fk fI L f)))::.pt dp (iC mb s.cE) 168::.ob (eC (Value.int .i64) gj mb m)::F) Xi⟩);have eR:=XC (f:=f) (x:=x.1) (by rw[hr.eU f,hg];rfl) λx=>{x with safe:=x.b.length};rw[eR];exact⟨_,⟨rfl,rfl⟩,bX.iff.2 ⟨mb,_,_,hr.set hg (y:=⟨f,x.1.b.length,x.1.b⟩) rfl,aW hS⟩⟩
def Yu(x:EF)(n:Nat)(hn:n<=x.1.b.length)(hb:n<=140737488355328):SP 185 [gj x.2,Γ (n:Int)] [.ob (eG x)] (cC (.tuple #[]) [.ob (eG (jd n x.1,x.2))]):=by
 refine Enzz λW F w hS=>?_;apply cE6;delta Mv bU cV;obtain⟨v0,hS⟩:=eG.iff.1 hS;unfold gj;refine Gp ?_;refine czm hS (t:=5) (sz:=1) (n:=x.1.b.length) (cells:=x.1.b.map cX) Xh hn ?_;intro a cap iw;refine Zn (cs:=(x.1.b.map cX).take (n*1)) hS (λw' c gA=>iw w' _ gA (.tl Xh)) (by simp;omega) (λv hv=>uQ _ v (yyo hv)) (by omega) ?_;clear hS;intro u w hS _;have tz:=hS.rD .hd;refine Gn λw hS=>?_;have e1:(x.1.b.map cX).take (n*1)=(jd n x.1).b.map cX:=by rw[vvs,<- List.map_take];rfl
 have e2:(jd n x.1).b.length=n:=by simp only[jd,zzf];omega
 have e3:min (x.1.safe:Int) (n:Int)=(((jd n x.1).safe:Nat):Int):=by simp only[jd];omega
 rw[e1,e3]at hS
 refine⟨_,⟨rfl,rfl⟩,eG.iff.2 ⟨u,?_⟩⟩;rw[e2];exact aW hS
def bXe{s:DS}{m:List (Int × Nat)}{L:List EF}(hr:lR m L s.R){f:Int}{x:EF}(hg:dJ fI L f=some x):gf s.R f=x.1.b.length:=by
 unfold gf;rw[hr.eU f,hg];rfl
def Zt(dp:Nat)(s:DS)(N:Nat)(cG:s.Ok N)(hN:N<=140737488355328)(dS:s.ops<=100000)(f n:Int):
  SP 251 [Δ dp,Γ f,Γ n] [.ob (bX dp s)] (cC (Γ (s.cut f n).2) [.ob (bX dp (s.cut f n).1)]):=by
 refine Enzz λW F w hS=>?_;apply cGv;delta Nx aI bU ai;obtain⟨mb,m,L,hr,hS⟩:=bX.iff.1 hS;refine Cc (y5 dp mb s m f) ?_;clear hS;rintro v post ⟨rfl,rfl⟩ w hS;try simp only[app]at hS
 unfold DS.cut;rcases HO hr f with ⟨h1,e⟩|⟨h1,h2,x,hg,e⟩
 ·rw[e,zzc h1];refine Gp ?_;refine⟨λus w=>us=[Γ (s.find f)]/\SL W (.pt dp (iC mb s) 168::.ob (eC (Value.int .i64) gj mb m)::.ob (ze eG L)::F) w,?_,?_⟩
  ·refine Gp ?_;refine za (λh=>absurd h h1) (λ_=>?_);exact⟨rfl,aW hS⟩
  clear hS;rintro v8 w ⟨cO,hS⟩;cases cO;refine Gp ?_;refine za (λh=>absurd h h1) (λ_=>?_);refine Gp ?_;refine za (λh=>absurd h h1) (λ_=>?_);exact⟨_,⟨rfl,rfl⟩,bX.iff.2 ⟨mb,m,L,hr,aW hS⟩⟩
 obtain⟨h0,uv,AM⟩:=Dm h2;rw[e,zzb (λh=>h h1)];unfold gj;refine Gp ?_;rw[bXe hr hg];have Up:x.1.b.length<=N:=cG.len _ (by rw[<- hr.eq];exact zzv.2 ⟨x,yy9 (vl hg).1,rfl⟩);refine⟨λus w=>us=[Γ (if n<0\/(x.1.b.length:Int)<n then 1 else 0)]/\SL W (.pt dp (iC mb s) 168::.ob (eC (Value.int .i64) gj mb m)::.ob (ze eG L)::F) w,?_,?_⟩
 ·refine Gp ?_;refine za (λ_=>?_) (λh=>absurd rfl h);refine bY (λh=>?_) (λh=>?_)
  ·rw[zzc (.inl h)];exact⟨rfl,aW hS⟩
  have hS:=wM hg (SL.bZ hS (t:=.ob (ze eG L)::.pt dp (iC mb s) 168::.ob (eC (Value.int .i64) gj mb m)::F) Xi);obtain⟨v0,hS⟩:=eG.iff.1 hS;refine Gp ?_;refine zt hS (t:=5) (sz:=1) (n:=x.1.b.length) (cells:=x.1.b.map cX) Xh ?_;refine Gp ?_;have hS:=HM hg (eG.iff.2 ⟨v0,hS⟩);refine za (λh3=>?_) (λh3=>?_)
  ·rw[zzc (.inr h3)];exact⟨rfl,aW hS⟩
  rw[zzb (by omega)];exact⟨rfl,aW hS⟩
 clear hS;rintro v8 w ⟨cO,hS⟩;cases cO;refine Gp ?_;by_cases hn:n<0\/(x.1.b.length:Int)<n
 ·rw[zzc hn,zzc hn];refine za (λh=>by cases h) (λ_=>?_);refine Gp ?_;refine za (λh=>by cases h) (λ_=>?_);exact⟨_,⟨rfl,rfl⟩,bX.iff.2 ⟨mb,m,L,hr,aW hS⟩⟩
 rw[zzb hn,zzb hn];refine za (λ_=>?_) (λh=>absurd rfl h);refine Cg (yj dp mb s h0 cG.px cG.p4 dS) λw hS=>?_;by_cases hc:s.cE.off=true
 ·have he:s.cE.err=8:=by unfold DS.err;rw[zzc hc]
  rw[he,zzc hc];refine za (λh=>by cases h) (λ_=>?_);exact⟨_,⟨rfl,rfl⟩,bX.iff.2 ⟨mb,m,L,hr,aW hS⟩⟩
 have he:s.cE.err=0:=by unfold DS.err;rw[zzb hc]
 rw[he,zzb hc];refine za (λ_=>?_) (λh=>absurd rfl h);have hS:=wM hg (SL.bZ hS (t:=.ob (ze eG L)::.pt dp (iC mb s.cE) 168::.ob (eC (Value.int .i64) gj mb m)::F) Xi);obtain⟨k,rfl⟩:∃k:Nat,n=(k:Int):=⟨n.toNat,by omega⟩;have hC:=Yu x k (by omega) (by omega);unfold gj at hC;refine Cg (hC) λw hS=>?_;have hS:=HL hg (y:=({jd k x.1 with id:=f},x.2)) (SL.bZ hS (t:=.ob (eG ({jd k x.1 with id:=f},x.2))::.ob (ze eG (L.eraseIdx (fk fI L f)))::.pt dp (iC mb s.cE) 168::.ob (eC (Value.int .i64) gj mb m)::F) (by
  have:(jd k x.1,x.2)=(({jd k x.1 with id:=f}:PF),x.2):=by
   have:=(vl hg).2.2;unfold fI at this;rw[<- this];rfl
  rw[this];exact Xi))
 have eR:=XC (f:=f) (x:=x.1) (by rw[hr.eU f,hg];rfl) (jd (k:Int).toNat);rw[eR,zzw];exact⟨_,⟨rfl,rfl⟩,bX.iff.2 ⟨mb,_,_,hr.set hg (y:={jd k x.1 with id:=f}) rfl,aW hS⟩⟩
def yP(dp:Nat)(s:DS)(N:Nat)(cG:s.Ok N)(dS:s.ops<=100000)(f:Int):
  SP 252 [Δ dp,Γ f] [.ob (bX dp s)] (cC (Γ (s.remove f).2) [.ob (bX dp (s.remove f).1)]):=by
 refine Enzz λW F w hS=>?_;apply cGw;delta Ny aI bU ai;obtain⟨mb,m,L,hr,hS⟩:=bX.iff.1 hS;refine Cc (y5 dp mb s m f) ?_;clear hS;rintro v post ⟨rfl,rfl⟩ w hS;try simp only[app]at hS
 unfold DS.remove;rcases HO hr f with ⟨h1,e⟩|⟨h1,h2,x,hg,e⟩
 ·rw[e,zzc h1];refine Gp ?_;refine za (λh=>absurd h h1) (λ_=>?_);refine Gp ?_;refine za (λh=>absurd h h1) (λ_=>?_);exact⟨_,⟨rfl,rfl⟩,bX.iff.2 ⟨mb,m,L,hr,aW hS⟩⟩
 obtain⟨h0,uv,AM⟩:=Dm h2;rw[e,zzb (λh=>h h1)];unfold gj;refine Gp ?_;refine za (λ_=>?_) (λh=>absurd rfl h);refine Cg (yj dp mb s h0 cG.px cG.p4 dS) λw hS=>?_;by_cases hc:s.cE.off=true
 ·have he:s.cE.err=8:=by unfold DS.err;rw[zzc hc]
  rw[he,zzc hc];refine za (λh=>by cases h) (λ_=>?_);exact⟨_,⟨rfl,rfl⟩,bX.iff.2 ⟨mb,m,L,hr,aW hS⟩⟩
 have he:s.cE.err=0:=by unfold DS.err;rw[zzb hc]
 rw[he,zzb hc];refine za (λ_=>?_) (λh=>absurd rfl h);refine Gp ?_;refine cx6 (key:=Value.int .i64) (val:=gj) (k:=f) hS Xu (o9 .i64) wwh yyc ?_;clear hS;intro _ w hS;have hS:=wM hg (SL.bZ hS (t:=.ob (ze eG L)::.pt dp (iC mb s.cE) 168::.ob (eC (Value.int .i64) gj mb (rA m f))::F) Xi);have eL:jA fI L f=L.eraseIdx (fk fI L f):=by
  unfold jA;rw[zzc (by rw[<- Cq,hg];rfl)]
 have hd:=hr.del f;rw[eL]at hd
 exact⟨_,⟨rfl,rfl⟩,bX.iff.2 ⟨mb,_,_,hd,aW hS⟩⟩
def BT(dp:Nat)(s:DS)(f:Int)(v:Ε)(post:Β):Prop:=match dJ PF.id s.R f with
 | none=>v= .tuple #[Θ,.bool false]/\post=[.ob (bX dp s)]
 | some x=>∃u,v= .tuple #[u,.bool true]/\post=[.ob (bX dp s),.ob (bI u 5 1 x.b.length (x.b.map cX))]
def Ya(dp:Nat)(s:DS)(N:Nat)(cG:s.Ok N)(hN:N<=140737488355328)(f:Int):
  SP 269 [Δ dp,Γ f] [.ob (bX dp s)] (BT dp s f):=by
 refine Enzz λW F w hS=>?_;apply cG0;delta NC bU cT bR;obtain⟨mb,m,L,hr,hS⟩:=bX.iff.1 hS;refine Gp ?_;refine yM hS Xh (o9 .i64) wwh yyc (λ_=>rfl) ?_;rw[hr.get f];cases hg:dJ fI L f with
 | none=>
  simp only[vvp,ww0];refine Yc (zq ?_);exact⟨[.ob (bX dp s)],by unfold BT;rw[hr.eU f,hg];exact⟨rfl,rfl⟩,bX.iff.2 ⟨mb,m,L,hr,aW hS⟩⟩
 | some x=>
  simp only[yyf,xxd];unfold gj;refine Yc (zp ?_);have Up:x.1.b.length<=N:=cG.len _ (by rw[<- hr.eq];exact zzv.2 ⟨x,yy9 (vl hg).1,rfl⟩);have hS:=wM hg (SL.bZ hS (t:=.ob (ze eG L)::.pt dp (iC mb s) 168::.ob (eC (Value.int .i64) gj mb m)::F) Xi);obtain⟨v0,hS⟩:=eG.iff.1 hS;refine Gp ?_;obtain⟨a,cap,rfl,hl,_⟩:=bI.at hS (t:=5) (sz:=1) (n:=x.1.b.length) (cells:=x.1.b.map cX) Xh;refine Zn (cs:=x.1.b.map cX) hS (λw' c gA=>mZ gA (.tl Xh)) (by simp) (uQ _) (by omega) ?_;clear hS;intro u w hS _;have hS:=HM hg ((eG.iff (x:=x)).2 ⟨_,SL.bZ hS (t:=.pt x.2 [.slice a x.1.b.length cap,Γ x.1.safe] 296::.ob (bI (.slice a x.1.b.length cap) 5 1 x.1.b.length (x.1.b.map cX))::.ob (ze eG (L.eraseIdx (fk fI L f)))::.ob (bI u 5 1 x.1.b.length (x.1.b.map cX))::.pt dp (iC mb s) 168::.ob (eC (Value.int .i64) gj mb m)::F) Xi⟩);exact⟨[.ob (bX dp s),.ob (bI u 5 1 x.1.b.length (x.1.b.map cX))],by unfold BT;rw[hr.eU f,hg];exact⟨u,rfl,rfl⟩,bX.iff.2 ⟨mb,m,L,hr,aW hS⟩⟩
def YB(dp:Nat)(s:DS)(f:Int):
  SP 250 [Δ dp,Γ f] [.ob (bX dp s)] (cC (Γ (gf s.R f)) [.ob (bX dp s)]):=by
 refine Enzz λW F w hS=>?_;apply cGu;delta Nw bU ai cT;obtain⟨mb,m,L,hr,hS⟩:=bX.iff.1 hS;unfold gf;rw[hr.eU f];refine Gp ?_;refine yM hS Xh (o9 .i64) wwh yyc (λ_=>rfl) ?_;rw[hr.get f];cases hg:dJ fI L f with
 | none=>
  simp only[vvp,ww0];refine Kj (zp ?_);exact⟨_,⟨rfl,rfl⟩,bX.iff.2 ⟨mb,m,L,hr,aW hS⟩⟩
 | some x=>
  simp only[yyf,xxd];unfold gj;refine Kj (zq ?_);have hS:=wM hg (SL.bZ hS (t:=.ob (ze eG L)::.pt dp (iC mb s) 168::.ob (eC (Value.int .i64) gj mb m)::F) Xi);obtain⟨v0,hS⟩:=eG.iff.1 hS;refine Gp ?_;refine zt hS (t:=5) (sz:=1) (n:=x.1.b.length) (cells:=x.1.b.map cX) Xh ?_;have hS:=HM hg ((eG.iff (x:=x)).2 ⟨_,hS⟩);exact⟨_,⟨rfl,rfl⟩,bX.iff.2 ⟨mb,m,L,hr,aW hS⟩⟩
def wf_i64{n:Int}(h : -9223372036854775808<=n/\n<=9223372036854775807):(Lit.int .i64 n).wf=true:=by
 simpa [Lit.wf,IntKind.min,IntKind.max,IntKind.signed,IntKind.bits] using h
def ZF(dp:Nat)(s:DS)(N:Nat)(cG:s.Ok N)(hR:s.R.length<=100000):
  SP 184 [Δ dp] [.ob (bX dp s)] (λv post=>post=[.ob (bX dp s),.ob (bI v 3 1 s.R.length (s.R.map λx=>Γ x.id))]):=by
 refine Enzz λW F w hS=>?_;apply cE5;delta Mu bU;obtain⟨mb,m,L,hr,hS⟩:=bX.iff.1 hS;refine Gp ?_;have mw:m.length=s.R.length:=by rw[hr.rel.len,hr.len]
 refine cx2 hS Xh (by omega) (λp hp=>?_) ?_
 ·obtain⟨x,hx,rfl⟩:=zzv.1 (hr.rel.1.subset hp);have:=cG.ids x.1 (by rw[<- hr.eq];exact zzv.2 ⟨x,hx,rfl⟩);exact wf_i64 (by show -9223372036854775808<=fI x/\_;unfold fI;omega)
 clear hS;intro v w hS;have e:(pX m).map (Value.int .i64)=s.R.map λx=>Γ x.id:=by
  rw[hr.rel.pX,<- hr.eq,xxs,xxs];rfl
 rw[e,mw]at hS
 exact⟨_,rfl,bX.iff.2 ⟨mb,m,L,hr,aW hS⟩⟩
def aw5(dp:Nat)(s:DS)(n:Int):
  SP 183 [Δ dp,Γ n] [.ob (bX dp s)] (cC (.tuple #[]) [.ob (bX dp (s.p5 n))]):=by
 refine Enzz λW F w hS=>?_;apply cE4;delta Mt cV ai;obtain⟨mb,m,L,hr,hS⟩:=bX.iff.1 hS;refine Gn λw hS=>?_;have hS:SL W (.pt dp (iC mb (s.p5 n)) 168::.ob (eC (Value.int .i64) gj mb m)::.ob (ze eG L)::F) w:=hS;exact⟨_,⟨rfl,rfl⟩,bX.iff.2 ⟨mb,m,L,hr,aW hS⟩⟩
def zM(dp:Nat)(s:DS):
  SP 60 [Δ dp] [.ob (bX dp s)] (cC (.bool s.off) [.ob (bX dp s)]):=by
 refine Enzz λW F w hS=>?_;apply cJ1;delta Pg bU;obtain⟨mb,m,L,hr,hS⟩:=bX.iff.1 hS;refine Gp ?_;exact⟨_,⟨rfl,rfl⟩,bX.iff.2 ⟨mb,m,L,hr,aW hS⟩⟩
def jI(keep:Ω)(i:Nat)(L:List EF):List EF:=L.mapIdx λj x=>if j<i then (iV keep j x.1,x.2) else x
def ub(keep:Ω)(i:Nat)(L:List EF):(jI keep i L).length=L.length:=by simp[jI]
def u7{keep:Ω}{i:Nat}{L:List EF}{j:Nat}(h:j<L.length):(jI keep i L)[j]'(by rw[ub];exact h)=if j<i then (iV keep j L[j].1,L[j].2) else L[j]:=by simp[jI]
def aR0(keep:Ω)(L:List EF):jI keep 0 L=L:=by
 refine xxp (ub _ _ _) λj h1 h2=>?_;rw[u7 h2,zzb (by omega)]
def aRz{keep:Ω}{i:Nat}{L:List EF}(h:i<L.length):jI keep (i+1) L=(jI keep i L).set i (iV keep i L[i].1,L[i].2):=by
 refine xxp (by simp[jI]) λj h1 h2=>?_;have hj:j<L.length:=by rw[ub]at h1;exact h1
 rw[u7 hj,xxi];by_cases e:i=j
 ·subst e;rw[zzc (by omega),zzc rfl]
 rw[zzb e,u7 hj];by_cases h3:j<i
 ·rw[zzc h3,zzc (by omega)]
 rw[zzb h3,zzb (by omega)]
def aRx{keep:Ω}{L:List EF}:(jI keep L.length L).map Prod.fst=eT (L.map Prod.fst) keep:=by
 unfold eT;refine xxp (by simp[jI]) λj h1 h2=>?_;have hj:j<L.length:=by simpa [jI] using h1
 rw[xxy,u7 hj,zzc hj];simp
def aRy(keep:Ω)(i:Nat)(L:List EF):(jI keep i L).map (λx=>(fI x,x.2))=L.map λx=>(fI x,x.2):=by
 refine xxp (by simp[jI]) λj h1 h2=>?_;have hj:j<L.length:=by simpa [jI] using h1
 rw[xxy,xxy,u7 hj];split<;>rfl
def Rv{keep:Ω}{i:Nat}{m:List (Int × Nat)}{L:List EF}(h:kh fI Prod.snd m L):kh fI Prod.snd m (jI keep i L):=by
 refine⟨by rw[aRy];exact h.1,?_⟩;have:=h.2;unfold fE at *
 rw[xxk]at *
 intro a b ha hb pJ;have uq:a<L.length:=by rw[ub]at ha;exact ha
 have mP:b<L.length:=by rw[ub]at hb;exact hb
 have h3:=this a b uq mP pJ;rw[u7 uq,u7 mP];have e1:∀(p:Prop) [Decidable p] (x:EF) (j:Nat),fI (if p then (iV keep j x.1,x.2) else x)=fI x:=λp _ x j=>by split<;>rfl
 rw[e1,e1];exact h3
def qj(H:bw)(dp:Nat)(s:DS)(N:Nat)(cG:s.Ok N)(hN:N<=140737488355328)(hR:s.R.length<=100000)(kv:Ε)(keep:Ω)(hk:dx H 1 kv keep.length (keep.map (Value.int .i64))):
  SP 122 [Δ dp,kv] [.ob (bX dp s),.mem H] (cC (.tuple #[]) [.ob (bX dp (s.eD keep)),.mem H]):=by
 refine Enzz λW F w hS=>?_;apply cDm;delta Lv aI bU cV ai;refine Cc (ZF dp s N cG hR) ?_;clear hS;rintro fv post rfl w hS;try simp only[app]at hS
 refine zt hS (t:=3) (sz:=1) (n:=s.R.length) (cells:=s.R.map λx=>Γ x.id) Xh ?_;obtain⟨mb,m,L,hr,hS⟩:=bX.iff.1 (SL.bZ hS (t:=.ob (bX dp s)::.ob (bI fv 3 1 s.R.length (s.R.map λx=>Γ x.id))::.mem H::F) Xi);have Ih:=hr.len;refine⟨λus w=>∃i:Nat,us=[Γ i]/\i<=L.length/\SL W (.ob (ze eG (jI keep i L))::.pt dp (iC mb s) 168::.ob (eC (Value.int .i64) gj mb m)::.ob (bI fv 3 1 s.R.length (s.R.map λx=>Γ x.id))::.mem H::F) w,
  λus _=>match us with|[.int _ i]=>(L.length-i).toNat|_=>0,⟨0,rfl,by omega,by rw[aR0];exact aW hS⟩,?_⟩
 clear hS;rintro v11 w ⟨i,cO,hi,hS⟩;cases cO;refine bY (λh=>?_) (λh=>?_)
 ·have cx:i<L.length:=by omega
  have Ii:s.R[i]?=some L[i].1:=by rw[<- hr.eq];simp[cx]
  refine yg hS (t:=3) (u:=Γ L[i].1.id) Xh (by omega) (by rw[wwr,Ii];rfl) ?_;refine Gp ?_;have I3:=Rv (keep:=keep) (i:=i) hr.rel;have uu:(jI keep i L)[i]'(by rw[ub];exact cx)=L[i]:=by rw[u7 cx,zzb (by omega)]
  have hg:dJ fI (jI keep i L) L[i].1.id=some L[i]:=by
   have:=s8 I3.2 (zzg (l:=jI keep i L) (n:=i) (by rw[ub];exact cx));rw[uu]at this
   exact this
  have ib:fk fI (jI keep i L) L[i].1.id=i:=B9 I3.2 (j:=i) (by rw[ub];exact cx) (by rw[uu];rfl);have uD:=cG.safe L[i].1 (yy9 Ii);have hlen:=cG.len L[i].1 (yy9 Ii);refine yM hS Xh (o9 .i64) wwh yyc (λ_=>rfl) ?_;rw[I3.get,hg];simp only[yyf,xxd];rw[show gj L[i].2= .pointer (some ⟨L[i].2,0,none⟩) from rfl];have hS:=wM hg hS;rw[ib]at hS
  have ky:∀{w:Ζ} {l:Β},SL W (.ob (eG (iV keep i L[i].1,L[i].2))::.ob (ze eG ((jI keep i L).eraseIdx i))::l) w->SL W (.ob (ze eG (jI keep (i+1) L))::l) w:=λh=>by
   rw[aRz cx];exact ze.put h (by rw[ub];exact cx)
  generalize (jI keep i L).eraseIdx i=Er at *
  refine⟨λus w=>us=[Γ (jO keep i L[i].1:Int)]/\SL W (.ob (eG L[i])::.ob (ze eG Er)::.pt dp (iC mb s) 168::.ob (eC (Value.int .i64) gj mb m)::.ob (bI fv 3 1 s.R.length (s.R.map λx=>Γ x.id))::.mem H::F) w,?_,?_⟩
  ·refine zo hk ?_;refine Gp ?_;unfold jO;refine za (λh1=>?_) (λh1=>?_)
   ·have AP:i<keep.length:=by omega
    rw[zzd AP];simp only;refine yQ hS Xh hk AP (u:=Γ keep[i]) (by simp[AP]) ?_;refine bY (λh2=>?_) (λh2=>?_)
    ·rw[zzc h2];refine Gn λw hS=>?_;refine yQ hS Xh hk AP (u:=Γ keep[i]) (by simp[AP]) ?_;obtain⟨v0,hS⟩:=eG.iff.1 hS;refine Gp ?_;refine zt hS (t:=5) (sz:=1) (n:=L[i].1.b.length) (cells:=L[i].1.b.map cX) Xh ?_;refine Gp ?_;obtain⟨k,uz⟩:∃k:Nat,keep[i]=(k:Int):=⟨keep[i].toNat,by omega⟩;have e:(L[i].1.b.length:Int)-(L[i].1.safe:Int)+1=((L[i].1.b.length-L[i].1.safe+1:Nat):Int):=by omega
     rw[uz,e];refine QT (by omega) ?_;exact⟨by rw[zzw],SL.bZ (eG.iff.2 ⟨v0,hS⟩) Xi⟩
    rw[zzb h2];exact⟨rfl,aW hS⟩
   rw[yyr (by omega)];exact⟨rfl,aW hS⟩
  clear hS;rintro v7 w ⟨cO,hS⟩;cases cO;have bUl:=xN (keep:=keep) (i:=i) uD;obtain⟨v0,hS⟩:=eG.iff.1 hS;refine Gp ?_;have hS:=eG.iff.2 ⟨v0,hS⟩;have hC:=Yu L[i] (L[i].1.safe+jO keep i L[i].1) bUl (by omega);unfold gj at hC;refine Cg (hC) λw hS=>?_;obtain⟨v1,hS⟩:=eG.iff.1 hS;refine Gp ?_;refine zt hS (t:=5) (sz:=1) (n:=(jd (L[i].1.safe+jO keep i L[i].1) L[i].1).b.length) (cells:=(jd (L[i].1.safe+jO keep i L[i].1) L[i].1).b.map cX) Xh ?_;refine Gn λw hS=>?_;refine⟨⟨i+1,by simp,by omega,?_⟩,by dsimp only;omega⟩;have e1:(jd (L[i].1.safe+jO keep i L[i].1) L[i].1).b=(iV keep i L[i].1).b:=rfl;have e2:(((jd (L[i].1.safe+jO keep i L[i].1) L[i].1).b.length:Nat):Int)=(((iV keep i L[i].1).safe:Nat):Int):=by simp[iV,jd]
  rw[e1]at hS e2
  rw[e2]at hS
  have e3:(jd (L[i].1.safe+jO keep i L[i].1) L[i].1).b.length=(iV keep i L[i].1).b.length:=rfl;have hS:=(eG.iff (x:=(iV keep i L[i].1,L[i].2))).2 ⟨v1,hS⟩;exact SL.bZ (ky (SL.bZ hS (t:=.ob (eG (iV keep i L[i].1,L[i].2))::.ob (ze eG Er)::.pt dp (iC mb s) 168::.ob (eC (Value.int .i64) gj mb m)::.ob (bI fv 3 1 s.R.length (s.R.map λx=>Γ x.id))::.mem H::F) Xi)) Xi
 have cx:i=L.length:=by omega
 subst cx;refine Gn λw hS=>?_;have hS:SL W (.ob (ze eG (jI keep L.length L))::.pt dp (iC mb (s.eD keep)) 168::.ob (eC (Value.int .i64) gj mb m)::.ob (bI fv 3 1 s.R.length (s.R.map λx=>Γ x.id))::.mem H::F) w:=hS;refine⟨_,⟨rfl,rfl⟩,bX.iff.2 ⟨mb,m,jI keep L.length L,⟨Rv hr.rel,?_⟩,aW hS⟩⟩;rw[aRx,hr.eq];rfl

/- Part. -/
import Derived.Test.YtmkllimamejcgaaGreatJ3
import Derived.Lib.SliceRun
import Derived.Test.YtmkllimamejcgaaGreatQVcF
namespace Go.Proofs.YtmkllimamejcgaaGreat
set_option linter.all false
open Go.RowKit
def vvj:=@List.eq_of_mem_replicate
def wws:=@List.getElem?_drop
def xxg:=@List.drop_append_of_le_length
def yyn:=@List.findIdx?_eq_some_iff_getElem
def xxs:=@List.findIdx?_eq_none_iff
def xx5:=@List.getElem_map
def zzm:=@decide_eq_true
def vv9:=@Bool.true_and
def xxq:=@List.not_mem_nil
def vvz:=@or_false
def cM0{z:Ξ}{n i:Nat}(h:i<n*z.length):(cK z n)[i]?=z[i % z.length]?:=by
 induction n generalizing i with
 | zero=>omega
 | succ n ih=>
  have e:cK z (n+1)=z++cK z n:=by simp[cK,List.replicate_succ]
  rw[e];rw[yyx]at h
  by_cases hi:i<z.length
  ·rw[zzs hi,wwp hi]
  rw[yyb (by omega),ih (by omega)];congr 1
  conv=>rhs;rw[show i=(i-z.length)+z.length by omega]
  rw[Nat.add_mod_right]
def RM(A B z rest:Ξ)(h:B.length=z.length):(A++(B++rest)).take A.length++z++(A++(B++rest)).drop (A.length+z.length)=A++(z++rest):=by
 rw[ww0,xxd,<- h,wwz,zzk]
def La(zv:Array Ε)(z:Ξ)(hz:zv.toList=z)(n:Nat):(Builtin.zeroCells zv n).toList=cK z n:=by
 subst hz;refine uum λi=>?_;by_cases hi:i<n*zv.size
 ·have h0:0<zv.size:=by
   rcases yyu zv.size with h|h
   ·rw[h]at hi;omega
   exact h
  rw[cM0 (by simpa using hi)];have hm:i % zv.size<zv.size:=vvg _ h0;simp[Builtin.zeroCells,hi,hm,wwu]
 have h1:(Builtin.zeroCells zv n).toList.length<=i:=by simp[Builtin.zeroCells];omega
 have h2:(cK zv.toList n).length<=i:=by rw[lV];simp;omega
 rw[yys h1,yys h2]
section
variable {W w:Ζ} {l l':Β} {P:Program}
def SL.Xo{b:Nat}{t:Ι}:∀(vs:Ξ) (o:Nat) (cs:Ξ) (w:Ζ) (l l':Β),SL W l w->gh (.pt b cs t) (.pt b (p6 cs o vs) t) l l'->o+vs.length<=cs.length->SL W l' (w.setCells b o vs)
 | [],o,cs,w,l,l',hS,u,hl=>by
  simp only[p6]at u;have:l=l':=by
   clear hS;generalize hc:Chunk.pt b cs t=c at u;revert hc;induction u with
   | hd=>intro;rfl
   | tl _ ih=>intro hc;rw[ih hc]
  rw[<- this];exact hS
 | v::r,o,cs,w,l,l',hS,u,hl=>by
  simp only[zzi]at hl;have hc:cs[o]?=some (cs[o]'(by omega)):=zzc (by omega);obtain⟨l2,p,q⟩:=u.other (.pt b (cs.set o v) t);rw[World.setCells];exact SL.Xo r (o+1) _ _ l2 l' (hS.store p hc) (by simpa [p6] using q) (by simp;omega)
def SL.Xq{b o:Nat}{t:Ι}{cs vs:Ξ}(hS:SL W l w)(u:gh (.pt b cs t) (.pt b (cs.take o++vs++cs.drop (o+vs.length)) t) l l')(hl:o+vs.length<=cs.length):SL W l' (w.setCells b o vs):=
 SL.Xo vs o cs w l l' hS (by rw[BC _ _ _ hl];exact u) hl
def WL{b o n c:Nat}{cs z:Ξ}{tt t e ty:Ι}{zv:Ε}{K:Ε->Ζ->Prop}(hS:SL W l w)(u:gh (.pt b cs tt) (.pt b (cs.take o++cK z n++cs.drop (o+n*z.length)) tt) l l')
  (ht:P.underlying t=some (.slice e)) (hv:∀w,(zeroValue e).run P w= .ok zv w) (hz:zv.cells.toList=z) (h1:∀v∈z,v.oneCell'=true) (hn:0<n) (ho:o+n*z.length<=cs.length)
  (h:∀u w',SL W l' w'->K u w'):zR P (Builtin.clear_ #[t] ty #[.slice (some ⟨b,o,none⟩) n c]) w K:=by
 have Jx:=La zv.cells z hz n;have hlen:(cK z n).length=n*z.length:=lV _ _;have il:∀j,j<n*z.length->∃v,cs[o+j]?=some v:=λj hj=>⟨_,zzc (by omega)⟩;have fS:=run_storeCells_cells (P:=P) b o (cK z n) 0 w (λj hj=>by obtain⟨v,hv⟩:=il j (by omega);rw[xxn,hS.cell u.has hv];rfl) (λj hj=>by obtain⟨v,hv⟩:=il j (by omega);rw[xxn];exact hS.frozen u.has hv)
  (by
   intro v pZ;obtain⟨l0,rr,Uv⟩:=wwe.1 pZ;rw[vvj rr]at Uv
   exact h1 v Uv)
 simp only[xxn]at fS;obtain⟨m,rfl⟩:∃m,n=m+1:=⟨n-1,by omega⟩;refine⟨_,_,by simp[Builtin.clear_,zzz ht,hv,Jx,fS];exact⟨rfl,rfl⟩,h _ _ (SL.Xq hS (by rw[hlen];exact u) (by rw[hlen];exact ho))⟩
def yA{b o sz n j:Nat}{k:IntKind}{K:Ε->Prop}(hj:j<n)(h:K (.pointer (some ⟨b,o+j*sz,none⟩))):yC sz n (.pointer (some ⟨b,o,none⟩)) (.int k (j:Int)) K:=
 ⟨_,k,j,rfl,rfl,hj,by rw[yyd];exact h⟩
def WJ{t e:Ι}{len j:Nat}{vs:Ξ}{v:Ε}{k:IntKind}{K:Ε->Prop}(ht:P.underlying t=some (.array len e))(ha:∀w,(isAgg e).run P w= .ok false w)(hs:∀w,(sizeOf e).run P w= .ok 1 w)(hj:j<len)(hv:vs[j]?=some v)(h:K v):
  ff P (Instr.index t (.agg vs.toArray) (.int k (j:Int))) w K:=by
 refine⟨_,?_,h⟩;simp[Instr.index,asIntOf,zzz ht,Result.andThen,hj,hs,part,ha,hv]
def P6(P:Program)(sz hU:Nat)(z:Ξ)(et st:Ι)(v0:Ε)(v1:Ε)(v2:Ε)(w:Ζ)(R:Ε->Ζ->Prop):Prop:=
 zd v0 λv12=>
 fp sz v0 (some v1) (some v2) (some v12) λGL=>
 zc .eql v1 v2 λBS=>
 dm BS
 (R v0 w)
 (zd v0 λKZ=>
 zi w λpx=>
 fp sz v0 none (some v1) none λv22=>
 fp sz v0 (some v2) none none λv25=>
 zx sz hU z et v22 v25 px λv26 sU=>
 zd v26 λv29=>
 fp sz v26 (some v29) (some KZ) none λv31=>
 zR P (Builtin.clear_ #[st] 0 [v31].toArray) sU λu uZ=>
 R v26 uZ)
def HT{f:FuncId}{sz hU:Nat}{z:Ξ}{et st:Ι}{zv:Ε}(vc:∀v0 v1 v2 w R,P6 P sz hU z et st v0 v1 v2 w R->zQ P f [v0,v1,v2] w R)
  (ht:P.underlying st=some (.slice et)) (hv:∀w,(zeroValue et).run P w= .ok zv w) (hz:zv.cells.toList=z) (Jy:z.length=sz) (h1:∀v∈z,v.oneCell'=true)
  (v:Ε) (n i:Nat) (cells:Ξ) (hi:i<n) (gF:∀v∈cells,v.oneCell'=true) (hb:n*hU<=140737488355328) (hn:n<=140737488355328) :
  Spec P f [v,Γ (i:Int),Γ ((i+1:Nat):Int)] [.ob (bR v et sz n cells)] (λu post=>post=[.ob (bR u et sz (n-1) (cells.take (i*sz)++cells.drop ((i+1)*sz)))]):=by
 refine Enzz λW F w hS=>?_;apply vc;unfold P6;rcases bR.open hS with ⟨⟨a,rfl⟩,rfl,rfl,_⟩|⟨b,cap,rest,rfl,o_,hlen,jP,hS⟩
 ·omega
 have cO5:(i+1)*sz<=n*sz:=yyy _ (by omega);have cO4:(i+1)*sz=i*sz+sz:=by rw[yyx,wwx]
 refine ye ?_;refine⟨_,n,cap,i,i+1,n,rfl,⟨_,rfl⟩,⟨_,rfl⟩,⟨_,rfl⟩,by omega,by omega,by omega,?_⟩;refine Gp ?_;refine za (λh=>by omega) (λ_=>?_);refine Gn λw hS=>?_;refine⟨_,n,cap,0,i,cap,rfl,rfl,⟨_,rfl⟩,rfl,by omega,by omega,by omega,?_⟩;rw[zzb (show ¬cap=0 by omega)];refine⟨_,n,cap,i+1,n,cap,rfl,rfl,rfl,⟨_,rfl⟩,by omega,by omega,by omega,?_⟩;simp only[yyh,yyd,uuj,xxn,wwv];have pd:(cells.drop ((i+1)*sz)).length=(n-(i+1))*sz:=by rw[zzq,hlen,wwo]
 have mI:i*sz+((n-(i+1))*sz)=(n-1)*sz:=by rw[<- yyx];congr 1;omega
 have cO3:(n-1)*sz+sz=n*sz:=by rw[show n*sz=(n-1+1)*sz by congr 1;omega,yyx,wwx]
 refine⟨some ⟨b,0,none⟩,i,cap,n-(i+1),cells.drop ((i+1)*sz),rfl,?_,?_,by omega,λoA=>?_,λh=>by omega⟩
 ·have bVb:∀a:Option Addr,(n-(i+1)=0\/a=some ⟨b,0+(i+1)*sz,none⟩)->kJ w sz (.slice a (n-(i+1)) (cap-(i+1))) (n-(i+1)) (cells.drop ((i+1)*sz)):=by
   intro a ha;rcases ha with h0|rfl
   ·rw[h0]at pd ⊢
    have:cells.drop ((i+1)*sz)=[]:=zzl (by simpa using pd);rw[this];cases a with
    | none=>exact⟨rfl,rfl⟩
    | some p=>exact⟨rfl,by simp,λj v e=>by simp at e⟩
   refine Xj hS (Has.hd) pd λj u hu=>?_;rw[wws]at hu
   rw[yye,zzs (zzf.1 hu).1];exact hu
  refine bVb _ ?_;by_cases IF:cap=i+1
  ·left;omega
  right;rw[zzb IF]
 ·exact yy2 (yyy _ (by omega)) hb
 show tV (Addr.add ⟨b,0,none⟩ (i*sz)) 0 _ w _;rw[yyd,yye];have cOa:i*sz+(cells.drop ((i+1)*sz)).length<=(cells++rest).length:=by rw[zza,pd,mI,hlen];omega
 refine BO (t:=et) (cells.drop ((i+1)*sz)) (i*sz) 0 (cells++rest) w _ (.pt b (cells.take (i*sz)++cells.drop ((i+1)*sz)++(cells.drop ((n-1)*sz)++rest)) et::F) hS ?_ (by omega) (λv hv=>gF v (vvx hv)) ?_
 ·rw[BC _ _ _ (by omega),xxn,pd,mI,xxf (by omega),xxg (by omega)];exact gh.hd
 intro w' hS;refine ye ?_;refine⟨some ⟨b,0,none⟩,i+(n-(i+1)),cap,i+(n-(i+1)),n,cap,rfl,rfl,⟨_,rfl⟩,⟨_,rfl⟩,by omega,by omega,by omega,?_⟩;have en:i+(n-(i+1))=n-1:=by omega
 rw[en,zzb (show ¬cap=n-1 by omega)];simp only[yyh,yyd,yye];rw[show n-(n-1)=1 by omega];have hA:(cells.take (i*sz)++cells.drop ((i+1)*sz)).length=(n-1)*sz:=by rw[zza,pd,zzg,hlen];omega
 have hB:(cells.drop ((n-1)*sz)).length=sz:=by rw[zzq,hlen];omega
 have hle:(n-1)*sz+1*z.length<=(cells.take (i*sz)++cells.drop ((i+1)*sz)++(cells.drop ((n-1)*sz)++rest)).length:=by
  rw[zza (bs:=cells.drop ((n-1)*sz)++rest),zza (bs:=rest),hA,hB,Jy];omega
 refine WL (tt:=et) (n:=1) (l':=.pt b (cells.take (i*sz)++cells.drop ((i+1)*sz)++(z++rest)) et::F) hS ?_ ht hv hz h1 (by omega) hle ?_
 ·have e1:cK z 1=z:=by simp[cK]
  have e2:=RM (cells.take (i*sz)++cells.drop ((i+1)*sz)) (cells.drop ((n-1)*sz)) z rest (by rw[hB,Jy]);rw[hA]at e2
  rw[e1,wwx,e2];exact gh.hd
 intro u w hS;exact⟨_,rfl,bR.mk (n:=n-1) (cap:=cap) (rest:=z++rest) (by omega) hA (by rw[zza,Jy,jP,show cap-(n-1)=(cap-n)+1 by omega,yyx,wwx];omega) hS⟩
def Eg(P:Program)(T:List Bool)(sz:Nat)(v0:Ε)(v1:Ε)(w:Ζ)(R:Ε->Ζ->Prop):Prop:=
 zd v0 λv7=>
 ∃(I:Ξ->Ζ->Prop) (μ:Ξ->Ζ->Nat),I [(Γ 0)] w /\
 ∀(v8:Ε) px,I [v8] px ->
 zc .lss v8 v7 λv9=>
 dm v9
 (zk sz v0 v8 λKY=>
 zg sz KY px λGM=>
 zS P T v1 [GM] px λBS sU=>
 dm BS
 (R v8 sU)
 (zc .add v8 (Γ 1) λD3=>
 I [D3] sU/\μ [D3] sU<μ [v8] px))
 (R (Γ (-1)) px)
def lq:Option Nat->Int
 | some i=>(i:Int)
 | none=>-1
def Jz{T:List Bool}{f g:FuncId}{sz:Nat}{α:Type}{enc:α->Ξ}(hn:∀x,(enc x).length=sz)(hT:T.getD g false=true){cap:Array Ε}{pre:Β}{q:α->Bool}{t:Ι}
  (vc:∀v0 v1 w R,Eg P T sz v0 v1 w R->zQ P f [v0,v1] w R) (one:∀x,Spec P g ([agg (enc x)]++cap.toList) pre (cE (.bool (q x)) pre))
  (v:Ε) (xs:List α) (hl:xs.length<=9223372036854775806) :
  Spec P f [v,.func (.func g) #[] cap] (pre++[.ob (bR v t sz xs.length (xs.map enc).flatten)]) (cE (Γ (lq (xs.findIdx? q))) (pre++[.ob (bR v t sz xs.length (xs.map enc).flatten)])):=by
 intro W F w hS;apply vc;unfold Eg;have e0:app (pre++[.ob (bR v t sz xs.length (xs.map enc).flatten)]) F=pre++(.ob (bR v t sz xs.length (xs.map enc).flatten)::F):=by rw[Cl];simp
 have hm:Has (.ob (bR v t sz xs.length (xs.map enc).flatten)) (app (pre++[.ob (bR v t sz xs.length (xs.map enc).flatten)]) F):=by
  rw[e0];clear hS one e0;induction pre with
  | nil=>exact .hd
  | cons c r ih=>exact .tl ih
 refine zu hS hm ?_;refine⟨λvs w=>∃k:Nat,vs=[Γ k]/\k<=xs.length/\(∀j (h:j<xs.length),j<k->q xs[j]=false)/\SL W (app (pre++[.ob (bR v t sz xs.length (xs.map enc).flatten)]) F) w,λvs _=>match vs with|[.int _ k]=>(xs.length-k).toNat|_=>0,⟨0,rfl,by omega,λj h hj=>by omega,hS⟩,?_⟩;clear hS;rintro v8 w ⟨k,hv,hk,hq,hS⟩;cases hv;refine bZ (λh=>?_) (λh=>?_)
 ·have mf:k<xs.length:=by omega
  refine zT hS hm hn (x:=xs[k]) (by simp[mf]) mf ?_;refine⟨g,#[],cap,rfl,hT,?_⟩;refine zQ.mono (one xs[k] W (.ob (bR v t sz xs.length (xs.map enc).flatten)::F) w (by rw[Cl,<- e0];exact hS)) ?_;clear hS;rintro u w ⟨post,⟨rfl,rfl⟩,hS⟩;rw[Cl,<- e0]at hS
  cases Dh:q xs[k] with
  | true=>
   refine zq ?_;have e:xs.findIdx? q=some k:=yyn.2 ⟨mf,Dh,λj hj=>by rw[hq j (by omega) hj];decide⟩;rw[e];exact⟨_,⟨rfl,rfl⟩,hS⟩
  | false=>
   refine zp ?_;refine Gp ?_;refine⟨⟨k+1,rfl,by omega,λj h hj=>?_,hS⟩,by dsimp only;omega⟩;rcases xx4 j k with C6|C6
   ·exact hq j h C6
   obtain rfl:j=k:=by omega
   exact Dh
 have e:xs.findIdx? q=none:=xxs.2 λx hx=>by
  obtain⟨j,hj,rfl⟩:=xxa.1 hx;exact hq j hj (by omega)
 rw[e];exact⟨_,⟨rfl,rfl⟩,hS⟩
end
set_option maxRecDepth 100000
def G1(H:bw)(u:Ε)(post:Β)(o:Option (List Rq)):Prop:=∃H',H.le H'/\post=[.mem H']/\match o with
 | none=>u= .tuple #[Θ,.bool false]
 | some L'=>∃x,u= .tuple #[x,.bool true]/\ji H' x L'
def GW(r:Rq)(a:Int):Prop:=0<=r.table/\r.table<8/\1<=r.weight/\r.weight<=8/\max a 1<=r.at_/\r.at_<=1099511627776/\0<=r.dA/\r.dA<=1099511627776/\0<=r.chunks/\r.chunks<=1099511627776
def cnr(r:Rq)(a:Int):SP 369 [agg (iI r),Γ a] [] (λv post=>∃q:Bool,v= .bool q/\(q=true↔GW r a)/\post=[]):=by
 refine Enzz λW F w hS=>?_;apply cKg;delta O9 aI a_ bY ai;obtain⟨rid,rt,Gu,rat,Gl,Gk,rd⟩:=r;unfold iI GW;simp only;refine⟨_,rfl,zC hS ?_⟩;clear hS;intro b w hS;have fu:∀{w:Ζ},¬(0<=rt/\rt<8/\1<=Gu/\Gu<=8/\max a 1<=rat/\rat<=1099511627776/\0<=Gl/\Gl<=1099511627776/\0<=Gk/\Gk<=1099511627776)->SL W F w->∃post,(∃q:Bool,(.bool false:Ε)= .bool q/\(q=true↔0<=rt/\rt<8/\1<=Gu/\Gu<=8/\max a 1<=rat/\rat<=1099511627776/\0<=Gl/\Gl<=1099511627776/\0<=Gk/\Gk<=1099511627776)/\post=[])/\SL W (app post F) w:=λh hS=>⟨_,⟨false,rfl,⟨λe=>(by cases e),λe=>absurd e h⟩,rfl⟩,hS⟩;refine Gp ?_;refine za (λc1=>?_) (λc=>fu (by omega) (aW hS));refine Gp ?_;refine za (λc2=>?_) (λc=>fu (by omega) (aW hS));refine Gp ?_;refine za (λc3=>?_) (λc=>fu (by omega) (aW hS));refine Gp ?_;refine za (λc4=>?_) (λc=>fu (by omega) (aW hS));refine Gp ?_;refine za (λc5=>?_) (λc=>fu (by omega) (aW hS));refine Gp ?_;refine za (λc6=>?_) (λc=>fu (by omega) (aW hS));refine Gp ?_;refine za (λc7=>?_) (λc=>fu (by omega) (aW hS));refine Gp ?_;refine za (λc8=>?_) (λc=>fu (by omega) (aW hS));refine Gp ?_;refine za (λc9=>?_) (λc=>fu (by omega) (aW hS));refine Gp ?_;refine⟨_,⟨_,rfl,?_,rfl⟩,aW hS⟩;rw[zzw];exact⟨λc=>⟨c1,c2,c3,c4,c5,c6,c7,c8,c9,c⟩,λc=>c.2.2.2.2.2.2.2.2.2⟩
def uT(L:List Rq)(i t:Nat):Bool:=(L.take i).any λr=>decide (r.table=(t:Int)) && !r.done
def V5{L:List Rq}{i t:Nat}:uT L i t=true↔∃k,∃h:k<L.length,k<i/\L[k].table=(t:Int)/\L[k].done=false:=by
 unfold uT;rw[List.any_eq_true];constructor
 ·rintro ⟨r,hr,hx⟩;obtain⟨k,hk,rfl⟩:=xxa.1 hr;rw[zzg]at hk
  refine⟨k,by omega,by omega,?_⟩;simpa using hx
 rintro ⟨k,h,hk,h1,h2⟩;refine⟨L[k],xxa.2 ⟨k,by rw[zzg];omega,by simp⟩,by simp[h1,h2]⟩
def v_(L:List Rq)(i:Nat):Ξ:=(List.range 8).map λt=>.bool (uT L i t)
def V6(L:List Rq)(i:Nat){t:Nat}(h:t<8){o:Nat}(ho:o=t):(v_ L i)[o]?=some (.bool (uT L i t)):=by
 subst ho;unfold v_;simp[h]
def cnu{L:List Rq}{i t:Nat}(hi:i<L.length)(ht:L[i].table=(t:Int))(h:uT L i t=false){o:Nat}(ho:o=t):(v_ L i).set o (.bool !L[i].done)=v_ L (i+1):=by
 subst ho;unfold v_;refine xxw (by simp) λj h1 h2=>?_;have hj:j<8:=by simpa using h2
 rw[xxp];have hs:∀t:Nat,uT L (i+1) t=(uT L i t || (decide (L[i].table=(t:Int)) && !L[i].done)):=λt=>by
  unfold uT;rw[zze hi,List.any_append];simp
 split
 ·rename_i e;subst e;simp only[xx5,List.getElem_range];rw[hs,h,ht];simp
 rename_i e;simp only[xx5,List.getElem_range];rw[hs,ht];have:¬((o:Int)=(j:Int)):=by omega
 simp[this]
def cnv(L:List Rq):v_ L 0=[.bool false,.bool false,.bool false,.bool false,.bool false,.bool false,.bool false,.bool false]:=by
 simp[v_,uT,List.range,List.range.loop]
def wC(L:List Rq)(i:Nat):Int:=if i=0 then 0 else (L[i-1]?.map (·.at_)).getD 0
def bY1(H:bw)(v:Ε)(L:List Rq)(hv:ji H v L)(hn:L.length<=140737488351232):
  SP 330 [v] [.mem H] (λu post=>∃q:Bool,u= .bool q/\(q=true↔gk L)/\post=[.mem H]):=by
 refine Enzz λW F w hS=>?_;apply cJs;delta OO aI a_ aR cL bY ai;have fu:∀{w:Ζ},¬gk L->SL W (.mem H::F) w->∃post,(∃q:Bool,(.bool false:Ε)= .bool q/\(q=true↔gk L)/\post=[.mem H])/\SL W (app post F) w:=λh hS=>
  ⟨_,⟨false,rfl,⟨λe=>(by cases e),λe=>absurd e h⟩,rfl⟩,hS⟩
 refine zC hS ?_;clear hS;intro ob w hS;refine zo hv ?_;rw[<- cnv L]at hS
 refine⟨λus w=>∃i:Nat,us=[Γ (wC L i),Γ i]/\i<=L.length/\(∀j,j<i->D' L j)/\SL W (.pt ob (v_ L i) 489::.mem H::F) w,
  λus _=>match us with|[_,.int _ i]=>(L.length-i).toNat|_=>0,⟨0,rfl,by omega,λj h=>by omega,aW hS⟩,?_⟩
 clear hS;rintro v4 v9 w ⟨i,cP,hi,eF,hS⟩;cases cP;refine bZ (λh=>?_) (λh=>?_)
 ·have cz:i<L.length:=by omega
  have fF:∀{w:Ζ},¬D' L i->SL W (.mem H::F) w->∃post,(∃q:Bool,(.bool false:Ε)= .bool q/\(q=true↔gk L)/\post=[.mem H])/\SL W (app post F) w:=λh hS=>fu (λhp=>h (hp.2 i)) hS;refine zD hS Xh nK hv (x:=L[i]) (by simp[cz]) cz ?_;refine zC hS ?_;clear hS;intro b w hS;refine zr (vs:=iI L[i]) hS .hd rfl rfl (EO _) ?_;clear hS;intro w hS;have xO:D' L i->vZ i L[i]/\(∀h0:0<i,L[i-1].at_<=L[i].at_)/\∀k (hk:k<i),¬(L[k].table=L[i].table/\L[k].done=false):=λh=>h cz;have Tl:max (wC L i) 1<=L[i].at_↔1<=L[i].at_/\∀h0:0<i,L[i-1].at_<=L[i].at_:=by
   unfold wC;by_cases h0:i=0
   ·rw[zzd h0];exact⟨λe=>⟨by omega,λh=>by omega⟩,λe=>by have:=e.1;omega⟩
   rw[zzb h0,zzc (by omega)];simp only[yyh,xxi];exact⟨λe=>⟨by omega,λ_=>by omega⟩,λe=>by have:=e.1;have:=e.2 (by omega);omega⟩
  unfold iI at hS;refine Gp ?_;refine za (λc=>fF (λhp=>by have:=(xO hp).1.1;omega) (aW hS)) (λc1=>?_);refine zA hS Xh rfl ?_;refine Cc (cnr L[i] (wC L i)) ?_;clear hS;rintro _ post ⟨q1,rfl,tH,rfl⟩ w hS;(try simp only[app]at hS);refine Gp ?_
  refine zt (λhe=>fF (λhp=>?_) (aW hS)) (λhe=>?_)
  ·have hp:=xO hp;have h1:GW L[i] (wC L i):=⟨hp.1.2.1,hp.1.2.2.1,hp.1.2.2.2.1,hp.1.2.2.2.2.1,Tl.2 ⟨hp.1.2.2.2.2.2.1,hp.2.1⟩,hp.1.2.2.2.2.2.2.1,hp.1.2.2.2.2.2.2.2.1,hp.1.2.2.2.2.2.2.2.2.1,hp.1.2.2.2.2.2.2.2.2.2.1,hp.1.2.2.2.2.2.2.2.2.2.2⟩;rw[tH.2 h1]at he;cases he
  have hQ:=tH.1 he;have il:=Tl.1 hQ.2.2.2.2.1;obtain⟨t,ht⟩:∃t:Nat,L[i].table=(t:Int):=⟨L[i].table.toNat,by have:=hQ.1;omega⟩;have Ds:t<8:=by have:=hQ.2.1;omega
  have Ut:Γ L[i].table= Γ (t:Int):=by rw[ht]
  refine Gp ?_;rw[Ut]at hS ⊢
  refine yA Ds (zV hS Xh (V6 L i Ds (by omega)) ?_);refine yT (λho=>fF (λhp=>?_) (aW hS)) (λho=>?_)
  ·obtain⟨k,hk,hki,h1,h2⟩:=V5.1 ho;exact (xO hp).2.2 k hki ⟨by rw[h1,ht],h2⟩
  refine Gn λw hS=>?_;refine yA Ds ?_;refine Zz hS Xu (V6 L i Ds (by omega)) rfl ?_;clear hS;intro w hS;rw[cnu cz ht ho (by omega)]at hS
  refine Gp ?_;have ea:wC L (i+1)=L[i].at_:=by
   unfold wC;rw[zzb (by omega),Nat.add_sub_cancel,zzc cz];rfl
  refine⟨⟨i+1,by rw[ea],by omega,λj hj=>?_,aW hS⟩,by dsimp only;omega⟩;by_cases e:j=i
  ·subst e;refine λ_=>⟨⟨by omega,hQ.1,hQ.2.1,hQ.2.2.1,hQ.2.2.2.1,il.1,hQ.2.2.2.2.2.1,hQ.2.2.2.2.2.2.1,hQ.2.2.2.2.2.2.2.1,hQ.2.2.2.2.2.2.2.2.1,hQ.2.2.2.2.2.2.2.2.2⟩,il.2,λk hk hx=>?_⟩;have:=V5.2 ⟨k,by omega,hk,by rw[hx.1,ht],hx.2⟩;rw[ho]at this;cases this
  exact eF j (by omega)
 have jO:i=L.length:=by omega
 subst jO;refine zo hv ?_;refine Gp ?_;refine⟨_,⟨_,rfl,?_,rfl⟩,aW hS⟩;rw[zzw];exact⟨λh=>⟨by omega,λj hj=>eF j hj hj⟩,λhp=>by have:=hp.1;omega⟩
def Zj(H:bw)(v:Ε)(L:List Rq)(hv:ji H v L)(hn:L.length<=140737488351232):
  SP 279 [v] [.mem H] (λu post=>∃q:Bool,u= .bool q/\(q=true↔gk L)/\post=[.mem H]):=by
 refine Enzz λW F w hS=>?_;apply cIl;unfold N7;refine Cc (bY1 H v L hv hn) ?_;clear hS;rintro _ post ⟨q,rfl,hq,rfl⟩ w hS;try simp only[app]at hS
 exact⟨_,⟨q,rfl,hq,rfl⟩,aW hS⟩
def sP(L:List Rq)(id:Int):Bool:=decide (1<=id/\id<=L.length) && (match L[(id-1).toNat]? with|some r=>!r.done|none=>false)
def cA8{a b:Int}{K:Ε->Prop}(h:K (Γ (IntKind.i64.wrap (a-b)))):zc .sub (Γ a) (Γ b) K:=⟨_,rfl,h⟩
def X5{n:Int}(h : -9223372036854775808<=n/\n<=9223372036854775807):IntKind.i64.wrap n=n:=xxz _ h
def QL(H:bw)(v:Ε)(L:List Rq)(id:Int)(hv:ji H v L)(hn:L.length<=1000)(hid : -9223372036854775808<=id/\id<=9223372036854775807):
  SP 340 [v,Γ id] [.mem H] (cE (.tuple #[Γ (IntKind.i64.wrap (id-1)),.bool (sP L id)]) [.mem H]):=by
 refine Enzz λW F w hS=>?_;apply cJ3;delta OY aI aR ai;refine Gn λw hS=>?_;refine cA8 ?_;refine bZ (λh1=>?_) (λh1=>?_)
 ·refine zo hv ?_;refine bZ (λh2=>?_) (λh2=>?_)
  ·obtain⟨j,rfl⟩:∃j:Nat,id=((j+1:Nat):Int):=⟨(id-1).toNat,by omega⟩;have hj:j<L.length:=by omega
   have ej:((j+1:Nat):Int)-1=(j:Int):=by omega
   have hp:sP L ((j+1:Nat):Int) = !L[j].done:=by
    unfold sP;rw[zzm (by omega),show (((j+1:Nat):Int)-1).toNat=j by omega,zzc hj];rfl
   rw[hp,X5 (by omega),ej];refine Gp ?_;rw[ej];have hd:=pP nK L j 6 L[j] (.bool L[j].done) (by simp[hj]) rfl;refine Yc hv hj λb o hb=>yK (Gx hS Xh (hb 6 _ (by decide) hd) ?_);refine Gp ?_;refine Gx hS Xh (hb 6 _ (by decide) hd) ?_;exact⟨rfl,_,⟨rfl,rfl⟩,aW hS⟩
  have hp:sP L id=false:=by unfold sP;rw[zz2 (by omega)];rfl
  rw[hp];exact cC hS
 have hp:sP L id=false:=by unfold sP;rw[zz2 (by omega)];rfl
 rw[hp];exact cC hS
def z8(H:bw)(v:Ε)(L:List Rq)(hv:ji H v L)(hn:L.length<=1000):
  SP 85 [v] [.mem H] (λu post=>post=[.ob (bR u 98 7 L.length (L.map iI).flatten),.mem H]):=by
 exact RL cLu rfl (by decide) hv (czs L) (by omega) (by omega)
def Zl(H:bw)(v:Ε)(L:List Rq)(table weight at_:Int)(hv:ji H v L)(hn:L.length<=1000):
  SP 328 [v,Γ table,Γ weight,Γ at_] [.mem H] (λu post=>G1 H u post (pD L table weight at_)):=by
 refine Enzz λW F w hS=>?_;apply cJp;delta OL cL ai bI;refine Cc (z8 H v L hv hn) ?_;clear hS;rintro v1 post rfl w hS;(try simp only[app]at hS);refine zo hv ?_;refine Gm λb w hS=>?_;refine zI (n:=L.length) (m:=1) (cells:=(L.map iI).flatten) hS Xr (kf (cs:=iI ⟨((L.length+1:Nat):Int),table,weight,at_,0,0,false⟩) hS .hd rfl) rfl rfl (EO _) (by omega) (by omega) ?_;clear hS;intro v2 w hS;rw[<- vt]at hS
 obtain⟨H1,dj,jG,hS⟩:=zz (H:=H) (v:=v2) (n:=L.length+1) (sz:=7) (t:=98) (cells:=((L++[(⟨((L.length+1:Nat):Int),table,weight,at_,0,0,false⟩:Rq)]).map iI).flatten) hS Xp;have hlen:(L++[(⟨((L.length+1:Nat):Int),table,weight,at_,0,0,false⟩:Rq)]).length=L.length+1:=by simp
 have jG:ji H1 v2 (L++[(⟨((L.length+1:Nat):Int),table,weight,at_,0,0,false⟩:Rq)]):=by unfold ji;rw[hlen];exact jG
 have hN:x_ L table weight at_=⟨((L.length+1:Nat):Int),table,weight,at_,0,0,false⟩:=rfl;unfold pD;rw[hN];generalize CQ:L++[(⟨((L.length+1:Nat):Int),table,weight,at_,0,0,false⟩:Rq)]=L2 at jG hlen ⊢;refine Cc (Zj H1 v L (hv.mono dj) (by omega)) ?_;clear hS;rintro _ post ⟨q1,rfl,tH,rfl⟩ w hS;(try simp only[app]at hS);refine Gp ?_
 refine zt (λhe=>?_) (λhe=>?_)
 ·rw[zzb λh=>by rw[tH.2 h.1]at he;cases he];exact⟨_,⟨H1,dj,rfl,rfl⟩,aW hS⟩
 skip
 refine Cc (Zj H1 v2 L2 jG (by omega)) ?_;clear hS;rintro _ post ⟨q2,rfl,ja,rfl⟩ w hS;(try simp only[app]at hS);refine Gp ?_
 refine zt (λC1=>?_) (λC1=>?_)
 ·rw[zzb λh=>by rw[ja.2 h.2]at C1;cases C1];exact⟨_,⟨H1,dj,rfl,rfl⟩,aW hS⟩
 rw[zzd ⟨tH.1 he,ja.1 C1⟩];exact⟨_,⟨H1,dj,rfl,v2,rfl,jG⟩,aW hS⟩
def cwg{L:List Rq}{id:Int}(h:sP L id=true):∃j:Nat,∃hj:j<L.length,id=((j+1:Nat):Int)/\L[j].done=false:=by
 unfold sP at h;rw[zzu,zzw]at h
 obtain⟨⟨h1,h2⟩,h3⟩:=h;have hj:(id-1).toNat<L.length:=by omega
 rw[zzc hj]at h3
 exact⟨(id-1).toNat,hj,by omega,by simpa using h3⟩
def aWo{L:List Rq}{id c:Int}{dn:Bool}(h:sP L id=false):l6 L id c dn=none:=by
 unfold l6;split
 ·rename_i hc;have hj:(id-1).toNat<L.length:=by omega
  unfold sP at h;rw[zzm hc.2,zzc hj]at h
  rw[zzc hj];simp only[vv9,Bool.not_eq_false']at h;simp only[h,true_or,wwj]
 rfl
def Kt{L:List Rq}{rest:Ξ}{j i:Nat}(hj:j<L.length)(hi:i<7){v:Ε}{y:Rq}(hy:(iI L[j]).set i v=iI y):((L.map iI).flatten++rest).set (0+j*7+i) v=((L.set j y).map iI).flatten++rest:=by
 rw[yye,wwy _ _ (by rw[oV nK];omega),Ii nK L j i hj y v hi hy]
def Gs{L:List Rq}{rest:Ξ}{j i:Nat}(hj:j<L.length){u:Ε}(hu:(iI L[j])[i]?=some u):((L.map iI).flatten++rest)[0+j*7+i]?=some u:=by
 have h:=pP nK L j i L[j] u (zzc hj) hu;rw[yye,zzs (zzf.1 h).1];exact h
def ZH(H:bw)(v:Ε)(L:List Rq)(id dA:Int)(dn:Bool)(hv:ji H v L)(hn:L.length<=1000)(hid : -9223372036854775808<=id/\id<=9223372036854775807):
  SP 295 [v,Γ id,Γ dA,.bool dn] [.mem H] (λu post=>G1 H u post (l6 L id dA dn)):=by
 refine Enzz λW F w hS=>?_;apply cI2;delta On aI a_ cL ai bI;have fu:∀{w:Ζ},l6 L id dA dn=none->SL W (.mem H::F) w->∃post,G1 H (.tuple #[Θ,.bool false]) post (l6 L id dA dn)/\SL W (app post F) w:=λe hS=>⟨_,⟨H,bw.le_refl H,rfl,by rw[e]⟩,hS⟩;refine Cg (QL H v L id hv hn hid) λw hS=>?_;refine Cc (Zj H v L hv (by omega)) ?_;clear hS;rintro _ post ⟨q1,rfl,tH,rfl⟩ w hS;(try simp only[app]at hS);refine Gp ?_
 refine zt (λhe=>fu (aWn λh=>by rw[tH.2 h.1]at he;cases he) (aW hS)) (λhe=>?_);have hM:=tH.1 he;refine Gp ?_;refine zt (λh=>fu (aWo h) (aW hS)) (λh1=>?_);obtain⟨j,hj,rfl,hd⟩:=cwg h1;have ew:IntKind.i64.wrap (((j+1:Nat):Int)-1)=(j:Int):=by rw[X5 (by omega)];omega
 rw[ew];have ma:=aWl hM hj dA dn;have cH:=(hM.2 j hj).1;unfold vZ at cH;have hx:L[j]?=some L[j]:=zzc hj;refine QT hS Xh nK hv hx hj (i:=4) rfl ?_;refine Gp ?_;refine za (λh=>fu (by rw[ma,zzd (.inr (.inl h))]) (aW hS)) (λh4=>?_);refine Gp ?_;refine za (λh=>fu (by rw[ma,zzd (.inr (.inr (.inl h)))]) (aW hS)) (λh5=>?_);refine QT hS Xh nK hv hx hj (i:=5) rfl ?_;refine Gp ?_;refine za (λh=>fu (by rw[ma,zzd (.inr (.inr (.inr h)))]) (aW hS)) (λh6=>?_);rw[ma,zzb (by rw[hd];rintro (h|h|h|h);exact Bool.false_ne_true h;exact h4 h;exact h5 h;exact h6 h)];refine Cc (z8 H v L hv hn) ?_;clear hS;rintro v1 post rfl w hS;(try simp only[app]at hS);rcases bR.open hS with ⟨_,h0,_⟩|⟨ob,cap,rest,rfl,hc,hl,jP,hS⟩
 ·omega
 refine zF hj (yK (Zz hS Xu (Gs hj (i:=4) rfl) rfl ?_));clear hS;intro w hS;rw[Kt hj (by decide) (y:={L[j] with dA:=dA}) rfl]at hS
 have C5:j<(L.set j {L[j] with dA:=dA}).length:=by rw[yyj];exact hj
 have e1:(L.set j {L[j] with dA:=dA})[j]={L[j] with dA:=dA}:=by simp
 refine zF hj (yK (Zz hS Xu (Gs C5 (i:=6) (u:=.bool L[j].done) (by rw[e1];rfl)) rfl ?_));clear hS;intro w hS;rw[Kt C5 (by decide) (y:={L[j] with dA:=dA,done:=dn}) (by rw[e1];rfl),List.set_set]at hS
 have oB:j<(L.set j {L[j] with dA:=dA,done:=dn}).length:=by rw[yyj];exact hj
 have e2:(L.set j {L[j] with dA:=dA,done:=dn})[j]={L[j] with dA:=dA,done:=dn}:=by simp
 refine zF hj (yK (zV hS .hd (Gs oB (i:=5) (u:=Γ L[j].chunks) (by rw[e2];rfl)) ?_));refine Gp ?_;refine zF hj (yK (Zz hS Xu (Gs oB (i:=5) (u:=Γ L[j].chunks) (by rw[e2];rfl)) rfl ?_));clear hS;intro w hS;rw[Kt oB (by decide) (y:={L[j] with dA:=dA,chunks:=L[j].chunks+1,done:=dn}) (by rw[e2];rfl),List.set_set]at hS
 generalize CQ:L.set j {L[j] with dA:=dA,chunks:=L[j].chunks+1,done:=dn}=L2 at *
 have hlen:L2.length=L.length:=by rw[<- CQ,yyj]
 have hS:=bR.mk (n:=L2.length) (cap:=cap) (sz:=7) (rest:=rest) (by omega) (oV nK L2) (by rw[hlen];exact jP) hS;obtain⟨H1,dj,jG,hS⟩:=zz (H:=H) (v:=.slice (some ⟨ob,0,none⟩) L2.length cap) (n:=L2.length) (sz:=7) (t:=98) (cells:=(L2.map iI).flatten) hS Xp;exact⟨_,⟨H1,dj,rfl,_,rfl,by rw[<- hlen];exact jG⟩,aW hS⟩
structure iD where
 aw:Int
 ov:Ε
 nv:Ε
def eP(x:iD):Ξ:=[Γ x.aw,x.ov,x.nv]
abbrev awt(H:bw)(v:Ε)(l:List gr):Prop:=dq H 5 v l.length (l.map jF).flatten
abbrev aws(H:bw)(v:Ε)(l:List ix):Prop:=dq H 7 v l.length (l.map kO).flatten
structure ie(H:bw)(x:iD)(t:cD):Prop where
 aw:x.aw=t.aw
 ops:awt H x.ov t.ops
 iS:aws H x.nv t.notes
def ie.mono{H H':bw}(hh:H.le H'){x:iD}{t:cD}(h:ie H x t):ie H' x t:=⟨h.aw,h.ops.mono hh,h.iS.mono hh⟩
def bFf(x:iD):(eP x).length=3:=rfl
def HY(n:ix):∀v∈kO n,v.oneCell'=true:=by simp[kO,Value.oneCell']
def wV(o:gr):(jF o).length=5:=rfl
def mD{H:bw}{x:iD}{t:cD}(h:ie H x t):∀v∈eP x,v.oneCell'=true:=by
 intro v hv;simp only[eP,zz0,xxq,vvz]at hv;rcases hv with rfl|rfl|rfl
 ·rfl
 ·exact h.ops.one
 exact h.iS.one
def uY(b:Φ):∀v∈b.map cX,v.oneCell'=true:=λv hv=>by
 obtain⟨x,_,rfl⟩:=zzx.1 hv;rfl
section
variable {W w:Ζ} {l:Β}
def Zn{F:Β}{a:Option Addr}{k cap:Nat}{cs:Ξ}{K:Ε->Ζ->Prop}(hS:SL W F w)(gU:∀w' c,SL W (c::F) w'->kJ w' 1 (.slice a k cap) k cs)(hl:cs.length=k)(h1:∀v∈cs,v.oneCell'=true)(hb:k<=140737488355328)
  (h:∀u w',SL W (.ob (bR u 5 1 k cs)::F) w'->(a.isSome=true->u≠Θ\/k=0)->K u w'):aF 193 [.slice a k cap] w K:=by
 apply cGm;delta MV bI;refine WO ?_;cases a with
 | none=>
  refine zq ?_;have hs:=gU _ _ (bR.nil (t:=5) (sz:=1) hS);obtain rfl:cs=[]:=hs.2;obtain rfl:k=0:=by simpa using hl.symm
  exact h _ _ (bR.nil hS) (λh=>by cases h)
 | some p=>
  refine zp ?_;refine zN hS rfl ?_;intro b w' gE;have pR:SL W (.ob (bR (.slice (some ⟨b,0,none⟩) 0 0) 5 1 0 [])::F) w':=bR.full rfl gE;refine zI pR .hd (gU _ _ pR) (by rw[hl];omega) rfl h1 (by omega) (by omega) ?_;intro u w2 AW;rw[yye,zzr]at AW
  refine h u w2 AW λ_=>?_;rcases yyu k with hk|hk
  ·exact .inr hk
  refine .inl λe=>?_;subst e;rcases bR.open AW with ⟨_,h2,_⟩|⟨b,cap,rest,h2,_⟩
  ·omega
  cases h2
def cAz{v:Ε}{t:Ι}{sz n k:Nat}{kk:IntKind}{cells:Ξ}{K:Ε->Prop}(h:SL W l w)(m:Has (.ob (bR v t sz n cells)) l)(hk:k<=n)
  (hK:∀a cap,(∀w' l',SL W l' w'->Has (.ob (bR v t sz n cells)) l'->kJ w' sz (.slice a k cap) k (cells.take (k*sz)))->K (.slice a k cap)):fp sz v none (some (.int kk (k:Int))) none K:=by
 obtain⟨a,cap,rfl,hl,hx⟩:=bR.at h m;have o_:n<=cap:=by
  obtain⟨l2,r⟩:=m.rem;rcases bR.open (h.perm r.perm) with ⟨⟨a',e⟩,rfl,rfl,_⟩|⟨b,Ez,rest,e,hc,_⟩
  ·cases e;omega
  cases e;exact hc
 refine⟨a,n,cap,0,k,cap,rfl,rfl,⟨kk,rfl⟩,rfl,zz9 _,by omega,zzj _,?_⟩;rw[wwv,wwv];have e:(if cap=0 then a else a.map (·.add (0*sz)))=a:=by
  split
  ·rfl
  cases a<;>simp[Addr.add]
 rw[e];refine hK a cap λw' l' h' m'=>?_;have hs:=nk h' m';cases a with
 | none=>
  obtain⟨e1,e2⟩:=hs;subst e2;have e1:n=n:=e1;have hn:n*sz=0:=by simpa using hl.symm
  refine⟨rfl,by simp⟩
 | some p=>
  obtain⟨_,e2,e3⟩:=hs;refine⟨rfl,by rw[zzg,e2];exact xxu (yyy _ hk),λj v e=>?_⟩;rw[uud]at e
  split at e
  ·exact e3 j v e
  cases e
end
def aIg(X:Μ)(dp:Nat)(s:DS)(N:Nat)(cH:s.Ok N)(dV:s.ops<=100000)(f:Int)(bv:Ε)(b:Φ)(hX:∀{W:Ζ} {l:Β} {w:Ζ},SL W l w->Has X l->kJ w 1 bv b.length (b.map cX))(hN:((dK PF.id s.R f).getD (x' f)).b.length+b.length<=140737488355328):
  SP 220 [Δ dp,Γ f,bv] [.ob (bX dp s),X] (cE (Γ (s.append f b).2) [.ob (bX dp (s.append f b).1),X]):=by
 refine Enzz λW F w hS=>?_;apply cHd;delta No aI bU cV ai cT bI;obtain⟨mb,m,L,hr,hS⟩:=bX.iff.1 hS;refine Cg (YE dp mb s f) λw hS=>?_;unfold DS.append;refine za (λh=>?_) (λh=>?_)
 ·rw[zzd h];exact⟨_,⟨rfl,rfl⟩,bX.iff.2 ⟨mb,m,L,hr,aW hS⟩⟩
 rw[zzb h];have hm:may s f=0:=by omega
 obtain⟨h0,uA,A0⟩:=DC hm;refine Gp ?_;refine yL hS Xh (pg .i64) wwq yyc (λ_=>rfl) ?_;rw[hr.get f];have cOk:=cH.len;cases hg:dK fM L f with
 | none=>
  simp only[vvt,ww8];refine Yb (zq ?_);refine yW rfl ?_;refine⟨_,rfl,zC hS ?_⟩;clear hS;intro p w hS;refine Gp ?_;refine qR (key:=Value.int .i64) (val:=gq) (k:=f) (v:=p) hS Xu (pg .i64) wwq yyc ?_;clear hS;intro _ w hS;refine Gp ?_;have hS:=bR.nil (t:=5) (sz:=1) hS;refine zI (n:=0) (m:=b.length) hS .hd (hX hS Xh) (by simp) rfl (uY b) (by omega) (by omega) ?_;clear hS;intro v w hS;rw[yye,zzr]at hS
  have tG:=hS.rL .hd;refine Gn λw hS=>?_;refine Cg (yl dp mb s h0 cH.pE cH.q_ dV) λw hS=>?_;have hS:=(eJ.iff (x:=((⟨f,0,b⟩:PF),p))).2 ⟨v,SL.b_ hS (t:=.pt p [v,Γ 0] 296::.ob (bR v 5 1 b.length (b.map cX))::.ob (ze eJ L)::.pt dp (iH mb s.cA) 168::.ob (eE (Value.int .i64) gq mb (gI m f p))::X::F) Xi⟩;have hS:=ze.snoc (SL.b_ hS (t:=.ob (ze eJ L)::.ob (eJ ((⟨f,0,b⟩:PF),p))::.pt dp (iH mb s.cA) 168::.ob (eE (Value.int .i64) gq mb (gI m f p))::X::F) Xi);have tD:=hr.new hg (y:=⟨f,0,b⟩) rfl p;have hS:=ze.perm hS (ys:=fZ fM L (⟨f,0,b⟩,p)) (by
   have hi:iA fM L (fM ((⟨f,0,b⟩:PF),p))=false:=by rw[<- CK,show fM ((⟨f,0,b⟩:PF),p)=f from rfl,hg];rfl
   exact vvu.trans (Kn hr.rel.2 hi).symm)
  have e:kN s.R f b=fZ PF.id s.R ⟨f,0,b⟩:=by
   unfold kN;rw[hr.eZ f,hg];rfl
  rw[e];exact⟨_,⟨rfl,rfl⟩,bX.iff.2 ⟨mb,_,_,tD,aW hS⟩⟩
 | some x=>
  obtain⟨g1,g2,g3⟩:=vv hg;have hS:=ze.take (SL.b_ hS (t:=.ob (ze eJ L)::.pt dp (iH mb s) 168::.ob (eE (Value.int .i64) gq mb m)::X::F) Xi) g1;obtain⟨v0,hS⟩:=eJ.iff.1 hS;simp only[yyh,xxi];unfold gq;refine Yb (zp ?_);refine Gp ?_;have Uz:x.1.b.length+b.length<=140737488355328:=by rw[hr.eZ f,hg]at hN;exact hN
  refine zI (n:=x.1.b.length) (m:=b.length) hS Xr (hX hS Xh) (by simp) rfl (uY b) (by omega) (by omega) ?_;clear hS;intro v w hS;have tG:=hS.rL .hd;refine Gn λw hS=>?_;refine Cg (yl dp mb s h0 cH.pE cH.q_ dV) λw hS=>?_;have e1:x.1.b.map cX++b.map cX=(x.1.b++b).map cX:=by rw[zzt]
  have e2:x.1.b.length+b.length=(x.1.b++b).length:=by rw[zza]
  rw[e1,e2]at hS
  have hS:=(eJ.iff (x:=((⟨f,x.1.safe,x.1.b++b⟩:PF),x.2))).2 ⟨v,SL.b_ hS (t:=.pt x.2 [v,Γ x.1.safe] 296::.ob (bR v 5 1 (x.1.b++b).length ((x.1.b++b).map cX))::.ob (ze eJ (L.eraseIdx (fq fM L f)))::.pt dp (iH mb s.cA) 168::.ob (eE (Value.int .i64) gq mb m)::X::F) Xi⟩;have hS:=ze.put hS g2;have e:kN s.R f b=fZ PF.id s.R ⟨f,x.1.safe,x.1.b++b⟩:=by
   unfold kN;rw[hr.eZ f,hg];rfl
  rw[e];exact⟨_,⟨rfl,rfl⟩,bX.iff.2 ⟨mb,_,_,hr.set hg (y:=⟨f,x.1.safe,x.1.b++b⟩) rfl,aW hS⟩⟩
def Hv(X:Μ)(dp:Nat)(s:DS)(N:Nat)(cH:s.Ok N)(dV:s.ops<=100000)(f:Int)(bv:Ε)(b:Φ)(hX:∀{W:Ζ} {l:Β} {w:Ζ},SL W l w->Has X l->kJ w 1 bv b.length (b.map cX))(hN:N+b.length<=140737488355328):
  SP 220 [Δ dp,Γ f,bv] [.ob (bX dp s),X] (cE (Γ (s.append f b).2) [.ob (bX dp (s.append f b).1),X]):=
 aIg X dp s N cH dV f bv b hX (by have:=SZ (f:=f) cH.len;omega)
def Ie{s:DS}{m:List (Int × Nat)}{L:List EF}(hr:lW m L s.R)(f:Int):
  (s.find f≠0/\CE s m f= .tuple #[.pointer none,Γ (s.find f)])\/(s.find f=0/\may s f=0/\∃x,dK fM L f=some x/\CE s m f= .tuple #[gq x.2,Γ 0]):=by
 unfold DS.find CE;by_cases h:may s f=0
 ·have h':¬may s f≠0:=λe=>e h;rw[zzb h',zzb h',hr.get f];have hi:iA PF.id s.R f=(dK fM L f).isSome:=by rw[<- CK,hr.eZ f,Option.isSome_map]
  rw[hi];cases hg:dK fM L f with
  | none=>exact .inl ⟨by simp,by simp⟩
  | some x=>exact .inr ⟨by simp,h,x,rfl,rfl⟩
 rw[zzd h,zzd h];exact .inl ⟨h,rfl⟩
def wZ{W w:Ζ}{L:List EF}{f:Int}{x:EF}{l:Β}(hg:dK fM L f=some x)(hS:SL W (.ob (ze eJ L)::l) w):SL W (.ob (eJ x)::.ob (ze eJ (L.eraseIdx (fq fM L f)))::l) w:=ze.take hS (vv hg).1
def Ia{W w:Ζ}{L:List EF}{f:Int}{x y:EF}{l:Β}(hg:dK fM L f=some x)(hS:SL W (.ob (eJ y)::.ob (ze eJ (L.eraseIdx (fq fM L f)))::l) w):SL W (.ob (ze eJ (L.set (fq fM L f) y))::l) w:=ze.put hS (vv hg).2.1
def Ib{W w:Ζ}{L:List EF}{f:Int}{x:EF}{l:Β}(hg:dK fM L f=some x)(hS:SL W (.ob (eJ x)::.ob (ze eJ (L.eraseIdx (fq fM L f)))::l) w):SL W (.ob (ze eJ L)::l) w:=by
 have h:=Ia hg hS;have e:L.set (fq fM L f) x=L:=by
  obtain⟨h1,h2⟩:=zzf.1 (vv hg).1;rw[<- h2];simp
 rwa [e]at h
def XM{R:List PF}{f:Int}{x:PF}(h:dK PF.id R f=some x)(g:PF->PF):ki R f g=fZ PF.id R {g x with id:=f}:=by
 unfold ki;rw[h]
def Yj(dp:Nat)(s:DS)(N:Nat)(cH:s.Ok N)(dV:s.ops<=100000)(f:Int):
  SP 221 [Δ dp,Γ f] [.ob (bX dp s)] (cE (Γ (s.sync f).2) [.ob (bX dp (s.sync f).1)]):=by
 refine Enzz λW F w hS=>?_;apply cHe;delta Np aI bU cV ai;obtain⟨mb,m,L,hr,hS⟩:=bX.iff.1 hS;refine Cc (y4 dp mb s m f) ?_;clear hS;rintro v post ⟨rfl,rfl⟩ w hS;try simp only[app]at hS
 unfold DS.sync;rcases Ie hr f with ⟨h1,e⟩|⟨h1,h2,x,hg,e⟩
 ·rw[e,zzd h1];refine Gp ?_;refine za (λh=>absurd h h1) (λ_=>?_);refine Gp ?_;refine za (λh=>absurd h h1) (λ_=>?_);exact⟨_,⟨rfl,rfl⟩,bX.iff.2 ⟨mb,m,L,hr,aW hS⟩⟩
 obtain⟨h0,uA,A0⟩:=DC h2;rw[e,zzb (λh=>h h1)];unfold gq;refine Gp ?_;refine za (λ_=>?_) (λh=>absurd rfl h);refine Cg (yl dp mb s h0 cH.pE cH.q_ dV) λw hS=>?_;by_cases hc:s.cA.off=true
 ·have he:s.cA.err=8:=by unfold DS.err;rw[zzd hc]
  rw[he,zzd hc];refine za (λh=>by cases h) (λ_=>?_);exact⟨_,⟨rfl,rfl⟩,bX.iff.2 ⟨mb,m,L,hr,aW hS⟩⟩
 have he:s.cA.err=0:=by unfold DS.err;rw[zzb hc]
 rw[he,zzb hc];refine za (λ_=>?_) (λh=>absurd rfl h);have hS:=wZ hg (SL.b_ hS (t:=.ob (ze eJ L)::.pt dp (iH mb s.cA) 168::.ob (eE (Value.int .i64) gq mb m)::F) Xi);obtain⟨v0,hS⟩:=eJ.iff.1 hS;refine Gp ?_;refine zu hS (t:=5) (sz:=1) (n:=x.1.b.length) (cells:=x.1.b.map cX) Xh ?_;refine Gn λw hS=>?_;have hS:=Ia hg ((eJ.iff (x:=((⟨f,x.1.b.length,x.1.b⟩:PF),x.2))).2 ⟨v0,SL.b_ hS (t:=.pt x.2 [v0,Γ (x.1.b.length:Int)] 296::.ob (bR v0 5 1 x.1.b.length (x.1.b.map cX))::.ob (ze eJ (L.eraseIdx (fq fM L f)))::.pt dp (iH mb s.cA) 168::.ob (eE (Value.int .i64) gq mb m)::F) Xi⟩);have eR:=XM (f:=f) (x:=x.1) (by rw[hr.eZ f,hg];rfl) λx=>{x with safe:=x.b.length};rw[eR];exact⟨_,⟨rfl,rfl⟩,bX.iff.2 ⟨mb,_,_,hr.set hg (y:=⟨f,x.1.b.length,x.1.b⟩) rfl,aW hS⟩⟩
def Yv(x:EF)(n:Nat)(hn:n<=x.1.b.length)(hb:n<=140737488355328):SP 185 [gq x.2,Γ (n:Int)] [.ob (eJ x)] (cE (.tuple #[]) [.ob (eJ (jj n x.1,x.2))]):=by
 refine Enzz λW F w hS=>?_;apply cGh;delta MP bU cV;obtain⟨v0,hS⟩:=eJ.iff.1 hS;unfold gq;refine Gp ?_;refine cAz hS (t:=5) (sz:=1) (n:=x.1.b.length) (cells:=x.1.b.map cX) Xh hn ?_;intro a cap gU;refine Zn (cs:=(x.1.b.map cX).take (n*1)) hS (λw' c gE=>gU w' _ gE (.tl Xh)) (by simp;omega) (λv hv=>uY _ v (yyr hv)) (by omega) ?_;clear hS;intro u w hS _;have tG:=hS.rL .hd;refine Gn λw hS=>?_;have e1:(x.1.b.map cX).take (n*1)=(jj n x.1).b.map cX:=by rw[vvw,<- List.map_take];rfl
 have e2:(jj n x.1).b.length=n:=by simp only[jj,zzg];omega
 have e3:min (x.1.safe:Int) (n:Int)=(((jj n x.1).safe:Nat):Int):=by simp only[jj];omega
 rw[e1,e3]at hS
 refine⟨_,⟨rfl,rfl⟩,eJ.iff.2 ⟨u,?_⟩⟩;rw[e2];exact aW hS
def bYu{s:DS}{m:List (Int × Nat)}{L:List EF}(hr:lW m L s.R){f:Int}{x:EF}(hg:dK fM L f=some x):gn s.R f=x.1.b.length:=by
 unfold gn;rw[hr.eZ f,hg];rfl
def Zs(dp:Nat)(s:DS)(N:Nat)(cH:s.Ok N)(hN:N<=140737488355328)(dV:s.ops<=100000)(f n:Int):
  SP 251 [Δ dp,Γ f,Γ n] [.ob (bX dp s)] (cE (Γ (s.cut f n).2) [.ob (bX dp (s.cut f n).1)]):=by
 refine Enzz λW F w hS=>?_;apply cH6;delta NS aI bU ai;obtain⟨mb,m,L,hr,hS⟩:=bX.iff.1 hS;refine Cc (y4 dp mb s m f) ?_;clear hS;rintro v post ⟨rfl,rfl⟩ w hS;try simp only[app]at hS
 unfold DS.cut;rcases Ie hr f with ⟨h1,e⟩|⟨h1,h2,x,hg,e⟩
 ·rw[e,zzd h1];refine Gp ?_;refine⟨λus w=>us=[Γ (s.find f)]/\SL W (.pt dp (iH mb s) 168::.ob (eE (Value.int .i64) gq mb m)::.ob (ze eJ L)::F) w,?_,?_⟩
  ·refine Gp ?_;refine za (λh=>absurd h h1) (λ_=>?_);exact⟨rfl,aW hS⟩
  clear hS;rintro v8 w ⟨cP,hS⟩;cases cP;refine Gp ?_;refine za (λh=>absurd h h1) (λ_=>?_);refine Gp ?_;refine za (λh=>absurd h h1) (λ_=>?_);exact⟨_,⟨rfl,rfl⟩,bX.iff.2 ⟨mb,m,L,hr,aW hS⟩⟩
 obtain⟨h0,uA,A0⟩:=DC h2;rw[e,zzb (λh=>h h1)];unfold gq;refine Gp ?_;rw[bYu hr hg];have Uz:x.1.b.length<=N:=cH.len _ (by rw[<- hr.eq];exact zzx.2 ⟨x,yy9 (vv hg).1,rfl⟩);refine⟨λus w=>us=[Γ (if n<0\/(x.1.b.length:Int)<n then 1 else 0)]/\SL W (.pt dp (iH mb s) 168::.ob (eE (Value.int .i64) gq mb m)::.ob (ze eJ L)::F) w,?_,?_⟩
 ·refine Gp ?_;refine za (λ_=>?_) (λh=>absurd rfl h);refine bZ (λh=>?_) (λh=>?_)
  ·rw[zzd (.inl h)];exact⟨rfl,aW hS⟩
  have hS:=wZ hg (SL.b_ hS (t:=.ob (ze eJ L)::.pt dp (iH mb s) 168::.ob (eE (Value.int .i64) gq mb m)::F) Xi);obtain⟨v0,hS⟩:=eJ.iff.1 hS;refine Gp ?_;refine zu hS (t:=5) (sz:=1) (n:=x.1.b.length) (cells:=x.1.b.map cX) Xh ?_;refine Gp ?_;have hS:=Ib hg (eJ.iff.2 ⟨v0,hS⟩);refine za (λh3=>?_) (λh3=>?_)
  ·rw[zzd (.inr h3)];exact⟨rfl,aW hS⟩
  rw[zzb (by omega)];exact⟨rfl,aW hS⟩
 clear hS;rintro v8 w ⟨cP,hS⟩;cases cP;refine Gp ?_;by_cases hn:n<0\/(x.1.b.length:Int)<n
 ·rw[zzd hn,zzd hn];refine za (λh=>by cases h) (λ_=>?_);refine Gp ?_;refine za (λh=>by cases h) (λ_=>?_);exact⟨_,⟨rfl,rfl⟩,bX.iff.2 ⟨mb,m,L,hr,aW hS⟩⟩
 rw[zzb hn,zzb hn];refine za (λ_=>?_) (λh=>absurd rfl h);refine Cg (yl dp mb s h0 cH.pE cH.q_ dV) λw hS=>?_;by_cases hc:s.cA.off=true
 ·have he:s.cA.err=8:=by unfold DS.err;rw[zzd hc]
  rw[he,zzd hc];refine za (λh=>by cases h) (λ_=>?_);exact⟨_,⟨rfl,rfl⟩,bX.iff.2 ⟨mb,m,L,hr,aW hS⟩⟩
 have he:s.cA.err=0:=by unfold DS.err;rw[zzb hc]
 rw[he,zzb hc];refine za (λ_=>?_) (λh=>absurd rfl h);have hS:=wZ hg (SL.b_ hS (t:=.ob (ze eJ L)::.pt dp (iH mb s.cA) 168::.ob (eE (Value.int .i64) gq mb m)::F) Xi);obtain⟨k,rfl⟩:∃k:Nat,n=(k:Int):=⟨n.toNat,by omega⟩;have hC:=Yv x k (by omega) (by omega);unfold gq at hC;refine Cg (hC) λw hS=>?_;have hS:=Ia hg (y:=({jj k x.1 with id:=f},x.2)) (SL.b_ hS (t:=.ob (eJ ({jj k x.1 with id:=f},x.2))::.ob (ze eJ (L.eraseIdx (fq fM L f)))::.pt dp (iH mb s.cA) 168::.ob (eE (Value.int .i64) gq mb m)::F) (by
  have:(jj k x.1,x.2)=(({jj k x.1 with id:=f}:PF),x.2):=by
   have:=(vv hg).2.2;unfold fM at this;rw[<- this];rfl
  rw[this];exact Xi))
 have eR:=XM (f:=f) (x:=x.1) (by rw[hr.eZ f,hg];rfl) (jj (k:Int).toNat);rw[eR,zzy];exact⟨_,⟨rfl,rfl⟩,bX.iff.2 ⟨mb,_,_,hr.set hg (y:={jj k x.1 with id:=f}) rfl,aW hS⟩⟩
def yO(dp:Nat)(s:DS)(N:Nat)(cH:s.Ok N)(dV:s.ops<=100000)(f:Int):
  SP 252 [Δ dp,Γ f] [.ob (bX dp s)] (cE (Γ (s.remove f).2) [.ob (bX dp (s.remove f).1)]):=by
 refine Enzz λW F w hS=>?_;apply cH7;delta NT aI bU ai;obtain⟨mb,m,L,hr,hS⟩:=bX.iff.1 hS;refine Cc (y4 dp mb s m f) ?_;clear hS;rintro v post ⟨rfl,rfl⟩ w hS;try simp only[app]at hS
 unfold DS.remove;rcases Ie hr f with ⟨h1,e⟩|⟨h1,h2,x,hg,e⟩
 ·rw[e,zzd h1];refine Gp ?_;refine za (λh=>absurd h h1) (λ_=>?_);refine Gp ?_;refine za (λh=>absurd h h1) (λ_=>?_);exact⟨_,⟨rfl,rfl⟩,bX.iff.2 ⟨mb,m,L,hr,aW hS⟩⟩
 obtain⟨h0,uA,A0⟩:=DC h2;rw[e,zzb (λh=>h h1)];unfold gq;refine Gp ?_;refine za (λ_=>?_) (λh=>absurd rfl h);refine Cg (yl dp mb s h0 cH.pE cH.q_ dV) λw hS=>?_;by_cases hc:s.cA.off=true
 ·have he:s.cA.err=8:=by unfold DS.err;rw[zzd hc]
  rw[he,zzd hc];refine za (λh=>by cases h) (λ_=>?_);exact⟨_,⟨rfl,rfl⟩,bX.iff.2 ⟨mb,m,L,hr,aW hS⟩⟩
 have he:s.cA.err=0:=by unfold DS.err;rw[zzb hc]
 rw[he,zzb hc];refine za (λ_=>?_) (λh=>absurd rfl h);refine Gp ?_;refine cAj (key:=Value.int .i64) (val:=gq) (k:=f) hS Xu (pg .i64) wwq yyc ?_;clear hS;intro _ w hS;have hS:=wZ hg (SL.b_ hS (t:=.ob (ze eJ L)::.pt dp (iH mb s.cA) 168::.ob (eE (Value.int .i64) gq mb (rI m f))::F) Xi);have eL:jE fM L f=L.eraseIdx (fq fM L f):=by
  unfold jE;rw[zzd (by rw[<- CK,hg];rfl)]
 have hd:=hr.del f;rw[eL]at hd
 exact⟨_,⟨rfl,rfl⟩,bX.iff.2 ⟨mb,_,_,hd,aW hS⟩⟩
def B'(dp:Nat)(s:DS)(f:Int)(v:Ε)(post:Β):Prop:=match dK PF.id s.R f with
 | none=>v= .tuple #[Θ,.bool false]/\post=[.ob (bX dp s)]
 | some x=>∃u,v= .tuple #[u,.bool true]/\post=[.ob (bX dp s),.ob (bR u 5 1 x.b.length (x.b.map cX))]
def Z9(dp:Nat)(s:DS)(N:Nat)(cH:s.Ok N)(hN:N<=140737488355328)(f:Int):
  SP 269 [Δ dp,Γ f] [.ob (bX dp s)] (B' dp s f):=by
 refine Enzz λW F w hS=>?_;apply cIb;delta NX bU cT bI;obtain⟨mb,m,L,hr,hS⟩:=bX.iff.1 hS;refine Gp ?_;refine yL hS Xh (pg .i64) wwq yyc (λ_=>rfl) ?_;rw[hr.get f];cases hg:dK fM L f with
 | none=>
  simp only[vvt,ww8];refine Yb (zq ?_);exact⟨[.ob (bX dp s)],by unfold B';rw[hr.eZ f,hg];exact⟨rfl,rfl⟩,bX.iff.2 ⟨mb,m,L,hr,aW hS⟩⟩
 | some x=>
  simp only[yyh,xxi];unfold gq;refine Yb (zp ?_);have Uz:x.1.b.length<=N:=cH.len _ (by rw[<- hr.eq];exact zzx.2 ⟨x,yy9 (vv hg).1,rfl⟩);have hS:=wZ hg (SL.b_ hS (t:=.ob (ze eJ L)::.pt dp (iH mb s) 168::.ob (eE (Value.int .i64) gq mb m)::F) Xi);obtain⟨v0,hS⟩:=eJ.iff.1 hS;refine Gp ?_;obtain⟨a,cap,rfl,hl,_⟩:=bR.at hS (t:=5) (sz:=1) (n:=x.1.b.length) (cells:=x.1.b.map cX) Xh;refine Zn (cs:=x.1.b.map cX) hS (λw' c gE=>nk gE (.tl Xh)) (by simp) (uY _) (by omega) ?_;clear hS;intro u w hS _;have hS:=Ib hg ((eJ.iff (x:=x)).2 ⟨_,SL.b_ hS (t:=.pt x.2 [.slice a x.1.b.length cap,Γ x.1.safe] 296::.ob (bR (.slice a x.1.b.length cap) 5 1 x.1.b.length (x.1.b.map cX))::.ob (ze eJ (L.eraseIdx (fq fM L f)))::.ob (bR u 5 1 x.1.b.length (x.1.b.map cX))::.pt dp (iH mb s) 168::.ob (eE (Value.int .i64) gq mb m)::F) Xi⟩);exact⟨[.ob (bX dp s),.ob (bR u 5 1 x.1.b.length (x.1.b.map cX))],by unfold B';rw[hr.eZ f,hg];exact⟨u,rfl,rfl⟩,bX.iff.2 ⟨mb,m,L,hr,aW hS⟩⟩
def YD(dp:Nat)(s:DS)(f:Int):
  SP 250 [Δ dp,Γ f] [.ob (bX dp s)] (cE (Γ (gn s.R f)) [.ob (bX dp s)]):=by
 refine Enzz λW F w hS=>?_;apply cH5;delta NR bU ai cT;obtain⟨mb,m,L,hr,hS⟩:=bX.iff.1 hS;unfold gn;rw[hr.eZ f];refine Gp ?_;refine yL hS Xh (pg .i64) wwq yyc (λ_=>rfl) ?_;rw[hr.get f];cases hg:dK fM L f with
 | none=>
  simp only[vvt,ww8];refine Kx (zp ?_);exact⟨_,⟨rfl,rfl⟩,bX.iff.2 ⟨mb,m,L,hr,aW hS⟩⟩
 | some x=>
  simp only[yyh,xxi];unfold gq;refine Kx (zq ?_);have hS:=wZ hg (SL.b_ hS (t:=.ob (ze eJ L)::.pt dp (iH mb s) 168::.ob (eE (Value.int .i64) gq mb m)::F) Xi);obtain⟨v0,hS⟩:=eJ.iff.1 hS;refine Gp ?_;refine zu hS (t:=5) (sz:=1) (n:=x.1.b.length) (cells:=x.1.b.map cX) Xh ?_;have hS:=Ib hg ((eJ.iff (x:=x)).2 ⟨_,hS⟩);exact⟨_,⟨rfl,rfl⟩,bX.iff.2 ⟨mb,m,L,hr,aW hS⟩⟩
def wf_i64{n:Int}(h : -9223372036854775808<=n/\n<=9223372036854775807):(Lit.int .i64 n).wf=true:=by
 simpa [Lit.wf,IntKind.min,IntKind.max,IntKind.signed,IntKind.bits] using h
def ZE(dp:Nat)(s:DS)(N:Nat)(cH:s.Ok N)(hR:s.R.length<=100000):
  SP 184 [Δ dp] [.ob (bX dp s)] (λv post=>post=[.ob (bX dp s),.ob (bR v 3 1 s.R.length (s.R.map λx=>Γ x.id))]):=by
 refine Enzz λW F w hS=>?_;apply cGg;delta MO bU;obtain⟨mb,m,L,hr,hS⟩:=bX.iff.1 hS;refine Gp ?_;have mg:m.length=s.R.length:=by rw[hr.rel.len,hr.len]
 refine cAg hS Xh (by omega) (λp hp=>?_) ?_
 ·obtain⟨x,hx,rfl⟩:=zzx.1 (hr.rel.1.subset hp);have:=cH.ids x.1 (by rw[<- hr.eq];exact zzx.2 ⟨x,hx,rfl⟩);exact wf_i64 (by show -9223372036854775808<=fM x/\_;unfold fM;omega)
 clear hS;intro v w hS;have e:(p7 m).map (Value.int .i64)=s.R.map λx=>Γ x.id:=by
  rw[hr.rel.p7,<- hr.eq,xxj,xxj];rfl
 rw[e,mg]at hS
 exact⟨_,rfl,bX.iff.2 ⟨mb,m,L,hr,aW hS⟩⟩
def aIr(dp:Nat)(s:DS)(n:Int):
  SP 183 [Δ dp,Γ n] [.ob (bX dp s)] (cE (.tuple #[]) [.ob (bX dp (s.oh n))]):=by
 refine Enzz λW F w hS=>?_;apply cGf;delta MN cV ai;obtain⟨mb,m,L,hr,hS⟩:=bX.iff.1 hS;refine Gn λw hS=>?_;have hS:SL W (.pt dp (iH mb (s.oh n)) 168::.ob (eE (Value.int .i64) gq mb m)::.ob (ze eJ L)::F) w:=hS;exact⟨_,⟨rfl,rfl⟩,bX.iff.2 ⟨mb,m,L,hr,aW hS⟩⟩
def zM(dp:Nat)(s:DS):
  SP 60 [Δ dp] [.ob (bX dp s)] (cE (.bool s.off) [.ob (bX dp s)]):=by
 refine Enzz λW F w hS=>?_;apply cLc;delta PC bU;obtain⟨mb,m,L,hr,hS⟩:=bX.iff.1 hS;refine Gp ?_;exact⟨_,⟨rfl,rfl⟩,bX.iff.2 ⟨mb,m,L,hr,aW hS⟩⟩
def jN(keep:Ω)(i:Nat)(L:List EF):List EF:=L.mapIdx λj x=>if j<i then (iY keep j x.1,x.2) else x
def ui(keep:Ω)(i:Nat)(L:List EF):(jN keep i L).length=L.length:=by simp[jN]
def vk{keep:Ω}{i:Nat}{L:List EF}{j:Nat}(h:j<L.length):(jN keep i L)[j]'(by rw[ui];exact h)=if j<i then (iY keep j L[j].1,L[j].2) else L[j]:=by simp[jN]
def a_d(keep:Ω)(L:List EF):jN keep 0 L=L:=by
 refine xxw (ui _ _ _) λj h1 h2=>?_;rw[vk h2,zzb (by omega)]
def a_c{keep:Ω}{i:Nat}{L:List EF}(h:i<L.length):jN keep (i+1) L=(jN keep i L).set i (iY keep i L[i].1,L[i].2):=by
 refine xxw (by simp[jN]) λj h1 h2=>?_;have hj:j<L.length:=by rw[ui]at h1;exact h1
 rw[vk hj,xxp];by_cases e:i=j
 ·subst e;rw[zzd (by omega),zzd rfl]
 rw[zzb e,vk hj];by_cases h3:j<i
 ·rw[zzd h3,zzd (by omega)]
 rw[zzb h3,zzb (by omega)]
def a_a{keep:Ω}{L:List EF}:(jN keep L.length L).map Prod.fst=eY (L.map Prod.fst) keep:=by
 unfold eY;refine xxw (by simp[jN]) λj h1 h2=>?_;have hj:j<L.length:=by simpa [jN] using h1
 rw[xx5,vk hj,zzd hj];simp
def a_b(keep:Ω)(i:Nat)(L:List EF):(jN keep i L).map (λx=>(fM x,x.2))=L.map λx=>(fM x,x.2):=by
 refine xxw (by simp[jN]) λj h1 h2=>?_;have hj:j<L.length:=by simpa [jN] using h1
 rw[xx5,xx5,vk hj];split<;>rfl
def RR{keep:Ω}{i:Nat}{m:List (Int × Nat)}{L:List EF}(h:ko fM Prod.snd m L):ko fM Prod.snd m (jN keep i L):=by
 refine⟨by rw[a_b];exact h.1,?_⟩;have:=h.2;unfold fI at *
 rw[xxr]at *
 intro a b ha hb pS;have sx:a<L.length:=by rw[ui]at ha;exact ha
 have mF:b<L.length:=by rw[ui]at hb;exact hb
 have h3:=this a b sx mF pS;rw[vk sx,vk mF];have e1:∀(p:Prop) [Decidable p] (x:EF) (j:Nat),fM (if p then (iY keep j x.1,x.2) else x)=fM x:=λp _ x j=>by split<;>rfl
 rw[e1,e1];exact h3
def qm(H:bw)(dp:Nat)(s:DS)(N:Nat)(cH:s.Ok N)(hN:N<=140737488355328)(hR:s.R.length<=100000)(kv:Ε)(keep:Ω)(hk:dq H 1 kv keep.length (keep.map (Value.int .i64))):
  SP 122 [Δ dp,kv] [.ob (bX dp s),.mem H] (cE (.tuple #[]) [.ob (bX dp (s.ed keep)),.mem H]):=by
 refine Enzz λW F w hS=>?_;apply cEx;delta LQ aI bU cV ai;refine Cc (ZE dp s N cH hR) ?_;clear hS;rintro fv post rfl w hS;try simp only[app]at hS
 refine zu hS (t:=3) (sz:=1) (n:=s.R.length) (cells:=s.R.map λx=>Γ x.id) Xh ?_;obtain⟨mb,m,L,hr,hS⟩:=bX.iff.1 (SL.b_ hS (t:=.ob (bX dp s)::.ob (bR fv 3 1 s.R.length (s.R.map λx=>Γ x.id))::.mem H::F) Xi);have Iy:=hr.len;refine⟨λus w=>∃i:Nat,us=[Γ i]/\i<=L.length/\SL W (.ob (ze eJ (jN keep i L))::.pt dp (iH mb s) 168::.ob (eE (Value.int .i64) gq mb m)::.ob (bR fv 3 1 s.R.length (s.R.map λx=>Γ x.id))::.mem H::F) w,
  λus _=>match us with|[.int _ i]=>(L.length-i).toNat|_=>0,⟨0,rfl,by omega,by rw[a_d];exact aW hS⟩,?_⟩
 clear hS;rintro v11 w ⟨i,cP,hi,hS⟩;cases cP;refine bZ (λh=>?_) (λh=>?_)
 ·have cz:i<L.length:=by omega
  have Iz:s.R[i]?=some L[i].1:=by rw[<- hr.eq];simp[cz]
  refine yh hS (t:=3) (u:=Γ L[i].1.id) Xh (by omega) (by rw[ww2,Iz];rfl) ?_;refine Gp ?_;have Jg:=RR (keep:=keep) (i:=i) hr.rel;have uz:(jN keep i L)[i]'(by rw[ui];exact cz)=L[i]:=by rw[vk cz,zzb (by omega)]
  have hg:dK fM (jN keep i L) L[i].1.id=some L[i]:=by
   have:=tm Jg.2 (zzh (l:=jN keep i L) (n:=i) (by rw[ui];exact cz));rw[uz]at this
   exact this
  have il:fq fM (jN keep i L) L[i].1.id=i:=Cq Jg.2 (j:=i) (by rw[ui];exact cz) (by rw[uz];rfl);have uK:=cH.safe L[i].1 (yy9 Iz);have hlen:=cH.len L[i].1 (yy9 Iz);refine yL hS Xh (pg .i64) wwq yyc (λ_=>rfl) ?_;rw[Jg.get,hg];simp only[yyh,xxi];rw[show gq L[i].2= .pointer (some ⟨L[i].2,0,none⟩) from rfl];have hS:=wZ hg hS;rw[il]at hS
  have kC:∀{w:Ζ} {l:Β},SL W (.ob (eJ (iY keep i L[i].1,L[i].2))::.ob (ze eJ ((jN keep i L).eraseIdx i))::l) w->SL W (.ob (ze eJ (jN keep (i+1) L))::l) w:=λh=>by
   rw[a_c cz];exact ze.put h (by rw[ui];exact cz)
  generalize (jN keep i L).eraseIdx i=Er at *
  refine⟨λus w=>us=[Γ (jQ keep i L[i].1:Int)]/\SL W (.ob (eJ L[i])::.ob (ze eJ Er)::.pt dp (iH mb s) 168::.ob (eE (Value.int .i64) gq mb m)::.ob (bR fv 3 1 s.R.length (s.R.map λx=>Γ x.id))::.mem H::F) w,?_,?_⟩
  ·refine zo hk ?_;refine Gp ?_;unfold jQ;refine za (λh1=>?_) (λh1=>?_)
   ·have A5:i<keep.length:=by omega
    rw[zzc A5];simp only;refine yP hS Xh hk A5 (u:=Γ keep[i]) (by simp[A5]) ?_;refine bZ (λh2=>?_) (λh2=>?_)
    ·rw[zzd h2];refine Gn λw hS=>?_;refine yP hS Xh hk A5 (u:=Γ keep[i]) (by simp[A5]) ?_;obtain⟨v0,hS⟩:=eJ.iff.1 hS;refine Gp ?_;refine zu hS (t:=5) (sz:=1) (n:=L[i].1.b.length) (cells:=L[i].1.b.map cX) Xh ?_;refine Gp ?_;obtain⟨k,uE⟩:∃k:Nat,keep[i]=(k:Int):=⟨keep[i].toNat,by omega⟩;have e:(L[i].1.b.length:Int)-(L[i].1.safe:Int)+1=((L[i].1.b.length-L[i].1.safe+1:Nat):Int):=by omega
     rw[uE,e];refine QW (by omega) ?_;exact⟨by rw[zzy],SL.b_ (eJ.iff.2 ⟨v0,hS⟩) Xi⟩
    rw[zzb h2];exact⟨rfl,aW hS⟩
   rw[yys (by omega)];exact⟨rfl,aW hS⟩
  clear hS;rintro v7 w ⟨cP,hS⟩;cases cP;have bV0:=x8 (keep:=keep) (i:=i) uK;obtain⟨v0,hS⟩:=eJ.iff.1 hS;refine Gp ?_;have hS:=eJ.iff.2 ⟨v0,hS⟩;have hC:=Yv L[i] (L[i].1.safe+jQ keep i L[i].1) bV0 (by omega);unfold gq at hC;refine Cg (hC) λw hS=>?_;obtain⟨v1,hS⟩:=eJ.iff.1 hS;refine Gp ?_;refine zu hS (t:=5) (sz:=1) (n:=(jj (L[i].1.safe+jQ keep i L[i].1) L[i].1).b.length) (cells:=(jj (L[i].1.safe+jQ keep i L[i].1) L[i].1).b.map cX) Xh ?_;refine Gn λw hS=>?_;refine⟨⟨i+1,by simp,by omega,?_⟩,by dsimp only;omega⟩;have e1:(jj (L[i].1.safe+jQ keep i L[i].1) L[i].1).b=(iY keep i L[i].1).b:=rfl;have e2:(((jj (L[i].1.safe+jQ keep i L[i].1) L[i].1).b.length:Nat):Int)=(((iY keep i L[i].1).safe:Nat):Int):=by simp[iY,jj]
  rw[e1]at hS e2
  rw[e2]at hS
  have e3:(jj (L[i].1.safe+jQ keep i L[i].1) L[i].1).b.length=(iY keep i L[i].1).b.length:=rfl;have hS:=(eJ.iff (x:=(iY keep i L[i].1,L[i].2))).2 ⟨v1,hS⟩;exact SL.b_ (kC (SL.b_ hS (t:=.ob (eJ (iY keep i L[i].1,L[i].2))::.ob (ze eJ Er)::.pt dp (iH mb s) 168::.ob (eE (Value.int .i64) gq mb m)::.ob (bR fv 3 1 s.R.length (s.R.map λx=>Γ x.id))::.mem H::F) Xi)) Xi
 have cz:i=L.length:=by omega
 subst cz;refine Gn λw hS=>?_;have hS:SL W (.ob (ze eJ (jN keep L.length L))::.pt dp (iH mb (s.ed keep)) 168::.ob (eE (Value.int .i64) gq mb m)::.ob (bR fv 3 1 s.R.length (s.R.map λx=>Γ x.id))::.mem H::F) w:=hS;refine⟨_,⟨rfl,rfl⟩,bX.iff.2 ⟨mb,m,jN keep L.length L,⟨RR hr.rel,?_⟩,aW hS⟩⟩;rw[a_a,hr.eq];rfl

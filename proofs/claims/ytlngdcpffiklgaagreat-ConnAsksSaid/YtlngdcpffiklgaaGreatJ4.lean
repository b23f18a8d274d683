/- Part. -/
import Derived.Test.YtlngdcpffiklgaaGreatJ3
namespace Go.Proofs.YtlngdcpffiklgaaGreat
set_option linter.all false
open Go.RowKit
def vvm:=@List.eq_of_mem_replicate
def www:=@List.getElem?_drop
def xxh:=@List.drop_append_of_le_length
def yyn:=@List.findIdx?_eq_some_iff_getElem
def xxu:=@List.findIdx?_eq_none_iff
def xx7:=@List.getElem_map
def zzo:=@decide_eq_true
def uua:=@Bool.true_and
def xxs:=@List.not_mem_nil
def vv1:=@or_false
def cVg{z:Ξ}{n i:Nat}(h:i<n*z.length):(cQ z n)[i]?=z[i % z.length]?:=by
 induction n generalizing i with
 | zero=>omega
 | succ n ih=>
  have e:cQ z (n+1)=z++cQ z n:=by simp[cQ,List.replicate_succ]
  rw[e];rw[yyu]at h
  by_cases hi:i<z.length
  ·rw[zzm hi,wwt hi]
  rw[yyb (by omega),ih (by omega)];congr 1
  conv=>rhs;rw[show i=(i-z.length)+z.length by omega]
  rw[Nat.add_mod_right]
def Sp(A B z rest:Ξ)(h:B.length=z.length):(A++(B++rest)).take A.length++z++(A++(B++rest)).drop (A.length+z.length)=A++(z++rest):=by
 rw[ww3,xxe,<- h,ww2,zzk]
def Lw(zv:Array Ε)(z:Ξ)(hz:zv.toList=z)(n:Nat):(Builtin.zeroCells zv n).toList=cQ z n:=by
 subst hz;refine uun λi=>?_;by_cases hi:i<n*zv.size
 ·have h0:0<zv.size:=by
   rcases yy6 zv.size with h|h
   ·rw[h]at hi;omega
   exact h
  rw[cVg (by simpa using hi)];have hm:i % zv.size<zv.size:=vvj _ h0;simp[Builtin.zeroCells,hi,hm,wwy]
 have h1:(Builtin.zeroCells zv n).toList.length<=i:=by simp[Builtin.zeroCells];omega
 have h2:(cQ zv.toList n).length<=i:=by rw[l7];simp;omega
 rw[yyt h1,yyt h2]
section
variable {W w:Ζ} {l l':Β} {P:Program}
def SL.Y_{b:Nat}{t:Ι}:∀(vs:Ξ) (o:Nat) (cs:Ξ) (w:Ζ) (l l':Β),SL W l w->gj (.pt b cs t) (.pt b (rj cs o vs) t) l l'->o+vs.length<=cs.length->SL W l' (w.setCells b o vs)
 | [],o,cs,w,l,l',hS,u,hl=>by
  simp only[rj]at u;have:l=l':=by
   clear hS;generalize hc:Chunk.pt b cs t=c at u;revert hc;induction u with
   | hd=>intro;rfl
   | tl _ ih=>intro hc;rw[ih hc]
  rw[<- this];exact hS
 | v::r,o,cs,w,l,l',hS,u,hl=>by
  simp only[zzj]at hl;have hc:cs[o]?=some (cs[o]'(by omega)):=zzc (by omega);obtain⟨l2,p,q⟩:=u.other (.pt b (cs.set o v) t);rw[World.setCells];exact SL.Y_ r (o+1) _ _ l2 l' (hS.store p hc) (by simpa [rj] using q) (by simp;omega)
def SL.Z'{b o:Nat}{t:Ι}{cs vs:Ξ}(hS:SL W l w)(u:gj (.pt b cs t) (.pt b (cs.take o++vs++cs.drop (o+vs.length)) t) l l')(hl:o+vs.length<=cs.length):SL W l' (w.setCells b o vs):=
 SL.Y_ vs o cs w l l' hS (by rw[BJ _ _ _ hl];exact u) hl
def Xx{b o n c:Nat}{cs z:Ξ}{tt t e ty:Ι}{zv:Ε}{K:Ε->Ζ->Prop}(hS:SL W l w)(u:gj (.pt b cs tt) (.pt b (cs.take o++cQ z n++cs.drop (o+n*z.length)) tt) l l')
  (ht:P.underlying t=some (.slice e)) (hv:∀w,(zeroValue e).run P w= .ok zv w) (hz:zv.cells.toList=z) (h1:∀v∈z,v.oneCell'=true) (hn:0<n) (ho:o+n*z.length<=cs.length)
  (h:∀u w',SL W l' w'->K u w'):zS P (Builtin.clear_ #[t] ty #[.slice (some ⟨b,o,none⟩) n c]) w K:=by
 have JW:=Lw zv.cells z hz n;have hlen:(cQ z n).length=n*z.length:=l7 _ _;have iu:∀j,j<n*z.length->∃v,cs[o+j]?=some v:=λj hj=>⟨_,zzc (by omega)⟩;have gg:=run_storeCells_cells (P:=P) b o (cQ z n) 0 w (λj hj=>by obtain⟨v,hv⟩:=iu j (by omega);rw[xxp,hS.cell u.has hv];rfl) (λj hj=>by obtain⟨v,hv⟩:=iu j (by omega);rw[xxp];exact hS.frozen u.has hv)
  (by
   intro v q_;obtain⟨l0,pw,U5⟩:=wwg.1 q_;rw[vvm pw]at U5
   exact h1 v U5)
 simp only[xxp]at gg;obtain⟨m,rfl⟩:∃m,n=m+1:=⟨n-1,by omega⟩;refine⟨_,_,by simp[Builtin.clear_,zzy ht,hv,JW,gg];exact⟨rfl,rfl⟩,h _ _ (SL.Z' hS (by rw[hlen];exact u) (by rw[hlen];exact ho))⟩
def yB{b o sz n j:Nat}{k:IntKind}{K:Ε->Prop}(hj:j<n)(h:K (.pointer (some ⟨b,o+j*sz,none⟩))):yE sz n (.pointer (some ⟨b,o,none⟩)) (.int k (j:Int)) K:=
 ⟨_,k,j,rfl,rfl,hj,by rw[yye];exact h⟩
def Xt{t e:Ι}{len j:Nat}{vs:Ξ}{v:Ε}{k:IntKind}{K:Ε->Prop}(ht:P.underlying t=some (.array len e))(ha:∀w,(isAgg e).run P w= .ok false w)(hs:∀w,(sizeOf e).run P w= .ok 1 w)(hj:j<len)(hv:vs[j]?=some v)(h:K v):
  eS P (Instr.index t (.agg vs.toArray) (.int k (j:Int))) w K:=by
 refine⟨_,?_,h⟩;simp[Instr.index,asIntOf,zzy ht,Result.andThen,hj,hs,part,ha,hv]
def RB(P:Program)(sz gn:Nat)(z:Ξ)(et st:Ι)(v0:Ε)(v1:Ε)(v2:Ε)(w:Ζ)(R:Ε->Ζ->Prop):Prop:=
 zd v0 λv12=>
 eT sz v0 (some v1) (some v2) (some v12) λue=>
 zc .eql v1 v2 λwE=>
 df wE
 (R v0 w)
 (zd v0 λEh=>
 zi w λiI=>
 eT sz v0 none (some v1) none λv22=>
 eT sz v0 (some v2) none none λv25=>
 zx sz gn z et v22 v25 iI λv26 iz=>
 zd v26 λv29=>
 eT sz v26 (some v29) (some Eh) none λv31=>
 zS P (Builtin.clear_ #[st] 0 [v31].toArray) iz λu na=>
 R v26 na)
def Im{f:FuncId}{sz gn:Nat}{z:Ξ}{et st:Ι}{zv:Ε}(vc:∀v0 v1 v2 w R,RB P sz gn z et st v0 v1 v2 w R->zB P f [v0,v1,v2] w R)
  (ht:P.underlying st=some (.slice et)) (hv:∀w,(zeroValue et).run P w= .ok zv w) (hz:zv.cells.toList=z) (JX:z.length=sz) (h1:∀v∈z,v.oneCell'=true)
  (v:Ε) (n i:Nat) (cells:Ξ) (hi:i<n) (gl:∀v∈cells,v.oneCell'=true) (hb:n*gn<=140737488355328) (hn:n<=140737488355328) :
  Spec P f [v,Γ (i:Int),Γ ((i+1:Nat):Int)] [.ob (bF v et sz n cells)] (λu post=>post=[.ob (bF u et sz (n-1) (cells.take (i*sz)++cells.drop ((i+1)*sz)))]):=by
 refine Enzz λW F w hS=>?_;apply vc;unfold RB;rcases bF.open hS with ⟨⟨a,rfl⟩,rfl,rfl,_⟩|⟨b,cap,rest,rfl,ph,hlen,jD,hS⟩
 ·omega
 have cXk:(i+1)*sz<=n*sz:=yyv _ (by omega);have cXj:(i+1)*sz=i*sz+sz:=by rw[yyu,wwp]
 refine z7 ?_;refine⟨_,n,cap,i,i+1,n,rfl,⟨_,rfl⟩,⟨_,rfl⟩,⟨_,rfl⟩,by omega,by omega,by omega,?_⟩;refine Gp ?_;refine Χ ?_;refine Gn λw hS=>?_;refine⟨_,n,cap,0,i,cap,rfl,rfl,⟨_,rfl⟩,rfl,by omega,by omega,by omega,?_⟩;rw[zzb (show ¬cap=0 by omega)];refine⟨_,n,cap,i+1,n,cap,rfl,rfl,rfl,⟨_,rfl⟩,by omega,by omega,by omega,?_⟩;simp only[yyi,yye,uuk,xxp,xxo];have po:(cells.drop ((i+1)*sz)).length=(n-(i+1))*sz:=by rw[zzs,hlen,wws]
 have mS:i*sz+((n-(i+1))*sz)=(n-1)*sz:=by rw[<- yyu];congr 1;omega
 have cXi:(n-1)*sz+sz=n*sz:=by rw[show n*sz=(n-1+1)*sz by congr 1;omega,yyu,wwp]
 refine⟨some ⟨b,0,none⟩,i,cap,n-(i+1),cells.drop ((i+1)*sz),rfl,?_,?_,by omega,λp7=>?_,λh=>by omega⟩
 ·have cns:∀a:Option Addr,(n-(i+1)=0\/a=some ⟨b,0+(i+1)*sz,none⟩)->kL w sz (.slice a (n-(i+1)) (cap-(i+1))) (n-(i+1)) (cells.drop ((i+1)*sz)):=by
   intro a ha;rcases ha with h0|rfl
   ·rw[h0]at po ⊢
    have:cells.drop ((i+1)*sz)=[]:=zzl (by simpa using po);rw[this];cases a with
    | none=>exact⟨rfl,rfl⟩
    | some p=>exact⟨rfl,by simp,λj v e=>by simp at e⟩
   refine X9 hS (Has.hd) po λj u hu=>?_;rw[www]at hu
   rw[yya,zzm (zzf.1 hu).1];exact hu
  refine cns _ ?_;by_cases I7:cap=i+1
  ·left;omega
  right;rw[zzb I7]
 ·exact yyw (yyv _ (by omega)) hb
 show ud (Addr.add ⟨b,0,none⟩ (i*sz)) 0 _ w _;rw[yye,yya];have cWp:i*sz+(cells.drop ((i+1)*sz)).length<=(cells++rest).length:=by rw[zza,po,mS,hlen];omega
 refine BW (t:=et) (cells.drop ((i+1)*sz)) (i*sz) 0 (cells++rest) w _ (.pt b (cells.take (i*sz)++cells.drop ((i+1)*sz)++(cells.drop ((n-1)*sz)++rest)) et::F) hS ?_ (by omega) (λv hv=>gl v (vvz hv)) ?_
 ·rw[BJ _ _ _ (by omega),xxp,po,mS,xxg (by omega),xxh (by omega)];exact gj.hd
 intro w' hS;refine z7 ?_;refine⟨some ⟨b,0,none⟩,i+(n-(i+1)),cap,i+(n-(i+1)),n,cap,rfl,rfl,⟨_,rfl⟩,⟨_,rfl⟩,by omega,by omega,by omega,?_⟩;have en:i+(n-(i+1))=n-1:=by omega
 rw[en,zzb (show ¬cap=n-1 by omega)];simp only[yyi,yye,yya];rw[show n-(n-1)=1 by omega];have hA:(cells.take (i*sz)++cells.drop ((i+1)*sz)).length=(n-1)*sz:=by rw[zza,po,zzg,hlen];omega
 have hB:(cells.drop ((n-1)*sz)).length=sz:=by rw[zzs,hlen];omega
 have hle:(n-1)*sz+1*z.length<=(cells.take (i*sz)++cells.drop ((i+1)*sz)++(cells.drop ((n-1)*sz)++rest)).length:=by
  rw[zza (bs:=cells.drop ((n-1)*sz)++rest),zza (bs:=rest),hA,hB,JX];omega
 refine Xx (tt:=et) (n:=1) (l':=.pt b (cells.take (i*sz)++cells.drop ((i+1)*sz)++(z++rest)) et::F) hS ?_ ht hv hz h1 (by omega) hle ?_
 ·have e1:cQ z 1=z:=by simp[cQ]
  have e2:=Sp (cells.take (i*sz)++cells.drop ((i+1)*sz)) (cells.drop ((n-1)*sz)) z rest (by rw[hB,JX]);rw[hA]at e2
  rw[e1,wwp,e2];exact gj.hd
 intro u w hS;exact⟨_,rfl,bF.mk (n:=n-1) (cap:=cap) (rest:=z++rest) (by omega) hA (by rw[zza,JX,jD,show cap-(n-1)=(cap-n)+1 by omega,yyu,wwp];omega) hS⟩
def EA(P:Program)(T:List Bool)(sz:Nat)(v0:Ε)(v1:Ε)(w:Ζ)(R:Ε->Ζ->Prop):Prop:=
 zd v0 λv7=>
 ∃(I:Ξ->Ζ->Prop) (μ:Ξ->Ζ->Nat),I [(Γ 0)] w /\
 ∀(v8:Ε) iI,I [v8] iI ->
 zc .lss v8 v7 λv9=>
 df v9
 (zk sz v0 v8 λAn=>
 ze sz An iI λwD=>
 zK P T v1 [wD] iI λwE iz=>
 df wE
 (R v8 iz)
 (zc .add v8 (Γ 1) λrY=>
 I [rY] iz/\μ [rY] iz<μ [v8] iI))
 (R (Γ (-1)) iI)
def lz:Option Nat->Int
 | some i=>(i:Int)
 | none=>-1
def JY{T:List Bool}{f g:FuncId}{sz:Nat}{α:Type}{enc:α->Ξ}(hn:∀x,(enc x).length=sz)(hT:T.getD g false=true){cap:Array Ε}{pre:Β}{q:α->Bool}{t:Ι}
  (vc:∀v0 v1 w R,EA P T sz v0 v1 w R->zB P f [v0,v1] w R) (one:∀x,Spec P g ([agg (enc x)]++cap.toList) pre (cE (.bool (q x)) pre))
  (v:Ε) (xs:List α) (hl:xs.length<=9223372036854775806) :
  Spec P f [v,.func (.func g) #[] cap] (pre++[.ob (bF v t sz xs.length (xs.map enc).flatten)]) (cE (Γ (lz (xs.findIdx? q))) (pre++[.ob (bF v t sz xs.length (xs.map enc).flatten)])):=by
 intro W F w hS;apply vc;unfold EA;have e0:app (pre++[.ob (bF v t sz xs.length (xs.map enc).flatten)]) F=pre++(.ob (bF v t sz xs.length (xs.map enc).flatten)::F):=by rw[AH];simp
 have hm:Has (.ob (bF v t sz xs.length (xs.map enc).flatten)) (app (pre++[.ob (bF v t sz xs.length (xs.map enc).flatten)]) F):=by
  rw[e0];clear hS one e0;induction pre with
  | nil=>exact .hd
  | cons c r ih=>exact .tl ih
 refine zz hS hm ?_;refine⟨λvs w=>∃k:Nat,vs=[Γ k]/\k<=xs.length/\(∀j (h:j<xs.length),j<k->q xs[j]=false)/\SL W (app (pre++[.ob (bF v t sz xs.length (xs.map enc).flatten)]) F) w,λvs _=>match vs with|[.int _ k]=>(xs.length-k).toNat|_=>0,⟨0,rfl,by omega,λj h hj=>by omega,hS⟩,?_⟩;clear hS;rintro v8 w ⟨k,hv,hk,hq,hS⟩;cases hv;refine cA (λh=>?_) (λh=>?_)
 ·have mv:k<xs.length:=by omega
  refine zU hS hm hn (x:=xs[k]) (by simp[mv]) mv ?_;refine⟨g,#[],cap,rfl,hT,?_⟩;refine zB.mono (one xs[k] W (.ob (bF v t sz xs.length (xs.map enc).flatten)::F) w (by rw[AH,<- e0];exact hS)) ?_;clear hS;rintro u w ⟨post,⟨rfl,rfl⟩,hS⟩;rw[AH,<- e0]at hS
  cases Dr:q xs[k] with
  | true=>
   refine zq ?_;have e:xs.findIdx? q=some k:=yyn.2 ⟨mv,Dr,λj hj=>by rw[hq j (by omega) hj];decide⟩;rw[e];exact⟨_,⟨rfl,rfl⟩,hS⟩
  | false=>
   refine zp ?_;refine Gp ?_;refine⟨⟨k+1,rfl,by omega,λj h hj=>?_,hS⟩,by dsimp only;omega⟩;rcases xx6 j k with De|De
   ·exact hq j h De
   obtain rfl:j=k:=by omega
   exact Dr
 have e:xs.findIdx? q=none:=xxu.2 λx hx=>by
  obtain⟨j,hj,rfl⟩:=xxa.1 hx;exact hq j hj (by omega)
 rw[e];exact⟨_,⟨rfl,rfl⟩,hS⟩
end
set_option maxRecDepth 100000
def Hh(H:bw)(u:Ε)(post:Β)(o:Option (List Rq)):Prop:=∃H',H.le H'/\post=[.mem H']/\match o with
 | none=>u= .tuple #[Θ,.bool false]
 | some L'=>∃x,u= .tuple #[x,.bool true]/\iZ H' x L'
def Hc(r:Rq)(a:Int):Prop:=0<=r.table/\r.table<8/\1<=r.weight/\r.weight<=8/\max a 1<=r.at_/\r.at_<=1099511627776/\0<=r.dG/\r.dG<=1099511627776/\0<=r.chunks/\r.chunks<=1099511627776
def cC8(r:Rq)(a:Int):SP 365 [agg (gF r),Γ a] [] (λv post=>∃q:Bool,v= .bool q/\(q=true↔Hc r a)/\post=[]):=by
 refine Enzz λW F w hS=>?_;apply cRn;delta aI a_ cz ai;obtain⟨rid,rt,GL,rat,GF,GD,rd⟩:=r;unfold gF Hc;simp only;refine⟨_,rfl,zE hS ?_⟩;clear hS;intro b w hS;have fC:∀{w:Ζ},¬(0<=rt/\rt<8/\1<=GL/\GL<=8/\max a 1<=rat/\rat<=1099511627776/\0<=GF/\GF<=1099511627776/\0<=GD/\GD<=1099511627776)->SL W F w->∃post,(∃q:Bool,(.bool false:Ε)= .bool q/\(q=true↔0<=rt/\rt<8/\1<=GL/\GL<=8/\max a 1<=rat/\rat<=1099511627776/\0<=GF/\GF<=1099511627776/\0<=GD/\GD<=1099511627776)/\post=[])/\SL W (app post F) w:=λh hS=>⟨_,⟨false,rfl,⟨λe=>(by cases e),λe=>absurd e h⟩,rfl⟩,hS⟩;refine Gp ?_;refine za (λc1=>?_) (λc=>fC (by omega) (aR hS));refine Gp ?_;refine za (λc2=>?_) (λc=>fC (by omega) (aR hS));refine Gp ?_;refine za (λc3=>?_) (λc=>fC (by omega) (aR hS));refine Gp ?_;refine za (λc4=>?_) (λc=>fC (by omega) (aR hS));refine Gp ?_;refine za (λc5=>?_) (λc=>fC (by omega) (aR hS));refine Gp ?_;refine za (λc6=>?_) (λc=>fC (by omega) (aR hS));refine Gp ?_;refine za (λc7=>?_) (λc=>fC (by omega) (aR hS));refine Gp ?_;refine za (λc8=>?_) (λc=>fC (by omega) (aR hS));refine Gp ?_;refine za (λc9=>?_) (λc=>fC (by omega) (aR hS));refine Gp ?_;refine⟨_,⟨_,rfl,?_,rfl⟩,aR hS⟩;rw[zzw];exact⟨λc=>⟨c1,c2,c3,c4,c5,c6,c7,c8,c9,c⟩,λc=>c.2.2.2.2.2.2.2.2.2⟩
def vf(L:List Rq)(i t:Nat):Bool:=(L.take i).any λr=>decide (r.table=(t:Int)) && !r.done
def WH{L:List Rq}{i t:Nat}:vf L i t=true↔∃k,∃h:k<L.length,k<i/\L[k].table=(t:Int)/\L[k].done=false:=by
 unfold vf;rw[List.any_eq_true];constructor
 ·rintro ⟨r,hr,hx⟩;obtain⟨k,hk,rfl⟩:=xxa.1 hr;rw[zzg]at hk
  refine⟨k,by omega,by omega,?_⟩;simpa using hx
 rintro ⟨k,h,hk,h1,h2⟩;refine⟨L[k],xxa.2 ⟨k,by rw[zzg];omega,by simp⟩,by simp[h1,h2]⟩
def wq(L:List Rq)(i:Nat):Ξ:=(List.range 8).map λt=>.bool (vf L i t)
def WI(L:List Rq)(i:Nat){t:Nat}(h:t<8){o:Nat}(ho:o=t):(wq L i)[o]?=some (.bool (vf L i t)):=by
 subst ho;unfold wq;simp[h]
def cDb{L:List Rq}{i t:Nat}(hi:i<L.length)(ht:L[i].table=(t:Int))(h:vf L i t=false){o:Nat}(ho:o=t):(wq L i).set o (.bool !L[i].done)=wq L (i+1):=by
 subst ho;unfold wq;refine xxy (by simp) λj h1 h2=>?_;have hj:j<8:=by simpa using h2
 rw[xxr];have hs:∀t:Nat,vf L (i+1) t=(vf L i t || (decide (L[i].table=(t:Int)) && !L[i].done)):=λt=>by
  unfold vf;rw[zze hi,List.any_append];simp
 split
 ·rename_i e;subst e;simp only[xx7,List.getElem_range];rw[hs,h,ht];simp
 rename_i e;simp only[xx7,List.getElem_range];rw[hs,ht];have:¬((o:Int)=(j:Int)):=by omega
 simp[this]
def cDc(L:List Rq):wq L 0=[.bool false,.bool false,.bool false,.bool false,.bool false,.bool false,.bool false,.bool false]:=by
 simp[wq,vf,List.range,List.range.loop]
def wO(L:List Rq)(i:Nat):Int:=if i=0 then 0 else (L[i-1]?.map (·.at_)).getD 0
def cAd(H:bw)(v:Ε)(L:List Rq)(hv:iZ H v L)(hn:L.length<=140737488351232):
  SP 326 [v] [.mem H] (λu post=>∃q:Bool,u= .bool q/\(q=true↔gm L)/\post=[.mem H]):=by
 refine Enzz λW F w hS=>?_;apply cQy;delta aI a_ aW cP cz ai;have fC:∀{w:Ζ},¬gm L->SL W (.mem H::F) w->∃post,(∃q:Bool,(.bool false:Ε)= .bool q/\(q=true↔gm L)/\post=[.mem H])/\SL W (app post F) w:=λh hS=>
  ⟨_,⟨false,rfl,⟨λe=>(by cases e),λe=>absurd e h⟩,rfl⟩,hS⟩
 refine zE hS ?_;clear hS;intro ob w hS;refine zo hv ?_;rw[<- cDc L]at hS
 refine⟨λus w=>∃i:Nat,us=[Γ (wO L i),Γ i]/\i<=L.length/\(∀j,j<i->En L j)/\SL W (.pt ob (wq L i) 488::.mem H::F) w,
  λus _=>match us with|[_,.int _ i]=>(L.length-i).toNat|_=>0,⟨0,rfl,by omega,λj h=>by omega,aR hS⟩,?_⟩
 clear hS;rintro v4 v9 w ⟨i,cT,hi,eK,hS⟩;cases cT;refine cA (λh=>?_) (λh=>?_)
 ·have cG:i<L.length:=by omega
  have fK:∀{w:Ζ},¬En L i->SL W (.mem H::F) w->∃post,(∃q:Bool,(.bool false:Ε)= .bool q/\(q=true↔gm L)/\post=[.mem H])/\SL W (app post F) w:=λh hS=>fC (λhp=>h (hp.2 i)) hS;refine zF hS Xh nj hv (x:=L[i]) (by simp[cG]) cG ?_;refine zE hS ?_;clear hS;intro b w hS;refine zt (vs:=gF L[i]) hS .hd rfl rfl (E_ _) ?_;clear hS;intro w hS;have xY:En L i->wm i L[i]/\(∀h0:0<i,L[i-1].at_<=L[i].at_)/\∀k (hk:k<i),¬(L[k].table=L[i].table/\L[k].done=false):=λh=>h cG;have TV:max (wO L i) 1<=L[i].at_↔1<=L[i].at_/\∀h0:0<i,L[i-1].at_<=L[i].at_:=by
   unfold wO;by_cases h0:i=0
   ·rw[zzd h0];exact⟨λe=>⟨by omega,λh=>by omega⟩,λe=>by have:=e.1;omega⟩
   rw[zzb h0,zzc (by omega)];simp only[yyi,xxj];exact⟨λe=>⟨by omega,λ_=>by omega⟩,λe=>by have:=e.1;have:=e.2 (by omega);omega⟩
  unfold gF at hS;refine Gp ?_;refine za (λc=>fK (λhp=>by have:=(xY hp).1.1;omega) (aR hS)) (λc1=>?_);refine zr hS Xh rfl ?_;refine Cc (cC8 L[i] (wO L i)) ?_;clear hS;rintro _ post ⟨q1,rfl,tP,rfl⟩ w hS;(try simp only[app]at hS);refine Gp ?_
  refine zy (λhe=>fK (λhp=>?_) (aR hS)) (λhe=>?_)
  ·have hp:=xY hp;have h1:Hc L[i] (wO L i):=⟨hp.1.2.1,hp.1.2.2.1,hp.1.2.2.2.1,hp.1.2.2.2.2.1,TV.2 ⟨hp.1.2.2.2.2.2.1,hp.2.1⟩,hp.1.2.2.2.2.2.2.1,hp.1.2.2.2.2.2.2.2.1,hp.1.2.2.2.2.2.2.2.2.1,hp.1.2.2.2.2.2.2.2.2.2.1,hp.1.2.2.2.2.2.2.2.2.2.2⟩;rw[tP.2 h1]at he;cases he
  have hQ:=tP.1 he;have iu:=TV.1 hQ.2.2.2.2.1;obtain⟨t,ht⟩:∃t:Nat,L[i].table=(t:Int):=⟨L[i].table.toNat,by have:=hQ.1;omega⟩;have DB:t<8:=by have:=hQ.2.1;omega
  have U3:Γ L[i].table= Γ (t:Int):=by rw[ht]
  refine Gp ?_;rw[U3]at hS ⊢
  refine yB DB (zT hS Xh (WI L i DB (by omega)) ?_);refine yU (λho=>fK (λhp=>?_) (aR hS)) (λho=>?_)
  ·obtain⟨k,hk,hki,h1,h2⟩:=WH.1 ho;exact (xY hp).2.2 k hki ⟨by rw[h1,ht],h2⟩
  refine Gn λw hS=>?_;refine yB DB ?_;refine Zu hS Xu (WI L i DB (by omega)) rfl ?_;clear hS;intro w hS;rw[cDb cG ht ho (by omega)]at hS
  refine Gp ?_;have ea:wO L (i+1)=L[i].at_:=by
   unfold wO;rw[zzb (by omega),Nat.add_sub_cancel,zzc cG];rfl
  refine⟨⟨i+1,by rw[ea],by omega,λj hj=>?_,aR hS⟩,by dsimp only;omega⟩;by_cases e:j=i
  ·subst e;refine λ_=>⟨⟨by omega,hQ.1,hQ.2.1,hQ.2.2.1,hQ.2.2.2.1,iu.1,hQ.2.2.2.2.2.1,hQ.2.2.2.2.2.2.1,hQ.2.2.2.2.2.2.2.1,hQ.2.2.2.2.2.2.2.2.1,hQ.2.2.2.2.2.2.2.2.2⟩,iu.2,λk hk hx=>?_⟩;have:=WH.2 ⟨k,by omega,hk,by rw[hx.1,ht],hx.2⟩;rw[ho]at this;cases this
  exact eK j (by omega)
 have jZ:i=L.length:=by omega
 subst jZ;refine zo hv ?_;refine Gp ?_;refine⟨_,⟨_,rfl,?_,rfl⟩,aR hS⟩;rw[zzw];exact⟨λh=>⟨by omega,λj hj=>eK j hj hj⟩,λhp=>by have:=hp.1;omega⟩
def Zo(H:bw)(v:Ε)(L:List Rq)(hv:iZ H v L)(hn:L.length<=140737488351232):
  SP 275 [v] [.mem H] (λu post=>∃q:Bool,u= .bool q/\(q=true↔gm L)/\post=[.mem H]):=by
 refine Enzz λW F w hS=>?_;apply cPo;refine Cc (cAd H v L hv hn) ?_;clear hS;rintro _ post ⟨q,rfl,hq,rfl⟩ w hS;try simp only[app]at hS
 exact⟨_,⟨q,rfl,hq,rfl⟩,aR hS⟩
def sV(L:List Rq)(id:Int):Bool:=decide (1<=id/\id<=L.length) && (match L[(id-1).toNat]? with|some r=>!r.done|none=>false)
def cHm{a b:Int}{K:Ε->Prop}(h:K (Γ (IntKind.i64.wrap (a-b)))):zc .sub (Γ a) (Γ b) K:=⟨_,rfl,h⟩
def awf{n:Int}(h : -9223372036854775808<=n/\n<=9223372036854775807):IntKind.i64.wrap n=n:=xx1 _ h
def QT(H:bw)(v:Ε)(L:List Rq)(id:Int)(hv:iZ H v L)(hn:L.length<=1000)(hid : -9223372036854775808<=id/\id<=9223372036854775807):
  SP 336 [v,Γ id] [.mem H] (cE (.tuple #[Γ (IntKind.i64.wrap (id-1)),.bool (sV L id)]) [.mem H]):=by
 refine Enzz λW F w hS=>?_;apply cQ9;delta aI aW ai;refine Gn λw hS=>?_;refine cHm ?_;refine cA (λh1=>?_) (λh1=>?_)
 ·refine zo hv ?_;refine cA (λh2=>?_) (λh2=>?_)
  ·obtain⟨j,rfl⟩:∃j:Nat,id=((j+1:Nat):Int):=⟨(id-1).toNat,by omega⟩;have hj:j<L.length:=by omega
   have ej:((j+1:Nat):Int)-1=(j:Int):=by omega
   have hp:sV L ((j+1:Nat):Int) = !L[j].done:=by
    unfold sV;rw[zzo (by omega),show (((j+1:Nat):Int)-1).toNat=j by omega,zzc hj];rfl
   rw[hp,awf (by omega),ej];refine Gp ?_;rw[ej];have hd:=pX nj L j 6 L[j] (.bool L[j].done) (by simp[hj]) rfl;refine Yo hv hj λb o hb=>yN (GN hS Xh (hb 6 _ (by decide) hd) ?_);refine Gp ?_;refine GN hS Xh (hb 6 _ (by decide) hd) ?_;exact⟨rfl,_,⟨rfl,rfl⟩,aR hS⟩
  have hp:sV L id=false:=by unfold sV;rw[zz3 (by omega)];rfl
  rw[hp];exact cF hS
 have hp:sV L id=false:=by unfold sV;rw[zz3 (by omega)];rfl
 rw[hp];exact cF hS
def ya(H:bw)(v:Ε)(L:List Rq)(hv:iZ H v L)(hn:L.length<=1000):
  SP 53 [v] [.mem H] (λu post=>post=[.ob (bF u 86 7 L.length (L.map gF).flatten),.mem H]):=by
 exact Sn cTc rfl (by decide) hv (cF9 L) (by omega) (by omega)
def Zq(H:bw)(v:Ε)(L:List Rq)(table weight at_:Int)(hv:iZ H v L)(hn:L.length<=1000):
  SP 324 [v,Γ table,Γ weight,Γ at_] [.mem H] (λu post=>Hh H u post (pL L table weight at_)):=by
 intro W F w hS;apply cQw;delta cP ai bR;(try simp only[app]at hS);refine Cc (ya H v L hv hn) ?_;clear hS;rintro v1 post rfl w hS;(try simp only[app]at hS);refine zo hv ?_;refine Gm λb w hS=>?_;refine zJ (n:=L.length) (m:=1) (cells:=(L.map gF).flatten) hS Xr (jR (cs:=gF ⟨((L.length+1:Nat):Int),table,weight,at_,0,0,false⟩) hS .hd rfl) rfl rfl (E_ _) (by omega) (by omega) ?_;clear hS;intro v2 w hS;rw[<- vF]at hS
 obtain⟨H1,du,jP,hS⟩:=zw (H:=H) (v:=v2) (n:=L.length+1) (sz:=7) (t:=86) (cells:=((L++[(⟨((L.length+1:Nat):Int),table,weight,at_,0,0,false⟩:Rq)]).map gF).flatten) hS Xp;have hlen:(L++[(⟨((L.length+1:Nat):Int),table,weight,at_,0,0,false⟩:Rq)]).length=L.length+1:=by simp
 have jP:iZ H1 v2 (L++[(⟨((L.length+1:Nat):Int),table,weight,at_,0,0,false⟩:Rq)]):=by unfold iZ;rw[hlen];exact jP
 have hN:Ag L table weight at_=⟨((L.length+1:Nat):Int),table,weight,at_,0,0,false⟩:=rfl;unfold pL;rw[hN];generalize C3:L++[(⟨((L.length+1:Nat):Int),table,weight,at_,0,0,false⟩:Rq)]=L2 at jP hlen ⊢;refine Cc (Zo H1 v L (hv.mono du) (by omega)) ?_;clear hS;rintro _ post ⟨q1,rfl,tP,rfl⟩ w hS;(try simp only[app]at hS);refine Gp ?_
 refine zy (λhe=>?_) (λhe=>?_)
 ·rw[zzb λh=>by rw[tP.2 h.1]at he;cases he];exact⟨_,⟨H1,du,rfl,rfl⟩,aR hS⟩
 skip
 refine Cc (Zo H1 v2 L2 jP (by omega)) ?_;clear hS;rintro _ post ⟨q2,rfl,lu,rfl⟩ w hS;(try simp only[app]at hS);refine Gp ?_
 refine zy (λFF=>?_) (λFF=>?_)
 ·rw[zzb λh=>by rw[lu.2 h.2]at FF;cases FF];exact⟨_,⟨H1,du,rfl,rfl⟩,aR hS⟩
 rw[zzd ⟨tP.1 he,lu.1 FF⟩];exact⟨_,⟨H1,du,rfl,v2,rfl,jP⟩,aR hS⟩
def cDx{L:List Rq}{id:Int}(h:sV L id=true):∃j:Nat,∃hj:j<L.length,id=((j+1:Nat):Int)/\L[j].done=false:=by
 unfold sV at h;rw[zzu,zzw]at h
 obtain⟨⟨h1,h2⟩,h3⟩:=h;have hj:(id-1).toNat<L.length:=by omega
 rw[zzc hj]at h3
 exact⟨(id-1).toNat,hj,by omega,by simpa using h3⟩
def a_5{L:List Rq}{id c:Int}{dn:Bool}(h:sV L id=false):mi L id c dn=none:=by
 unfold mi;split
 ·rename_i hc;have hj:(id-1).toNat<L.length:=by omega
  unfold sV at h;rw[zzo hc.2,zzc hj]at h
  rw[zzc hj];simp only[uua,Bool.not_eq_false']at h;simp only[h,true_or,wwm]
 rfl
def KT{L:List Rq}{rest:Ξ}{j i:Nat}(hj:j<L.length)(hi:i<7){v:Ε}{y:Rq}(hy:(gF L[j]).set i v=gF y):((L.map gF).flatten++rest).set (0+j*7+i) v=((L.set j y).map gF).flatten++rest:=by
 rw[yya,ww1 _ _ (by rw[mN nj];omega),ID nj L j i hj y v hi hy]
def GK{L:List Rq}{rest:Ξ}{j i:Nat}(hj:j<L.length){u:Ε}(hu:(gF L[j])[i]?=some u):((L.map gF).flatten++rest)[0+j*7+i]?=some u:=by
 have h:=pX nj L j i L[j] u (zzc hj) hu;rw[yya,zzm (zzf.1 h).1];exact h
def ZP(H:bw)(v:Ε)(L:List Rq)(id dG:Int)(dn:Bool)(hv:iZ H v L)(hn:L.length<=1000)(hid : -9223372036854775808<=id/\id<=9223372036854775807):
  SP 289 [v,Γ id,Γ dG,.bool dn] [.mem H] (λu post=>Hh H u post (mi L id dG dn)):=by
 refine Enzz λW F w hS=>?_;apply cP3;delta aI a_ cP ai bR;have fC:∀{w:Ζ},mi L id dG dn=none->SL W (.mem H::F) w->∃post,Hh H (.tuple #[Θ,.bool false]) post (mi L id dG dn)/\SL W (app post F) w:=λe hS=>⟨_,⟨H,bw.le_refl H,rfl,by rw[e]⟩,hS⟩;refine Cg (QT H v L id hv hn hid) λw hS=>?_;refine Cc (Zo H v L hv (by omega)) ?_;clear hS;rintro _ post ⟨q1,rfl,tP,rfl⟩ w hS;(try simp only[app]at hS);refine Gp ?_
 refine zy (λhe=>fC (a_4 λh=>by rw[tP.2 h.1]at he;cases he) (aR hS)) (λhe=>?_);have hM:=tP.1 he;refine Gp ?_;refine zy (λh=>fC (a_5 h) (aR hS)) (λh1=>?_);obtain⟨j,hj,rfl,hd⟩:=cDx h1;have ew:IntKind.i64.wrap (((j+1:Nat):Int)-1)=(j:Int):=by rw[awf (by omega)];omega
 rw[ew];have mr:=a_2 hM hj dG dn;have cL:=(hM.2 j hj).1;unfold wm at cL;have hx:L[j]?=some L[j]:=zzc hj;refine Q2 hS Xh nj hv hx hj (i:=4) rfl ?_;refine Gp ?_;refine za (λh=>fC (by rw[mr,zzd (.inr (.inl h))]) (aR hS)) (λh4=>?_);refine Gp ?_;refine za (λh=>fC (by rw[mr,zzd (.inr (.inr (.inl h)))]) (aR hS)) (λh5=>?_);refine Q2 hS Xh nj hv hx hj (i:=5) rfl ?_;refine Gp ?_;refine za (λh=>fC (by rw[mr,zzd (.inr (.inr (.inr h)))]) (aR hS)) (λh6=>?_);rw[mr,zzb (by rw[hd];rintro (h|h|h|h);exact Bool.false_ne_true h;exact h4 h;exact h5 h;exact h6 h)];refine Cc (ya H v L hv hn) ?_;clear hS;rintro v1 post rfl w hS;(try simp only[app]at hS);rcases bF.open hS with ⟨_,h0,_⟩|⟨ob,cap,rest,rfl,hc,hl,jD,hS⟩
 ·omega
 refine zG hj (yN (Zu hS Xu (GK hj (i:=4) rfl) rfl ?_));clear hS;intro w hS;rw[KT hj (by decide) (y:={L[j] with dG:=dG}) rfl]at hS
 have uO:j<(L.set j {L[j] with dG:=dG}).length:=by rw[yyh];exact hj
 have e1:(L.set j {L[j] with dG:=dG})[j]={L[j] with dG:=dG}:=by simp
 refine zG hj (yN (Zu hS Xu (GK uO (i:=6) (u:=.bool L[j].done) (by rw[e1];rfl)) rfl ?_));clear hS;intro w hS;rw[KT uO (by decide) (y:={L[j] with dG:=dG,done:=dn}) (by rw[e1];rfl),List.set_set]at hS
 have oL:j<(L.set j {L[j] with dG:=dG,done:=dn}).length:=by rw[yyh];exact hj
 have e2:(L.set j {L[j] with dG:=dG,done:=dn})[j]={L[j] with dG:=dG,done:=dn}:=by simp
 refine zG hj (yN (zT hS .hd (GK oL (i:=5) (u:=Γ L[j].chunks) (by rw[e2];rfl)) ?_));refine Gp ?_;refine zG hj (yN (Zu hS Xu (GK oL (i:=5) (u:=Γ L[j].chunks) (by rw[e2];rfl)) rfl ?_));clear hS;intro w hS;rw[KT oL (by decide) (y:={L[j] with dG:=dG,chunks:=L[j].chunks+1,done:=dn}) (by rw[e2];rfl),List.set_set]at hS
 generalize C3:L.set j {L[j] with dG:=dG,chunks:=L[j].chunks+1,done:=dn}=L2 at *
 have hlen:L2.length=L.length:=by rw[<- C3,yyh]
 have hS:=bF.mk (n:=L2.length) (cap:=cap) (sz:=7) (rest:=rest) (by omega) (mN nj L2) (by rw[hlen];exact jD) hS;obtain⟨H1,du,jP,hS⟩:=zw (H:=H) (v:=.slice (some ⟨ob,0,none⟩) L2.length cap) (n:=L2.length) (sz:=7) (t:=86) (cells:=(L2.map gF).flatten) hS Xp;exact⟨_,⟨H1,du,rfl,_,rfl,by rw[<- hlen];exact jP⟩,aR hS⟩
structure iK where
 aw:Int
 ov:Ε
 nv:Ε
def eU(x:iK):Ξ:=[Γ x.aw,x.ov,x.nv]
abbrev aF8(H:bw)(v:Ε)(l:List gx):Prop:=de H 5 v l.length (l.map jO).flatten
abbrev aF7(H:bw)(v:Ε)(l:List iC):Prop:=de H 7 v l.length (l.map kT).flatten
structure ik(H:bw)(x:iK)(t:cJ):Prop where
 aw:x.aw=t.aw
 ops:aF8 H x.ov t.ops
 iX:aF7 H x.nv t.notes
def ik.mono{H H':bw}(hh:H.le H'){x:iK}{t:cJ}(h:ik H x t):ik H' x t:=⟨h.aw,h.ops.mono hh,h.iX.mono hh⟩
def bIs(x:iK):(eU x).length=3:=rfl
def It(n:iC):∀v∈kT n,v.oneCell'=true:=by simp[kT,Value.oneCell']
def xe(o:gx):(jO o).length=5:=rfl
def mL{H:bw}{x:iK}{t:cJ}(h:ik H x t):∀v∈eU x,v.oneCell'=true:=by
 intro v hv;simp only[eU,zz1,xxs,vv1]at hv;rcases hv with rfl|rfl|rfl
 ·rfl
 ·exact h.ops.one
 exact h.iX.one
def vk(b:Φ):∀v∈b.map dd,v.oneCell'=true:=λv hv=>by
 obtain⟨x,_,rfl⟩:=zzx.1 hv;rfl
section
variable {W w:Ζ} {l:Β}
def Zs{F:Β}{a:Option Addr}{k cap:Nat}{cs:Ξ}{K:Ε->Ζ->Prop}(hS:SL W F w)(iD:∀w' c,SL W (c::F) w'->kL w' 1 (.slice a k cap) k cs)(hl:cs.length=k)(h1:∀v∈cs,v.oneCell'=true)(hb:k<=140737488355328)
  (h:∀u w',SL W (.ob (bF u 5 1 k cs)::F) w'->(a.isSome=true->u≠Θ\/k=0)->K u w'):aF 178 [.slice a k cap] w K:=by
 apply cM4;delta bR;refine XA ?_;cases a with
 | none=>
  refine zq ?_;have hs:=iD _ _ (bF.nil (t:=5) (sz:=1) hS);obtain rfl:cs=[]:=hs.2;obtain rfl:k=0:=by simpa using hl.symm
  exact h _ _ (bF.nil hS) (λh=>by cases h)
 | some p=>
  refine zp ?_;refine zM hS rfl ?_;intro b w' fY;have pZ:SL W (.ob (bF (.slice (some ⟨b,0,none⟩) 0 0) 5 1 0 [])::F) w':=bF.full rfl fY;refine zJ pZ .hd (iD _ _ pZ) (by rw[hl];omega) rfl h1 (by omega) (by omega) ?_;intro u w2 A7;rw[yya,zzq]at A7
  refine h u w2 A7 λ_=>?_;rcases yy6 k with hk|hk
  ·exact .inr hk
  refine .inl λe=>?_;subst e;rcases bF.open A7 with ⟨_,h2,_⟩|⟨b,cap,rest,h2,_⟩
  ·omega
  cases h2
def cHi{v:Ε}{t:Ι}{sz n k:Nat}{kk:IntKind}{cells:Ξ}{K:Ε->Prop}(h:SL W l w)(m:Has (.ob (bF v t sz n cells)) l)(hk:k<=n)
  (hK:∀a cap,(∀w' l',SL W l' w'->Has (.ob (bF v t sz n cells)) l'->kL w' sz (.slice a k cap) k (cells.take (k*sz)))->K (.slice a k cap)):eT sz v none (some (.int kk (k:Int))) none K:=by
 obtain⟨a,cap,rfl,hl,hx⟩:=bF.at h m;have ph:n<=cap:=by
  obtain⟨l2,r⟩:=m.rem;rcases bF.open (h.perm r.perm) with ⟨⟨a',e⟩,rfl,rfl,_⟩|⟨b,ES,rest,e,hc,_⟩
  ·cases e;omega
  cases e;exact hc
 refine⟨a,n,cap,0,k,cap,rfl,rfl,⟨kk,rfl⟩,rfl,zz4 _,by omega,zzi _,?_⟩;rw[xxo,xxo];have e:(if cap=0 then a else a.map (·.add (0*sz)))=a:=by
  split
  ·rfl
  cases a<;>simp[Addr.add]
 rw[e];refine hK a cap λw' l' h' m'=>?_;have hs:=nG h' m';cases a with
 | none=>
  obtain⟨e1,e2⟩:=hs;subst e2;have e1:n=n:=e1;have hn:n*sz=0:=by simpa using hl.symm
  refine⟨rfl,by simp⟩
 | some p=>
  obtain⟨_,e2,e3⟩:=hs;refine⟨rfl,by rw[zzg,e2];exact xxw (yyv _ hk),λj v e=>?_⟩;rw[uue]at e
  split at e
  ·exact e3 j v e
  cases e
end
def aR8(X:Μ)(dp:Nat)(s:DS)(N:Nat)(cL:s.Ok N)(ed:s.ops<=100000)(f:Int)(bv:Ε)(b:Φ)(hX:∀{W:Ζ} {l:Β} {w:Ζ},SL W l w->Has X l->kL w 1 bv b.length (b.map dd))(hN:((dS PF.id s.R f).getD (Af f)).b.length+b.length<=140737488355328):
  SP 212 [Δ dp,Γ f,bv] [.ob (cw dp s),X] (cE (Γ (s.append f b).2) [.ob (cw dp (s.append f b).1),X]):=by
 refine Enzz λW F w hS=>?_;apply cN6;delta aI bW c_ ai cY bR;obtain⟨mb,m,L,hr,hS⟩:=cw.iff.1 hS;refine Cg (YQ dp mb s f) λw hS=>?_;unfold DS.append;refine za (λh=>?_) (λh=>?_)
 ·rw[zzd h];exact⟨_,⟨rfl,rfl⟩,cw.iff.2 ⟨mb,m,L,hr,aR hS⟩⟩
 rw[zzb h];have hm:may s f=0:=by omega
 obtain⟨h0,uK,Bb⟩:=DP hm;refine Gp ?_;refine yO hS Xh (py .i64) wwu yyd (λ_=>rfl) ?_;rw[hr.get f];have cWz:=cL.len;cases hg:dS fR L f with
 | none=>
  simp only[vvw,vvb];refine Ym (zq ?_);refine yZ rfl ?_;refine⟨_,rfl,zE hS ?_⟩;clear hS;intro p w hS;refine Gp ?_;refine q5 (key:=Value.int .i64) (val:=gu) (k:=f) (v:=p) hS Xu (py .i64) wwu yyd ?_;clear hS;intro _ w hS;refine Gp ?_;have hS:=bF.nil (t:=5) (sz:=1) hS;refine zJ (n:=0) (m:=b.length) hS .hd (hX hS Xh) (by simp) rfl (vk b) (by omega) (by omega) ?_;clear hS;intro v w hS;rw[yya,zzq]at hS
  have tO:=hS.rQ .hd;refine Gn λw hS=>?_;refine Cg (yj dp mb s h0 cL.pM cL.rz ed) λw hS=>?_;have hS:=(eM.iff (x:=((⟨f,0,b⟩:PF),p))).2 ⟨v,SL.cD hS (t:=.pt p [v,Γ 0] 284::.ob (bF v 5 1 b.length (b.map dd))::.ob (zh eM L)::.pt dp (iN mb s.cK) 166::.ob (eJ (Value.int .i64) gu mb (gM m f p))::X::F) Xi⟩;have hS:=zh.snoc (SL.cD hS (t:=.ob (zh eM L)::.ob (eM ((⟨f,0,b⟩:PF),p))::.pt dp (iN mb s.cK) 166::.ob (eJ (Value.int .i64) gu mb (gM m f p))::X::F) Xi);have tM:=hr.new hg (y:=⟨f,0,b⟩) rfl p;have hS:=zh.perm hS (ys:=gb fR L (⟨f,0,b⟩,p)) (by
   have hi:iE fR L (fR ((⟨f,0,b⟩:PF),p))=false:=by rw[<- CY,show fR ((⟨f,0,b⟩:PF),p)=f from rfl,hg];rfl
   exact vvx.trans (KL hr.rel.2 hi).symm)
  have e:kP s.R f b=gb PF.id s.R ⟨f,0,b⟩:=by
   unfold kP;rw[hr.fe f,hg];rfl
  rw[e];exact⟨_,⟨rfl,rfl⟩,cw.iff.2 ⟨mb,_,_,tM,aR hS⟩⟩
 | some x=>
  obtain⟨g1,g2,g3⟩:=vH hg;have hS:=zh.take (SL.cD hS (t:=.ob (zh eM L)::.pt dp (iN mb s) 166::.ob (eJ (Value.int .i64) gu mb m)::X::F) Xi) g1;obtain⟨v0,hS⟩:=eM.iff.1 hS;simp only[yyi,xxj];unfold gu;refine Ym (zp ?_);refine Gp ?_;have U9:x.1.b.length+b.length<=140737488355328:=by rw[hr.fe f,hg]at hN;exact hN
  refine zJ (n:=x.1.b.length) (m:=b.length) hS Xr (hX hS Xh) (by simp) rfl (vk b) (by omega) (by omega) ?_;clear hS;intro v w hS;have tO:=hS.rQ .hd;refine Gn λw hS=>?_;refine Cg (yj dp mb s h0 cL.pM cL.rz ed) λw hS=>?_;have e1:x.1.b.map dd++b.map dd=(x.1.b++b).map dd:=by rw[zzt]
  have e2:x.1.b.length+b.length=(x.1.b++b).length:=by rw[zza]
  rw[e1,e2]at hS
  have hS:=(eM.iff (x:=((⟨f,x.1.safe,x.1.b++b⟩:PF),x.2))).2 ⟨v,SL.cD hS (t:=.pt x.2 [v,Γ x.1.safe] 284::.ob (bF v 5 1 (x.1.b++b).length ((x.1.b++b).map dd))::.ob (zh eM (L.eraseIdx (fz fR L f)))::.pt dp (iN mb s.cK) 166::.ob (eJ (Value.int .i64) gu mb m)::X::F) Xi⟩;have hS:=zh.put hS g2;have e:kP s.R f b=gb PF.id s.R ⟨f,x.1.safe,x.1.b++b⟩:=by
   unfold kP;rw[hr.fe f,hg];rfl
  rw[e];exact⟨_,⟨rfl,rfl⟩,cw.iff.2 ⟨mb,_,_,hr.set hg (y:=⟨f,x.1.safe,x.1.b++b⟩) rfl,aR hS⟩⟩
def HM(X:Μ)(dp:Nat)(s:DS)(N:Nat)(cL:s.Ok N)(ed:s.ops<=100000)(f:Int)(bv:Ε)(b:Φ)(hX:∀{W:Ζ} {l:Β} {w:Ζ},SL W l w->Has X l->kL w 1 bv b.length (b.map dd))(hN:N+b.length<=140737488355328):
  SP 212 [Δ dp,Γ f,bv] [.ob (cw dp s),X] (cE (Γ (s.append f b).2) [.ob (cw dp (s.append f b).1),X]):=
 aR8 X dp s N cL ed f bv b hX (by have:=Tx (f:=f) cL.len;omega)
def IA{s:DS}{m:List (Int × Nat)}{L:List EF}(hr:l9 m L s.R)(f:Int):
  (s.find f≠0/\CR s m f= .tuple #[.pointer none,Γ (s.find f)])\/(s.find f=0/\may s f=0/\∃x,dS fR L f=some x/\CR s m f= .tuple #[gu x.2,Γ 0]):=by
 unfold DS.find CR;by_cases h:may s f=0
 ·have h':¬may s f≠0:=λe=>e h;rw[zzb h',zzb h',hr.get f];have hi:iE PF.id s.R f=(dS fR L f).isSome:=by rw[<- CY,hr.fe f,Option.isSome_map]
  rw[hi];cases hg:dS fR L f with
  | none=>exact .inl ⟨by simp,by simp⟩
  | some x=>exact .inr ⟨by simp,h,x,rfl,rfl⟩
 rw[zzd h,zzd h];exact .inl ⟨h,rfl⟩
def xh{W w:Ζ}{L:List EF}{f:Int}{x:EF}{l:Β}(hg:dS fR L f=some x)(hS:SL W (.ob (zh eM L)::l) w):SL W (.ob (eM x)::.ob (zh eM (L.eraseIdx (fz fR L f)))::l) w:=zh.take hS (vH hg).1
def Ix{W w:Ζ}{L:List EF}{f:Int}{x y:EF}{l:Β}(hg:dS fR L f=some x)(hS:SL W (.ob (eM y)::.ob (zh eM (L.eraseIdx (fz fR L f)))::l) w):SL W (.ob (zh eM (L.set (fz fR L f) y))::l) w:=zh.put hS (vH hg).2.1
def Iy{W w:Ζ}{L:List EF}{f:Int}{x:EF}{l:Β}(hg:dS fR L f=some x)(hS:SL W (.ob (eM x)::.ob (zh eM (L.eraseIdx (fz fR L f)))::l) w):SL W (.ob (zh eM L)::l) w:=by
 have h:=Ix hg hS;have e:L.set (fz fR L f) x=L:=by
  obtain⟨h1,h2⟩:=zzf.1 (vH hg).1;rw[<- h2];simp
 rwa [e]at h
def aiu{R:List PF}{f:Int}{x:PF}(h:dS PF.id R f=some x)(g:PF->PF):ku R f g=gb PF.id R {g x with id:=f}:=by
 unfold ku;rw[h]
def Yu(dp:Nat)(s:DS)(N:Nat)(cL:s.Ok N)(ed:s.ops<=100000)(f:Int):
  SP 213 [Δ dp,Γ f] [.ob (cw dp s)] (cE (Γ (s.sync f).2) [.ob (cw dp (s.sync f).1)]):=by
 refine Enzz λW F w hS=>?_;apply cN7;delta aI bW c_ ai;obtain⟨mb,m,L,hr,hS⟩:=cw.iff.1 hS;refine Cc (Za dp mb s m f) ?_;clear hS;rintro v post ⟨rfl,rfl⟩ w hS;try simp only[app]at hS
 unfold DS.sync;rcases IA hr f with ⟨h1,e⟩|⟨h1,h2,x,hg,e⟩
 ·rw[e,zzd h1];refine Gp ?_;refine za (λh=>absurd h h1) (λ_=>?_);refine Gp ?_;refine za (λh=>absurd h h1) (λ_=>?_);exact⟨_,⟨rfl,rfl⟩,cw.iff.2 ⟨mb,m,L,hr,aR hS⟩⟩
 obtain⟨h0,uK,Bb⟩:=DP h2;rw[e,zzb (λh=>h h1)];unfold gu;refine Gp ?_;refine Υ ?_;refine Cg (yj dp mb s h0 cL.pM cL.rz ed) λw hS=>?_;by_cases hc:s.cK.off=true
 ·have he:s.cK.err=8:=by unfold DS.err;rw[zzd hc]
  rw[he,zzd hc];refine Χ ?_;exact⟨_,⟨rfl,rfl⟩,cw.iff.2 ⟨mb,m,L,hr,aR hS⟩⟩
 have he:s.cK.err=0:=by unfold DS.err;rw[zzb hc]
 rw[he,zzb hc];refine Υ ?_;have hS:=xh hg (SL.cD hS (t:=.ob (zh eM L)::.pt dp (iN mb s.cK) 166::.ob (eJ (Value.int .i64) gu mb m)::F) Xi);obtain⟨v0,hS⟩:=eM.iff.1 hS;refine Gp ?_;refine zz hS (t:=5) (sz:=1) (n:=x.1.b.length) (cells:=x.1.b.map dd) Xh ?_;refine Gn λw hS=>?_;have hS:=Ix hg ((eM.iff (x:=((⟨f,x.1.b.length,x.1.b⟩:PF),x.2))).2 ⟨v0,SL.cD hS (t:=.pt x.2 [v0,Γ (x.1.b.length:Int)] 284::.ob (bF v0 5 1 x.1.b.length (x.1.b.map dd))::.ob (zh eM (L.eraseIdx (fz fR L f)))::.pt dp (iN mb s.cK) 166::.ob (eJ (Value.int .i64) gu mb m)::F) Xi⟩);have eR:=aiu (f:=f) (x:=x.1) (by rw[hr.fe f,hg];rfl) λx=>{x with safe:=x.b.length};rw[eR];exact⟨_,⟨rfl,rfl⟩,cw.iff.2 ⟨mb,_,_,hr.set hg (y:=⟨f,x.1.b.length,x.1.b⟩) rfl,aR hS⟩⟩
def YI(x:EF)(n:Nat)(hn:n<=x.1.b.length)(hb:n<=140737488355328):SP 173 [gu x.2,Γ (n:Int)] [.ob (eM x)] (cE (.tuple #[]) [.ob (eM (jr n x.1,x.2))]):=by
 refine Enzz λW F w hS=>?_;apply cM2;delta bW c_;obtain⟨v0,hS⟩:=eM.iff.1 hS;unfold gu;refine Gp ?_;refine cHi hS (t:=5) (sz:=1) (n:=x.1.b.length) (cells:=x.1.b.map dd) Xh hn ?_;intro a cap iD;refine Zs (cs:=(x.1.b.map dd).take (n*1)) hS (λw' c fY=>iD w' _ fY (.tl Xh)) (by simp;omega) (λv hv=>vk _ v (yys hv)) (by omega) ?_;clear hS;intro u w hS _;have tO:=hS.rQ .hd;refine Gn λw hS=>?_;have e1:(x.1.b.map dd).take (n*1)=(jr n x.1).b.map dd:=by rw[wwq,<- List.map_take];rfl
 have e2:(jr n x.1).b.length=n:=by simp only[jr,zzg];omega
 have e3:min (x.1.safe:Int) (n:Int)=(((jr n x.1).safe:Nat):Int):=by simp only[jr];omega
 rw[e1,e3]at hS
 refine⟨_,⟨rfl,rfl⟩,eM.iff.2 ⟨u,?_⟩⟩;rw[e2];exact aR hS
def cz6{s:DS}{m:List (Int × Nat)}{L:List EF}(hr:l9 m L s.R){f:Int}{x:EF}(hg:dS fR L f=some x):gH s.R f=x.1.b.length:=by
 unfold gH;rw[hr.fe f,hg];rfl
def ZB(dp:Nat)(s:DS)(N:Nat)(cL:s.Ok N)(hN:N<=140737488355328)(ed:s.ops<=100000)(f n:Int):
  SP 243 [Δ dp,Γ f,Γ n] [.ob (cw dp s)] (cE (Γ (s.cut f n).2) [.ob (cw dp (s.cut f n).1)]):=by
 refine Enzz λW F w hS=>?_;apply cO2;delta aI bW ai;obtain⟨mb,m,L,hr,hS⟩:=cw.iff.1 hS;refine Cc (Za dp mb s m f) ?_;clear hS;rintro v post ⟨rfl,rfl⟩ w hS;try simp only[app]at hS
 unfold DS.cut;rcases IA hr f with ⟨h1,e⟩|⟨h1,h2,x,hg,e⟩
 ·rw[e,zzd h1];refine Gp ?_;refine⟨λus w=>us=[Γ (s.find f)]/\SL W (.pt dp (iN mb s) 166::.ob (eJ (Value.int .i64) gu mb m)::.ob (zh eM L)::F) w,?_,?_⟩
  ·refine Gp ?_;refine za (λh=>absurd h h1) (λ_=>?_);exact⟨rfl,aR hS⟩
  clear hS;rintro v8 w ⟨cT,hS⟩;cases cT;refine Gp ?_;refine za (λh=>absurd h h1) (λ_=>?_);refine Gp ?_;refine za (λh=>absurd h h1) (λ_=>?_);exact⟨_,⟨rfl,rfl⟩,cw.iff.2 ⟨mb,m,L,hr,aR hS⟩⟩
 obtain⟨h0,uK,Bb⟩:=DP h2;rw[e,zzb (λh=>h h1)];unfold gu;refine Gp ?_;rw[cz6 hr hg];have U9:x.1.b.length<=N:=cL.len _ (by rw[<- hr.eq];exact zzx.2 ⟨x,yy5 (vH hg).1,rfl⟩);refine⟨λus w=>us=[Γ (if n<0\/(x.1.b.length:Int)<n then 1 else 0)]/\SL W (.pt dp (iN mb s) 166::.ob (eJ (Value.int .i64) gu mb m)::.ob (zh eM L)::F) w,?_,?_⟩
 ·refine Gp ?_;refine Υ ?_;refine cA (λh=>?_) (λh=>?_)
  ·rw[zzd (.inl h)];exact⟨rfl,aR hS⟩
  have hS:=xh hg (SL.cD hS (t:=.ob (zh eM L)::.pt dp (iN mb s) 166::.ob (eJ (Value.int .i64) gu mb m)::F) Xi);obtain⟨v0,hS⟩:=eM.iff.1 hS;refine Gp ?_;refine zz hS (t:=5) (sz:=1) (n:=x.1.b.length) (cells:=x.1.b.map dd) Xh ?_;refine Gp ?_;have hS:=Iy hg (eM.iff.2 ⟨v0,hS⟩);refine za (λh3=>?_) (λh3=>?_)
  ·rw[zzd (.inr h3)];exact⟨rfl,aR hS⟩
  rw[zzb (by omega)];exact⟨rfl,aR hS⟩
 clear hS;rintro v8 w ⟨cT,hS⟩;cases cT;refine Gp ?_;by_cases hn:n<0\/(x.1.b.length:Int)<n
 ·rw[zzd hn,zzd hn];refine Χ ?_;refine Gp ?_;refine Χ ?_;exact⟨_,⟨rfl,rfl⟩,cw.iff.2 ⟨mb,m,L,hr,aR hS⟩⟩
 rw[zzb hn,zzb hn];refine Υ ?_;refine Cg (yj dp mb s h0 cL.pM cL.rz ed) λw hS=>?_;by_cases hc:s.cK.off=true
 ·have he:s.cK.err=8:=by unfold DS.err;rw[zzd hc]
  rw[he,zzd hc];refine Χ ?_;exact⟨_,⟨rfl,rfl⟩,cw.iff.2 ⟨mb,m,L,hr,aR hS⟩⟩
 have he:s.cK.err=0:=by unfold DS.err;rw[zzb hc]
 rw[he,zzb hc];refine Υ ?_;have hS:=xh hg (SL.cD hS (t:=.ob (zh eM L)::.pt dp (iN mb s.cK) 166::.ob (eJ (Value.int .i64) gu mb m)::F) Xi);obtain⟨k,rfl⟩:∃k:Nat,n=(k:Int):=⟨n.toNat,by omega⟩;have hC:=YI x k (by omega) (by omega);unfold gu at hC;refine Cg (hC) λw hS=>?_;have hS:=Ix hg (y:=({jr k x.1 with id:=f},x.2)) (SL.cD hS (t:=.ob (eM ({jr k x.1 with id:=f},x.2))::.ob (zh eM (L.eraseIdx (fz fR L f)))::.pt dp (iN mb s.cK) 166::.ob (eJ (Value.int .i64) gu mb m)::F) (by
  have:(jr k x.1,x.2)=(({jr k x.1 with id:=f}:PF),x.2):=by
   have:=(vH hg).2.2;unfold fR at this;rw[<- this];rfl
  rw[this];exact Xi))
 have eR:=aiu (f:=f) (x:=x.1) (by rw[hr.fe f,hg];rfl) (jr (k:Int).toNat);rw[eR,zzz];exact⟨_,⟨rfl,rfl⟩,cw.iff.2 ⟨mb,_,_,hr.set hg (y:={jr k x.1 with id:=f}) rfl,aR hS⟩⟩
def yS(dp:Nat)(s:DS)(N:Nat)(cL:s.Ok N)(ed:s.ops<=100000)(f:Int):
  SP 244 [Δ dp,Γ f] [.ob (cw dp s)] (cE (Γ (s.remove f).2) [.ob (cw dp (s.remove f).1)]):=by
 refine Enzz λW F w hS=>?_;apply cO3;delta aI bW ai;obtain⟨mb,m,L,hr,hS⟩:=cw.iff.1 hS;refine Cc (Za dp mb s m f) ?_;clear hS;rintro v post ⟨rfl,rfl⟩ w hS;try simp only[app]at hS
 unfold DS.remove;rcases IA hr f with ⟨h1,e⟩|⟨h1,h2,x,hg,e⟩
 ·rw[e,zzd h1];refine Gp ?_;refine za (λh=>absurd h h1) (λ_=>?_);refine Gp ?_;refine za (λh=>absurd h h1) (λ_=>?_);exact⟨_,⟨rfl,rfl⟩,cw.iff.2 ⟨mb,m,L,hr,aR hS⟩⟩
 obtain⟨h0,uK,Bb⟩:=DP h2;rw[e,zzb (λh=>h h1)];unfold gu;refine Gp ?_;refine Υ ?_;refine Cg (yj dp mb s h0 cL.pM cL.rz ed) λw hS=>?_;by_cases hc:s.cK.off=true
 ·have he:s.cK.err=8:=by unfold DS.err;rw[zzd hc]
  rw[he,zzd hc];refine Χ ?_;exact⟨_,⟨rfl,rfl⟩,cw.iff.2 ⟨mb,m,L,hr,aR hS⟩⟩
 have he:s.cK.err=0:=by unfold DS.err;rw[zzb hc]
 rw[he,zzb hc];refine Υ ?_;refine Gp ?_;refine cG2 (key:=Value.int .i64) (val:=gu) (k:=f) hS Xu (py .i64) wwu yyd ?_;clear hS;intro _ w hS;have hS:=xh hg (SL.cD hS (t:=.ob (zh eM L)::.pt dp (iN mb s.cK) 166::.ob (eJ (Value.int .i64) gu mb (rO m f))::F) Xi);have eL:jN fR L f=L.eraseIdx (fz fR L f):=by
  unfold jN;rw[zzd (by rw[<- CY,hg];rfl)]
 have hd:=hr.del f;rw[eL]at hd
 exact⟨_,⟨rfl,rfl⟩,cw.iff.2 ⟨mb,_,_,hd,aR hS⟩⟩
def Ci(dp:Nat)(s:DS)(f:Int)(v:Ε)(post:Β):Prop:=match dS PF.id s.R f with
 | none=>v= .tuple #[Θ,.bool false]/\post=[.ob (cw dp s)]
 | some x=>∃u,v= .tuple #[u,.bool true]/\post=[.ob (cw dp s),.ob (bF u 5 1 x.b.length (x.b.map dd))]
def Yk(dp:Nat)(s:DS)(N:Nat)(cL:s.Ok N)(hN:N<=140737488355328)(f:Int):
  SP 265 [Δ dp,Γ f] [.ob (cw dp s)] (Ci dp s f):=by
 refine Enzz λW F w hS=>?_;apply cPd;delta bW cY bR;obtain⟨mb,m,L,hr,hS⟩:=cw.iff.1 hS;refine Gp ?_;refine yO hS Xh (py .i64) wwu yyd (λ_=>rfl) ?_;rw[hr.get f];cases hg:dS fR L f with
 | none=>
  simp only[vvw,vvb];refine Ym (zq ?_);exact⟨[.ob (cw dp s)],by unfold Ci;rw[hr.fe f,hg];exact⟨rfl,rfl⟩,cw.iff.2 ⟨mb,m,L,hr,aR hS⟩⟩
 | some x=>
  simp only[yyi,xxj];unfold gu;refine Ym (zp ?_);have U9:x.1.b.length<=N:=cL.len _ (by rw[<- hr.eq];exact zzx.2 ⟨x,yy5 (vH hg).1,rfl⟩);have hS:=xh hg (SL.cD hS (t:=.ob (zh eM L)::.pt dp (iN mb s) 166::.ob (eJ (Value.int .i64) gu mb m)::F) Xi);obtain⟨v0,hS⟩:=eM.iff.1 hS;refine Gp ?_;obtain⟨a,cap,rfl,hl,_⟩:=bF.at hS (t:=5) (sz:=1) (n:=x.1.b.length) (cells:=x.1.b.map dd) Xh;refine Zs (cs:=x.1.b.map dd) hS (λw' c fY=>nG fY (.tl Xh)) (by simp) (vk _) (by omega) ?_;clear hS;intro u w hS _;have hS:=Iy hg ((eM.iff (x:=x)).2 ⟨_,SL.cD hS (t:=.pt x.2 [.slice a x.1.b.length cap,Γ x.1.safe] 284::.ob (bF (.slice a x.1.b.length cap) 5 1 x.1.b.length (x.1.b.map dd))::.ob (zh eM (L.eraseIdx (fz fR L f)))::.ob (bF u 5 1 x.1.b.length (x.1.b.map dd))::.pt dp (iN mb s) 166::.ob (eJ (Value.int .i64) gu mb m)::F) Xi⟩);exact⟨[.ob (cw dp s),.ob (bF u 5 1 x.1.b.length (x.1.b.map dd))],by unfold Ci;rw[hr.fe f,hg];exact⟨u,rfl,rfl⟩,cw.iff.2 ⟨mb,m,L,hr,aR hS⟩⟩
def YP(dp:Nat)(s:DS)(f:Int):
  SP 242 [Δ dp,Γ f] [.ob (cw dp s)] (cE (Γ (gH s.R f)) [.ob (cw dp s)]):=by
 refine Enzz λW F w hS=>?_;apply cO1;delta bW ai cY;obtain⟨mb,m,L,hr,hS⟩:=cw.iff.1 hS;unfold gH;rw[hr.fe f];refine Gp ?_;refine yO hS Xh (py .i64) wwu yyd (λ_=>rfl) ?_;rw[hr.get f];cases hg:dS fR L f with
 | none=>
  simp only[vvw,vvb];refine KZ (zp ?_);exact⟨_,⟨rfl,rfl⟩,cw.iff.2 ⟨mb,m,L,hr,aR hS⟩⟩
 | some x=>
  simp only[yyi,xxj];unfold gu;refine KZ (zq ?_);have hS:=xh hg (SL.cD hS (t:=.ob (zh eM L)::.pt dp (iN mb s) 166::.ob (eJ (Value.int .i64) gu mb m)::F) Xi);obtain⟨v0,hS⟩:=eM.iff.1 hS;refine Gp ?_;refine zz hS (t:=5) (sz:=1) (n:=x.1.b.length) (cells:=x.1.b.map dd) Xh ?_;have hS:=Iy hg ((eM.iff (x:=x)).2 ⟨_,hS⟩);exact⟨_,⟨rfl,rfl⟩,cw.iff.2 ⟨mb,m,L,hr,aR hS⟩⟩
def wf_i64{n:Int}(h : -9223372036854775808<=n/\n<=9223372036854775807):(Lit.int .i64 n).wf=true:=by
 simpa [Lit.wf,IntKind.min,IntKind.max,IntKind.signed,IntKind.bits] using h
def ZM(dp:Nat)(s:DS)(N:Nat)(cL:s.Ok N)(hR:s.R.length<=100000):
  SP 172 [Δ dp] [.ob (cw dp s)] (λv post=>post=[.ob (cw dp s),.ob (bF v 3 1 s.R.length (s.R.map λx=>Γ x.id))]):=by
 refine Enzz λW F w hS=>?_;apply cM1;delta bW;obtain⟨mb,m,L,hr,hS⟩:=cw.iff.1 hS;refine Gp ?_;have mR:m.length=s.R.length:=by rw[hr.rel.len,hr.len]
 refine cGz hS Xh (by omega) (λp hp=>?_) ?_
 ·obtain⟨x,hx,rfl⟩:=zzx.1 (hr.rel.1.subset hp);have:=cL.ids x.1 (by rw[<- hr.eq];exact zzx.2 ⟨x,hx,rfl⟩);exact wf_i64 (by show -9223372036854775808<=fR x/\_;unfold fR;omega)
 clear hS;intro v w hS;have e:(rl m).map (Value.int .i64)=s.R.map λx=>Γ x.id:=by
  rw[hr.rel.rl,<- hr.eq,xxk,xxk];rfl
 rw[e,mR]at hS
 exact⟨_,rfl,cw.iff.2 ⟨mb,m,L,hr,aR hS⟩⟩
def aWj(dp:Nat)(s:DS)(n:Int):
  SP 171 [Δ dp,Γ n] [.ob (cw dp s)] (cE (.tuple #[]) [.ob (cw dp (s.rA n))]):=by
 refine Enzz λW F w hS=>?_;apply cM0;delta c_ ai;obtain⟨mb,m,L,hr,hS⟩:=cw.iff.1 hS;refine Gn λw hS=>?_;have hS:SL W (.pt dp (iN mb (s.rA n)) 166::.ob (eJ (Value.int .i64) gu mb m)::.ob (zh eM L)::F) w:=hS;exact⟨_,⟨rfl,rfl⟩,cw.iff.2 ⟨mb,m,L,hr,aR hS⟩⟩
def zL(dp:Nat)(s:DS):
  SP 42 [Δ dp] [.ob (cw dp s)] (cE (.bool s.off) [.ob (cw dp s)]):=by
 refine Enzz λW F w hS=>?_;apply cR4;delta bW;obtain⟨mb,m,L,hr,hS⟩:=cw.iff.1 hS;refine Gp ?_;exact⟨_,⟨rfl,rfl⟩,cw.iff.2 ⟨mb,m,L,hr,aR hS⟩⟩
def jX(keep:Ω)(i:Nat)(L:List EF):List EF:=L.mapIdx λj x=>if j<i then (jh keep j x.1,x.2) else x
def uv(keep:Ω)(i:Nat)(L:List EF):(jX keep i L).length=L.length:=by simp[jX]
def vv{keep:Ω}{i:Nat}{L:List EF}{j:Nat}(h:j<L.length):(jX keep i L)[j]'(by rw[uv];exact h)=if j<i then (jh keep j L[j].1,L[j].2) else L[j]:=by simp[jX]
def bww(keep:Ω)(L:List EF):jX keep 0 L=L:=by
 refine xxy (uv _ _ _) λj h1 h2=>?_;rw[vv h2,zzb (by omega)]
def bwv{keep:Ω}{i:Nat}{L:List EF}(h:i<L.length):jX keep (i+1) L=(jX keep i L).set i (jh keep i L[i].1,L[i].2):=by
 refine xxy (by simp[jX]) λj h1 h2=>?_;have hj:j<L.length:=by rw[uv]at h1;exact h1
 rw[vv hj,xxr];by_cases e:i=j
 ·subst e;rw[zzd (by omega),zzd rfl]
 rw[zzb e,vv hj];by_cases h3:j<i
 ·rw[zzd h3,zzd (by omega)]
 rw[zzb h3,zzb (by omega)]
def bwt{keep:Ω}{L:List EF}:(jX keep L.length L).map Prod.fst=e_ (L.map Prod.fst) keep:=by
 unfold e_;refine xxy (by simp[jX]) λj h1 h2=>?_;have hj:j<L.length:=by simpa [jX] using h1
 rw[xx7,vv hj,zzd hj];simp
def bwu(keep:Ω)(i:Nat)(L:List EF):(jX keep i L).map (λx=>(fR x,x.2))=L.map λx=>(fR x,x.2):=by
 refine xxy (by simp[jX]) λj h1 h2=>?_;have hj:j<L.length:=by simpa [jX] using h1
 rw[xx7,xx7,vv hj];split<;>rfl
def Sv{keep:Ω}{i:Nat}{m:List (Int × Nat)}{L:List EF}(h:ky fR Prod.snd m L):ky fR Prod.snd m (jX keep i L):=by
 refine⟨by rw[bwu];exact h.1,?_⟩;have:=h.2;unfold fN at *
 rw[xxt]at *
 intro a b ha hb p4;have uH:a<L.length:=by rw[uv]at ha;exact ha
 have nu:b<L.length:=by rw[uv]at hb;exact hb
 have h3:=this a b uH nu p4;rw[vv uH,vv nu];have e1:∀(p:Prop) [Decidable p] (x:EF) (j:Nat),fR (if p then (jh keep j x.1,x.2) else x)=fR x:=λp _ x j=>by split<;>rfl
 rw[e1,e1];exact h3
def qB(H:bw)(dp:Nat)(s:DS)(N:Nat)(cL:s.Ok N)(hN:N<=140737488355328)(hR:s.R.length<=100000)(kv:Ε)(keep:Ω)(hk:de H 1 kv keep.length (keep.map (Value.int .i64))):
  SP 111 [Δ dp,kv] [.ob (cw dp s),.mem H] (cE (.tuple #[]) [.ob (cw dp (s.eO keep)),.mem H]):=by
 refine Enzz λW F w hS=>?_;apply cLf;delta aI bW c_ ai;refine Cc (ZM dp s N cL hR) ?_;clear hS;rintro fv post rfl w hS;try simp only[app]at hS
 refine zz hS (t:=3) (sz:=1) (n:=s.R.length) (cells:=s.R.map λx=>Γ x.id) Xh ?_;obtain⟨mb,m,L,hr,hS⟩:=cw.iff.1 (SL.cD hS (t:=.ob (cw dp s)::.ob (bF fv 3 1 s.R.length (s.R.map λx=>Γ x.id))::.mem H::F) Xi);have IX:=hr.len;refine⟨λus w=>∃i:Nat,us=[Γ i]/\i<=L.length/\SL W (.ob (zh eM (jX keep i L))::.pt dp (iN mb s) 166::.ob (eJ (Value.int .i64) gu mb m)::.ob (bF fv 3 1 s.R.length (s.R.map λx=>Γ x.id))::.mem H::F) w,
  λus _=>match us with|[.int _ i]=>(L.length-i).toNat|_=>0,⟨0,rfl,by omega,by rw[bww];exact aR hS⟩,?_⟩
 clear hS;rintro v11 w ⟨i,cT,hi,hS⟩;cases cT;refine cA (λh=>?_) (λh=>?_)
 ·have cG:i<L.length:=by omega
  have IY:s.R[i]?=some L[i].1:=by rw[<- hr.eq];simp[cG]
  refine yg hS (t:=3) (u:=Γ L[i].1.id) Xh (by omega) (by rw[ww5,IY];rfl) ?_;refine Gp ?_;have JD:=Sv (keep:=keep) (i:=i) hr.rel;have uJ:(jX keep i L)[i]'(by rw[uv];exact cG)=L[i]:=by rw[vv cG,zzb (by omega)]
  have hg:dS fR (jX keep i L) L[i].1.id=some L[i]:=by
   have:=tw JD.2 (zzh (l:=jX keep i L) (n:=i) (by rw[uv];exact cG));rw[uJ]at this
   exact this
  have iu:fz fR (jX keep i L) L[i].1.id=i:=CE JD.2 (j:=i) (by rw[uv];exact cG) (by rw[uJ];rfl);have uW:=cL.safe L[i].1 (yy5 IY);have hlen:=cL.len L[i].1 (yy5 IY);refine yO hS Xh (py .i64) wwu yyd (λ_=>rfl) ?_;rw[JD.get,hg];simp only[yyi,xxj];rw[show gu L[i].2= .pointer (some ⟨L[i].2,0,none⟩) from rfl];have hS:=xh hg hS;rw[iu]at hS
  have kF:∀{w:Ζ} {l:Β},SL W (.ob (eM (jh keep i L[i].1,L[i].2))::.ob (zh eM ((jX keep i L).eraseIdx i))::l) w->SL W (.ob (zh eM (jX keep (i+1) L))::l) w:=λh=>by
   rw[bwv cG];exact zh.put h (by rw[uv];exact cG)
  generalize (jX keep i L).eraseIdx i=Er at *
  refine⟨λus w=>us=[Γ (j6 keep i L[i].1:Int)]/\SL W (.ob (eM L[i])::.ob (zh eM Er)::.pt dp (iN mb s) 166::.ob (eJ (Value.int .i64) gu mb m)::.ob (bF fv 3 1 s.R.length (s.R.map λx=>Γ x.id))::.mem H::F) w,?_,?_⟩
  ·refine zo hk ?_;refine Gp ?_;unfold j6;refine za (λh1=>?_) (λh1=>?_)
   ·have Be:i<keep.length:=by omega
    rw[zzc Be];simp only;refine yT hS Xh hk Be (u:=Γ keep[i]) (by simp[Be]) ?_;refine cA (λh2=>?_) (λh2=>?_)
    ·rw[zzd h2];refine Gn λw hS=>?_;refine yT hS Xh hk Be (u:=Γ keep[i]) (by simp[Be]) ?_;obtain⟨v0,hS⟩:=eM.iff.1 hS;refine Gp ?_;refine zz hS (t:=5) (sz:=1) (n:=L[i].1.b.length) (cells:=L[i].1.b.map dd) Xh ?_;refine Gp ?_;obtain⟨k,uP⟩:∃k:Nat,keep[i]=(k:Int):=⟨keep[i].toNat,by omega⟩;have e:(L[i].1.b.length:Int)-(L[i].1.safe:Int)+1=((L[i].1.b.length-L[i].1.safe+1:Nat):Int):=by omega
     rw[uP,e];refine Q6 (by omega) ?_;exact⟨by rw[zzz],SL.cD (eM.iff.2 ⟨v0,hS⟩) Xi⟩
    rw[zzb h2];exact⟨rfl,aR hS⟩
   rw[yyt (by omega)];exact⟨rfl,aR hS⟩
  clear hS;rintro v7 w ⟨cT,hS⟩;cases cT;have cwf:=Ad (keep:=keep) (i:=i) uW;obtain⟨v0,hS⟩:=eM.iff.1 hS;refine Gp ?_;have hS:=eM.iff.2 ⟨v0,hS⟩;have hC:=YI L[i] (L[i].1.safe+j6 keep i L[i].1) cwf (by omega);unfold gu at hC;refine Cg (hC) λw hS=>?_;obtain⟨v1,hS⟩:=eM.iff.1 hS;refine Gp ?_;refine zz hS (t:=5) (sz:=1) (n:=(jr (L[i].1.safe+j6 keep i L[i].1) L[i].1).b.length) (cells:=(jr (L[i].1.safe+j6 keep i L[i].1) L[i].1).b.map dd) Xh ?_;refine Gn λw hS=>?_;refine⟨⟨i+1,by simp,by omega,?_⟩,by dsimp only;omega⟩;have e1:(jr (L[i].1.safe+j6 keep i L[i].1) L[i].1).b=(jh keep i L[i].1).b:=rfl;have e2:(((jr (L[i].1.safe+j6 keep i L[i].1) L[i].1).b.length:Nat):Int)=(((jh keep i L[i].1).safe:Nat):Int):=by simp[jh,jr]
  rw[e1]at hS e2
  rw[e2]at hS
  have e3:(jr (L[i].1.safe+j6 keep i L[i].1) L[i].1).b.length=(jh keep i L[i].1).b.length:=rfl;have hS:=(eM.iff (x:=(jh keep i L[i].1,L[i].2))).2 ⟨v1,hS⟩;exact SL.cD (kF (SL.cD hS (t:=.ob (eM (jh keep i L[i].1,L[i].2))::.ob (zh eM Er)::.pt dp (iN mb s) 166::.ob (eJ (Value.int .i64) gu mb m)::.ob (bF fv 3 1 s.R.length (s.R.map λx=>Γ x.id))::.mem H::F) Xi)) Xi
 have cG:i=L.length:=by omega
 subst cG;refine Gn λw hS=>?_;have hS:SL W (.ob (zh eM (jX keep L.length L))::.pt dp (iN mb (s.eO keep)) 166::.ob (eJ (Value.int .i64) gu mb m)::.ob (bF fv 3 1 s.R.length (s.R.map λx=>Γ x.id))::.mem H::F) w:=hS;refine⟨_,⟨rfl,rfl⟩,cw.iff.2 ⟨mb,m,jX keep L.length L,⟨Sv hr.rel,?_⟩,aR hS⟩⟩;rw[bwt,hr.eq];rfl

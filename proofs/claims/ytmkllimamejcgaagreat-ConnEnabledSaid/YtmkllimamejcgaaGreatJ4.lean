/- Part of the proof. -/
import Derived.Test.YtmkllimamejcgaaGreatJ3
import Derived.Lib.SliceRun
import Derived.Test.YtmkllimamejcgaaGreatQVcF
namespace Go.Proofs.YtmkllimamejcgaaGreat
set_option linter.all false
open Go.RowKit
def wwz:=@Nat.mod_eq_of_lt
def wwt:=@getElem!_pos
def yyr:=@List.getElem?_eq_none
def vvb:=@List.eq_of_mem_replicate
def wwu:=@Nat.sub_zero
def wwi:=@List.getElem?_drop
def xxa:=@List.drop_append_of_le_length
def yyk:=@List.findIdx?_eq_some_iff_getElem
def xxl:=@List.findIdx?_eq_none_iff
def xxw:=@List.getElem_map
def zzm:=@decide_eq_true
def vv6:=@Bool.true_and
def xxj:=@List.not_mem_nil
def vvv:=@or_false
def icw{z:Γ}{n i:Nat}(h:i<n*z.length):(fR z n)[i]?=z[i % z.length]?:=by
 induction n generalizing i with
 | zero=>omega
 | succ n ih=>
  have e:fR z (n+1)=z++fR z n:=by simp[fR,List.replicate_succ]
  rw[e];rw[yyy]at h
  by_cases hi:i<z.length
  ·rw[zzr hi,wwz hi]
  rw[yya (by omega),ih (by omega)];congr 1
  conv=>rhs;rw[show i=(i-z.length)+z.length by omega]
  rw[Nat.add_mod_right]
def TO(A B z rest:Γ)(h:B.length=z.length):(A++(B++rest)).take A.length++z++(A++(B++rest)).drop (A.length+z.length)=A++(z++rest):=by
 rw[wwo,xxr,<- h,wwn,zzk]
def Nj(zv:Array Ω)(z:Γ)(hz:zv.toList=z)(n:Nat):(Builtin.zeroCells zv n).toList=fR z n:=by
 subst hz;refine uuk λi=>?_;by_cases hi:i<n*zv.size
 ·have h0:0<zv.size:=by
   rcases yy8 zv.size with h|h
   ·rw[h]at hi;omega
   exact h
  rw[icw (by simpa using hi)];have hm:i % zv.size<zv.size:=vvh _ h0;simp[Builtin.zeroCells,hi,hm,wwt]
 have h1:(Builtin.zeroCells zv n).toList.length<=i:=by simp[Builtin.zeroCells];omega
 have h2:(fR zv.toList n).length<=i:=by rw[p5];simp;omega
 rw[yyr h1,yyr h2]
section
variable {W w:Α} {l l':Ψ} {P:Program}
def SL.aFe{b:Nat}{t:Ε}:∀(vs:Γ) (o:Nat) (cs:Γ) (w:Α) (l l':Ψ),SL W l w->lk (.pt b cs t) (.pt b (uZ cs o vs) t) l l'->o+vs.length<=cs.length->SL W l' (w.setCells b o vs)
 | [],o,cs,w,l,l',hS,u,hl=>by
  simp only[uZ]at u;have:l=l':=by
   clear hS;generalize hc:Chunk.pt b cs t=c at u;revert hc;induction u with
   | hd=>intro;rfl
   | tl _ ih=>intro hc;rw[ih hc]
  rw[<- this];exact hS
 | v::r,o,cs,w,l,l',hS,u,hl=>by
  simp only[zzj]at hl;have hc:cs[o]?=some (cs[o]'(by omega)):=zzd (by omega);obtain⟨l2,p,q⟩:=u.other (.pt b (cs.set o v) t);rw[World.setCells];exact SL.aFe r (o+1) _ _ l2 l' (hS.store p hc) (by simpa [uZ] using q) (by simp;omega)
def SL.aFf{b o:Nat}{t:Ε}{cs vs:Γ}(hS:SL W l w)(u:lk (.pt b cs t) (.pt b (cs.take o++vs++cs.drop (o+vs.length)) t) l l')(hl:o+vs.length<=cs.length):SL W l' (w.setCells b o vs):=
 SL.aFe vs o cs w l l' hS (by rw[D_ _ _ _ hl];exact u) hl
def awc{b o n c:Nat}{cs z:Γ}{tt t e ty:Ε}{zv:Ω}{K:Ω->Α->Prop}(hS:SL W l w)(u:lk (.pt b cs tt) (.pt b (cs.take o++fR z n++cs.drop (o+n*z.length)) tt) l l')
  (ht:P.underlying t=some (.slice e)) (hv:∀w,(zeroValue e).run P w= .ok zv w) (hz:zv.cells.toList=z) (h1:∀v∈z,v.oneCell'=true) (hn:0<n) (ho:o+n*z.length<=cs.length)
  (h:∀u w',SL W l' w'->K u w'):zR P (Builtin.clear_ #[t] ty #[.slice (some ⟨b,o,none⟩) n c]) w K:=by
 have LH:=Nj zv.cells z hz n;have hlen:(fR z n).length=n*z.length:=p5 _ _;have mh:∀j,j<n*z.length->∃v,cs[o+j]?=some v:=λj hj=>⟨_,zzd (by omega)⟩;have k_:=run_storeCells_cells (P:=P) b o (fR z n) 0 w (λj hj=>by obtain⟨v,hv⟩:=mh j (by omega);rw[xxg,hS.cell u.has hv];rfl) (λj hj=>by obtain⟨v,hv⟩:=mh j (by omega);rw[xxg];exact hS.frozen u.has hv)
  (by
   intro v uV;obtain⟨l0,vo,Wi⟩:=xx5.1 uV;rw[vvb vo]at Wi
   exact h1 v Wi)
 simp only[xxg]at k_;obtain⟨m,rfl⟩:∃m,n=m+1:=⟨n-1,by omega⟩;refine⟨_,_,by simp[Builtin.clear_,yym ht,hv,LH,k_];exact⟨rfl,rfl⟩,h _ _ (SL.aFf hS (by rw[hlen];exact u) (by rw[hlen];exact ho))⟩
def yx{b o sz n j:Nat}{k:IntKind}{K:Ω->Prop}(hj:j<n)(h:K (.pointer (some ⟨b,o+j*sz,none⟩))):yz sz n (.pointer (some ⟨b,o,none⟩)) (.int k (j:Int)) K:=
 ⟨_,k,j,rfl,rfl,hj,by rw[yyb];exact h⟩
def awa{t e:Ε}{len j:Nat}{vs:Γ}{v:Ω}{k:IntKind}{K:Ω->Prop}(ht:P.underlying t=some (.array len e))(ha:∀w,(isAgg e).run P w= .ok false w)(hs:∀w,(sizeOf e).run P w= .ok 1 w)(hj:j<len)(hv:vs[j]?=some v)(h:K v):
  jY P (Instr.index t (.agg vs.toArray) (.int k (j:Int))) w K:=by
 refine⟨_,?_,h⟩;simp[Instr.index,asIntOf,yym ht,Result.andThen,hj,hs,part,ha,hv]
def S9(P:Program)(sz l5:Nat)(z:Γ)(et st:Ε)(v0:Ω)(v1:Ω)(v2:Ω)(w:Α)(R:Ω->Α->Prop):Prop:=
 zd v0 λv12=>
 kh sz v0 (some v1) (some v2) (some v12) λJf=>
 zc .eql v1 v2 λEs=>
 iy Es
 (R v0 w)
 (zd v0 λM7=>
 zj w λuk=>
 kh sz v0 none (some v1) none λv22=>
 kh sz v0 (some v2) none none λv25=>
 zx sz l5 z et v22 v25 uk λv26 wI=>
 zd v26 λv29=>
 kh sz v26 (some v29) (some M7) none λv31=>
 zR P (Builtin.clear_ #[st] 0 [v31].toArray) wI λu Az=>
 R v26 Az)
def Ka{f:FuncId}{sz l5:Nat}{z:Γ}{et st:Ε}{zv:Ω}(vc:∀v0 v1 v2 w R,S9 P sz l5 z et st v0 v1 v2 w R->zQ P f [v0,v1,v2] w R)
  (ht:P.underlying st=some (.slice et)) (hv:∀w,(zeroValue et).run P w= .ok zv w) (hz:zv.cells.toList=z) (LI:z.length=sz) (h1:∀v∈z,v.oneCell'=true)
  (v:Ω) (n i:Nat) (cells:Γ) (hi:i<n) (lP:∀v∈cells,v.oneCell'=true) (hb:n*l5<=140737488355328) (hn:n<=140737488355328) :
  Spec P f [v,.int .i64 (i:Int),.int .i64 ((i+1:Nat):Int)] [.ob (bR v et sz n cells)] (λu post=>post=[.ob (bR u et sz (n-1) (cells.take (i*sz)++cells.drop ((i+1)*sz)))]):=by
 refine Enzz λW F w hS=>?_;apply vc;unfold S9;rcases bR.open hS with ⟨⟨a,rfl⟩,rfl,rfl,_⟩|⟨b,cap,rest,rfl,tW,hlen,nY,hS⟩
 ·omega
 have igs:(i+1)*sz<=n*sz:=yyt _ (by omega);have igr:(i+1)*sz=i*sz+sz:=by rw[yyy,wwl]
 refine yc ?_;refine⟨_,n,cap,i,i+1,n,rfl,⟨_,rfl⟩,⟨_,rfl⟩,⟨_,rfl⟩,by omega,by omega,by omega,?_⟩;refine Gp ?_;refine za (λh=>by omega) (λ_=>?_);refine Gn λw hS=>?_;refine⟨_,n,cap,0,i,cap,rfl,rfl,⟨_,rfl⟩,rfl,by omega,by omega,by omega,?_⟩;rw[zzb (show ¬cap=0 by omega)];refine⟨_,n,cap,i+1,n,cap,rfl,rfl,rfl,⟨_,rfl⟩,by omega,by omega,by omega,?_⟩;simp only[yyf,yyb,uuh,xxg,wwu];have tZ:(cells.drop ((i+1)*sz)).length=(n-(i+1))*sz:=by rw[zzq,hlen,wwf]
 have Wd:i*sz+((n-(i+1))*sz)=(n-1)*sz:=by rw[<- yyy];congr 1;omega
 have igq:(n-1)*sz+sz=n*sz:=by rw[show n*sz=(n-1+1)*sz by congr 1;omega,yyy,wwl]
 refine⟨some ⟨b,0,none⟩,i,cap,n-(i+1),cells.drop ((i+1)*sz),rfl,?_,?_,by omega,λuP=>?_,λh=>by omega⟩
 ·have dIn:∀a:Option Addr,(n-(i+1)=0\/a=some ⟨b,0+(i+1)*sz,none⟩)->oZ w sz (.slice a (n-(i+1)) (cap-(i+1))) (n-(i+1)) (cells.drop ((i+1)*sz)):=by
   intro a ha;rcases ha with h0|rfl
   ·rw[h0]at tZ ⊢
    have:cells.drop ((i+1)*sz)=[]:=zzo (by simpa using tZ);rw[this];cases a with
    | none=>exact⟨rfl,rfl⟩
    | some p=>exact⟨rfl,by simp,λj v e=>by simp at e⟩
   refine aFa hS (Has.hd) tZ λj u hu=>?_;rw[wwi]at hu
   rw[yyd,zzr (zzh.1 hu).1];exact hu
  refine dIn _ ?_;by_cases KQ:cap=i+1
  ·left;omega
  right;rw[zzb KQ]
 ·exact yyw (yyt _ (by omega)) hb
 show xF (Addr.add ⟨b,0,none⟩ (i*sz)) 0 _ w _;rw[yyb,yyd];have iex:i*sz+(cells.drop ((i+1)*sz)).length<=(cells++rest).length:=by rw[zza,tZ,Wd,hlen];omega
 refine Em (t:=et) (cells.drop ((i+1)*sz)) (i*sz) 0 (cells++rest) w _ (.pt b (cells.take (i*sz)++cells.drop ((i+1)*sz)++(cells.drop ((n-1)*sz)++rest)) et::F) hS ?_ (by omega) (λv hv=>lP v (vvs hv)) ?_
 ·rw[D_ _ _ _ (by omega),xxg,tZ,Wd,yy9 (by omega),xxa (by omega)];exact lk.hd
 intro w' hS;refine yc ?_;refine⟨some ⟨b,0,none⟩,i+(n-(i+1)),cap,i+(n-(i+1)),n,cap,rfl,rfl,⟨_,rfl⟩,⟨_,rfl⟩,by omega,by omega,by omega,?_⟩;have en:i+(n-(i+1))=n-1:=by omega
 rw[en,zzb (show ¬cap=n-1 by omega)];simp only[yyf,yyb,yyd];rw[show n-(n-1)=1 by omega];have hA:(cells.take (i*sz)++cells.drop ((i+1)*sz)).length=(n-1)*sz:=by rw[zza,tZ,zzf,hlen];omega
 have hB:(cells.drop ((n-1)*sz)).length=sz:=by rw[zzq,hlen];omega
 have hle:(n-1)*sz+1*z.length<=(cells.take (i*sz)++cells.drop ((i+1)*sz)++(cells.drop ((n-1)*sz)++rest)).length:=by
  rw[zza (bs:=cells.drop ((n-1)*sz)++rest),zza (bs:=rest),hA,hB,LI];omega
 refine awc (tt:=et) (n:=1) (l':=.pt b (cells.take (i*sz)++cells.drop ((i+1)*sz)++(z++rest)) et::F) hS ?_ ht hv hz h1 (by omega) hle ?_
 ·have e1:fR z 1=z:=by simp[fR]
  have e2:=TO (cells.take (i*sz)++cells.drop ((i+1)*sz)) (cells.drop ((n-1)*sz)) z rest (by rw[hB,LI]);rw[hA]at e2
  rw[e1,wwl,e2];exact lk.hd
 intro u w hS;exact⟨_,rfl,bR.mk (n:=n-1) (cap:=cap) (rest:=z++rest) (by omega) hA (by rw[zza,LI,nY,show cap-(n-1)=(cap-n)+1 by omega,yyy,wwl];omega) hS⟩
def GZ(P:Program)(T:List Bool)(sz:Nat)(v0:Ω)(v1:Ω)(w:Α)(R:Ω->Α->Prop):Prop:=
 zd v0 λv7=>
 ∃(I:Γ->Α->Prop) (μ:Γ->Α->Nat),I [(.int .i64 0)] w /\
 ∀(v8:Ω) uk,I [v8] uk ->
 zc .lss v8 v7 λv9=>
 iy v9
 (zl sz v0 v8 λM6=>
 ze sz M6 uk λJg=>
 zS P T v1 [Jg] uk λEs wI=>
 iy Es
 (R v8 wI)
 (zc .add v8 (.int .i64 1) λGH=>
 I [GH] wI/\μ [GH] wI<μ [v8] uk))
 (R (.int .i64 (-1)) uk)
def pC:Option Nat->Int
 | some i=>(i:Int)
 | none=>-1
def LJ{T:List Bool}{f g:FuncId}{sz:Nat}{α:Type}{enc:α->Γ}(hn:∀x,(enc x).length=sz)(hT:T.getD g false=true){cap:Array Ω}{pre:Ψ}{q:α->Bool}{t:Ε}
  (vc:∀v0 v1 w R,GZ P T sz v0 v1 w R->zQ P f [v0,v1] w R) (one:∀x,Spec P g ([agg (enc x)]++cap.toList) pre (e_ (.bool (q x)) pre))
  (v:Ω) (xs:List α) (hl:xs.length<=9223372036854775806) :
  Spec P f [v,.func (.func g) #[] cap] (pre++[.ob (bR v t sz xs.length (xs.map enc).flatten)]) (e_ (.int .i64 (pC (xs.findIdx? q))) (pre++[.ob (bR v t sz xs.length (xs.map enc).flatten)])):=by
 intro W F w hS;apply vc;unfold GZ;have e0:app (pre++[.ob (bR v t sz xs.length (xs.map enc).flatten)]) F=pre++(.ob (bR v t sz xs.length (xs.map enc).flatten)::F):=by rw[EU];simp
 have hm:Has (.ob (bR v t sz xs.length (xs.map enc).flatten)) (app (pre++[.ob (bR v t sz xs.length (xs.map enc).flatten)]) F):=by
  rw[e0];clear hS one e0;induction pre with
  | nil=>exact .hd
  | cons c r ih=>exact .tl ih
 refine zt hS hm ?_;refine⟨λvs w=>∃k:Nat,vs=[.int .i64 k]/\k<=xs.length/\(∀j (h:j<xs.length),j<k->q xs[j]=false)/\SL W (app (pre++[.ob (bR v t sz xs.length (xs.map enc).flatten)]) F) w,λvs _=>match vs with|[.int _ k]=>(xs.length-k).toNat|_=>0,⟨0,rfl,by omega,λj h hj=>by omega,hS⟩,?_⟩;clear hS;rintro v8 w ⟨k,hv,hk,hq,hS⟩;cases hv;refine cF (λh=>?_) (λh=>?_)
 ·have pQ:k<xs.length:=by omega
  refine zU hS hm hn (x:=xs[k]) (by simp[pQ]) pQ ?_;refine⟨g,#[],cap,rfl,hT,?_⟩;refine zQ.mono (one xs[k] W (.ob (bR v t sz xs.length (xs.map enc).flatten)::F) w (by rw[EU,<- e0];exact hS)) ?_;clear hS;rintro u w ⟨post,⟨rfl,rfl⟩,hS⟩;rw[EU,<- e0]at hS
  cases FP:q xs[k] with
  | true=>
   refine zq ?_;have e:xs.findIdx? q=some k:=yyk.2 ⟨pQ,FP,λj hj=>by rw[hq j (by omega) hj];decide⟩;rw[e];exact⟨_,⟨rfl,rfl⟩,hS⟩
  | false=>
   refine zp ?_;refine Gp ?_;refine⟨⟨k+1,rfl,by omega,λj h hj=>?_,hS⟩,by dsimp only;omega⟩;rcases xxv j k with FE|FE
   ·exact hq j h FE
   obtain rfl:j=k:=by omega
   exact FP
 have e:xs.findIdx? q=none:=xxl.2 λx hx=>by
  obtain⟨j,hj,rfl⟩:=yy5.1 hx;exact hq j hj (by omega)
 rw[e];exact⟨_,⟨rfl,rfl⟩,hS⟩
end
set_option maxRecDepth 100000
def Jv(H:bw)(u:Ω)(post:Ψ)(o:Option (List Rq)):Prop:=∃H',H.le H'/\post=[.mem H']/\match o with
 | none=>u= .tuple #[.slice none 0 0,.bool false]
 | some L'=>∃x,u= .tuple #[x,.bool true]/\nh H' x L'
def Jp(r:Rq)(a:Int):Prop:=0<=r.table/\r.table<8/\1<=r.weight/\r.weight<=8/\max a 1<=r.at_/\r.at_<=1099511627776/\0<=r.iH/\r.iH<=1099511627776/\0<=r.chunks/\r.chunks<=1099511627776
def fw1(r:Rq)(a:Int):SP 369 [agg (mL r),.int .i64 a] [] (λv post=>∃q:Bool,v= .bool q/\(q=true↔Jp r a)/\post=[]):=by
 refine Enzz λW F w hS=>?_;apply iaj;delta Sb aI a_ cW ai;obtain⟨rid,rt,I3,rat,IV,IU,rd⟩:=r;unfold mL Jp;simp only;refine⟨_,rfl,zD hS ?_⟩;clear hS;intro b w hS;have ko:∀{w:Α},¬(0<=rt/\rt<8/\1<=I3/\I3<=8/\max a 1<=rat/\rat<=1099511627776/\0<=IV/\IV<=1099511627776/\0<=IU/\IU<=1099511627776)->SL W F w->∃post,(∃q:Bool,(.bool false:Ω)= .bool q/\(q=true↔0<=rt/\rt<8/\1<=I3/\I3<=8/\max a 1<=rat/\rat<=1099511627776/\0<=IV/\IV<=1099511627776/\0<=IU/\IU<=1099511627776)/\post=[])/\SL W (app post F) w:=λh hS=>⟨_,⟨false,rfl,⟨λe=>(by cases e),λe=>absurd e h⟩,rfl⟩,hS⟩;refine Gp ?_;refine za (λc1=>?_) (λc=>ko (by omega) (aW hS));refine Gp ?_;refine za (λc2=>?_) (λc=>ko (by omega) (aW hS));refine Gp ?_;refine za (λc3=>?_) (λc=>ko (by omega) (aW hS));refine Gp ?_;refine za (λc4=>?_) (λc=>ko (by omega) (aW hS));refine Gp ?_;refine za (λc5=>?_) (λc=>ko (by omega) (aW hS));refine Gp ?_;refine za (λc6=>?_) (λc=>ko (by omega) (aW hS));refine Gp ?_;refine za (λc7=>?_) (λc=>ko (by omega) (aW hS));refine Gp ?_;refine za (λc8=>?_) (λc=>ko (by omega) (aW hS));refine Gp ?_;refine za (λc9=>?_) (λc=>ko (by omega) (aW hS));refine Gp ?_;refine⟨_,⟨_,rfl,?_,rfl⟩,aW hS⟩;rw[zzx];exact⟨λc=>⟨c1,c2,c3,c4,c5,c6,c7,c8,c9,c⟩,λc=>c.2.2.2.2.2.2.2.2.2⟩
def Ar(L:List Rq)(i t:Nat):Bool:=(L.take i).any λr=>decide (r.table=(t:Int)) && !r.done
def XY{L:List Rq}{i t:Nat}:Ar L i t=true↔∃k,∃h:k<L.length,k<i/\L[k].table=(t:Int)/\L[k].done=false:=by
 unfold Ar;rw[List.any_eq_true];constructor
 ·rintro ⟨r,hr,hx⟩;obtain⟨k,hk,rfl⟩:=yy5.1 hr;rw[zzf]at hk
  refine⟨k,by omega,by omega,?_⟩;simpa using hx
 rintro ⟨k,h,hk,h1,h2⟩;refine⟨L[k],yy5.2 ⟨k,by rw[zzf];omega,by simp⟩,by simp[h1,h2]⟩
def Bi(L:List Rq)(i:Nat):Γ:=(List.range 8).map λt=>.bool (Ar L i t)
def XZ(L:List Rq)(i:Nat){t:Nat}(h:t<8){o:Nat}(ho:o=t):(Bi L i)[o]?=some (.bool (Ar L i t)):=by
 subst ho;unfold Bi;simp[h]
def fw3{L:List Rq}{i t:Nat}(hi:i<L.length)(ht:L[i].table=(t:Int))(h:Ar L i t=false){o:Nat}(ho:o=t):(Bi L i).set o (.bool !L[i].done)=Bi L (i+1):=by
 subst ho;unfold Bi;refine xxp (by simp) λj h1 h2=>?_;have hj:j<8:=by simpa using h2
 rw[xxi];have hs:∀t:Nat,Ar L (i+1) t=(Ar L i t || (decide (L[i].table=(t:Int)) && !L[i].done)):=λt=>by
  unfold Ar;rw[zze hi,List.any_append];simp
 split
 ·rename_i e;subst e;simp only[xxw,List.getElem_range];rw[hs,h,ht];simp
 rename_i e;simp only[xxw,List.getElem_range];rw[hs,ht];have:¬((o:Int)=(j:Int)):=by omega
 simp[this]
def fw4(L:List Rq):Bi L 0=[.bool false,.bool false,.bool false,.bool false,.bool false,.bool false,.bool false,.bool false]:=by
 simp[Bi,Ar,List.range,List.range.loop]
def BA(L:List Rq)(i:Nat):Int:=if i=0 then 0 else (L[i-1]?.map (·.at_)).getD 0
def eWd(H:bw)(v:Ω)(L:List Rq)(hv:nh H v L)(hn:L.length<=140737488351232):
  SP 330 [v] [.mem H] (λu post=>∃q:Bool,u= .bool q/\(q=true↔lr L)/\post=[.mem H]):=by
 refine Enzz λW F w hS=>?_;apply h_w;delta RP aI a_ aR gi cW ai;have ko:∀{w:Α},¬lr L->SL W (.mem H::F) w->∃post,(∃q:Bool,(.bool false:Ω)= .bool q/\(q=true↔lr L)/\post=[.mem H])/\SL W (app post F) w:=λh hS=>
  ⟨_,⟨false,rfl,⟨λe=>(by cases e),λe=>absurd e h⟩,rfl⟩,hS⟩
 refine zD hS ?_;clear hS;intro ob w hS;refine zo hv ?_;rw[<- fw4 L]at hS
 refine⟨λus w=>∃i:Nat,us=[.int .i64 (BA L i),.int .i64 i]/\i<=L.length/\(∀j,j<i->GQ L j)/\SL W (.pt ob (Bi L i) 489::.mem H::F) w,
  λus _=>match us with|[_,.int _ i]=>(L.length-i).toNat|_=>0,⟨0,rfl,by omega,λj h=>by omega,aW hS⟩,?_⟩
 clear hS;rintro v4 v9 w ⟨i,gW,hi,jJ,hS⟩;cases gW;refine cF (λh=>?_) (λh=>?_)
 ·have d_:i<L.length:=by omega
  have kz:∀{w:Α},¬GQ L i->SL W (.mem H::F) w->∃post,(∃q:Bool,(.bool false:Ω)= .bool q/\(q=true↔lr L)/\post=[.mem H])/\SL W (app post F) w:=λh hS=>ko (λhp=>h (hp.2 i)) hS;refine zE hS Xh tm hv (x:=L[i]) (by simp[d_]) d_ ?_;refine zD hS ?_;clear hS;intro b w hS;refine zr (vs:=mL L[i]) hS .hd rfl rfl (Hi _) ?_;clear hS;intro w hS;have CE:GQ L i->Bh i L[i]/\(∀h0:0<i,L[i-1].at_<=L[i].at_)/\∀k (hk:k<i),¬(L[k].table=L[i].table/\L[k].done=false):=λh=>h d_;have Vb:max (BA L i) 1<=L[i].at_↔1<=L[i].at_/\∀h0:0<i,L[i-1].at_<=L[i].at_:=by
   unfold BA;by_cases h0:i=0
   ·rw[zzc h0];exact⟨λe=>⟨by omega,λh=>by omega⟩,λe=>by have:=e.1;omega⟩
   rw[zzb h0,zzd (by omega)];simp only[yyf,xxc];exact⟨λe=>⟨by omega,λ_=>by omega⟩,λe=>by have:=e.1;have:=e.2 (by omega);omega⟩
  unfold mL at hS;refine Gp ?_;refine za (λc=>kz (λhp=>by have:=(CE hp).1.1;omega) (aW hS)) (λc1=>?_);refine zC hS Xh rfl ?_;refine Cc (fw1 L[i] (BA L i)) ?_;clear hS;rintro _ post ⟨q1,rfl,xr,rfl⟩ w hS;(try simp only[app]at hS);refine Gp ?_
  refine zu (λhe=>kz (λhp=>?_) (aW hS)) (λhe=>?_)
  ·have hp:=CE hp;have h1:Jp L[i] (BA L i):=⟨hp.1.2.1,hp.1.2.2.1,hp.1.2.2.2.1,hp.1.2.2.2.2.1,Vb.2 ⟨hp.1.2.2.2.2.2.1,hp.2.1⟩,hp.1.2.2.2.2.2.2.1,hp.1.2.2.2.2.2.2.2.1,hp.1.2.2.2.2.2.2.2.2.1,hp.1.2.2.2.2.2.2.2.2.2.1,hp.1.2.2.2.2.2.2.2.2.2.2⟩;rw[xr.2 h1]at he;cases he
  have hQ:=xr.1 he;have mh:=Vb.1 hQ.2.2.2.2.1;obtain⟨t,ht⟩:∃t:Nat,L[i].table=(t:Int):=⟨L[i].table.toNat,by have:=hQ.1;omega⟩;have F0:t<8:=by have:=hQ.2.1;omega
  have Wg:Value.int .i64 L[i].table= .int .i64 (t:Int):=by rw[ht]
  refine Gp ?_;rw[Wg]at hS ⊢
  refine yx F0 (zV hS Xh (XZ L i F0 (by omega)) ?_);refine yF (λho=>kz (λhp=>?_) (aW hS)) (λho=>?_)
  ·obtain⟨k,hk,hki,h1,h2⟩:=XY.1 ho;exact (CE hp).2.2 k hki ⟨by rw[h1,ht],h2⟩
  refine Gn λw hS=>?_;refine yx F0 ?_;refine Zz hS Xu (XZ L i F0 (by omega)) rfl ?_;clear hS;intro w hS;rw[fw3 d_ ht ho (by omega)]at hS
  refine Gp ?_;have ea:BA L (i+1)=L[i].at_:=by
   unfold BA;rw[zzb (by omega),Nat.add_sub_cancel,zzd d_];rfl
  refine⟨⟨i+1,by rw[ea],by omega,λj hj=>?_,aW hS⟩,by dsimp only;omega⟩;by_cases e:j=i
  ·subst e;refine λ_=>⟨⟨by omega,hQ.1,hQ.2.1,hQ.2.2.1,hQ.2.2.2.1,mh.1,hQ.2.2.2.2.2.1,hQ.2.2.2.2.2.2.1,hQ.2.2.2.2.2.2.2.1,hQ.2.2.2.2.2.2.2.2.1,hQ.2.2.2.2.2.2.2.2.2⟩,mh.2,λk hk hx=>?_⟩;have:=XY.2 ⟨k,by omega,hk,by rw[hx.1,ht],hx.2⟩;rw[ho]at this;cases this
  exact jJ j (by omega)
 have nX:i=L.length:=by omega
 subst nX;refine zo hv ?_;refine Gp ?_;refine⟨_,⟨_,rfl,?_,rfl⟩,aW hS⟩;rw[zzx];exact⟨λh=>⟨by omega,λj hj=>jJ j hj hj⟩,λhp=>by have:=hp.1;omega⟩
def Zi(H:bw)(v:Ω)(L:List Rq)(hv:nh H v L)(hn:L.length<=140737488351232):
  SP 279 [v] [.mem H] (λu post=>∃q:Bool,u= .bool q/\(q=true↔lr L)/\post=[.mem H]):=by
 refine Enzz λW F w hS=>?_;apply g_o;unfold P8;refine Cc (eWd H v L hv hn) ?_;clear hS;rintro _ post ⟨q,rfl,hq,rfl⟩ w hS;try simp only[app]at hS
 exact⟨_,⟨q,rfl,hq,rfl⟩,aW hS⟩
def wE(L:List Rq)(id:Int):Bool:=decide (1<=id/\id<=L.length) && (match L[(id-1).toNat]? with|some r=>!r.done|none=>false)
def f_g{a b:Int}{K:Ω->Prop}(h:K (.int .i64 (IntKind.i64.wrap (a-b)))):zc .sub (.int .i64 a) (.int .i64 b) K:=⟨_,rfl,h⟩
def aIh{n:Int}(h : -9223372036854775808<=n/\n<=9223372036854775807):IntKind.i64.wrap n=n:=wwb _ h
def QE(H:bw)(v:Ω)(L:List Rq)(id:Int)(hv:nh H v L)(hn:L.length<=1000)(hid : -9223372036854775808<=id/\id<=9223372036854775807):
  SP 340 [v,.int .i64 id] [.mem H] (e_ (.tuple #[.int .i64 (IntKind.i64.wrap (id-1)),.bool (wE L id)]) [.mem H]):=by
 refine Enzz λW F w hS=>?_;apply h_6;delta RZ aI aR ai;refine Gn λw hS=>?_;refine f_g ?_;refine cF (λh1=>?_) (λh1=>?_)
 ·refine zo hv ?_;refine cF (λh2=>?_) (λh2=>?_)
  ·obtain⟨j,rfl⟩:∃j:Nat,id=((j+1:Nat):Int):=⟨(id-1).toNat,by omega⟩;have hj:j<L.length:=by omega
   have ej:((j+1:Nat):Int)-1=(j:Int):=by omega
   have hp:wE L ((j+1:Nat):Int) = !L[j].done:=by
    unfold wE;rw[zzm (by omega),show (((j+1:Nat):Int)-1).toNat=j by omega,zzd hj];rfl
   rw[hp,aIh (by omega),ej];refine Gp ?_;rw[ej];have hd:=uJ tm L j 6 L[j] (.bool L[j].done) (by simp[hj]) rfl;refine Yb hv hj λb o hb=>yI (I5 hS Xh (hb 6 _ (by decide) hd) ?_);refine Gp ?_;refine I5 hS Xh (hb 6 _ (by decide) hd) ?_;exact⟨rfl,_,⟨rfl,rfl⟩,aW hS⟩
  have hp:wE L id=false:=by unfold wE;rw[zzz (by omega)];rfl
  rw[hp];exact dW hS
 have hp:wE L id=false:=by unfold wE;rw[zzz (by omega)];rfl
 rw[hp];exact dW hS
def z7(H:bw)(v:Ω)(L:List Rq)(hv:nh H v L)(hn:L.length<=1000):
  SP 85 [v] [.mem H] (λu post=>post=[.ob (bR u 98 7 L.length (L.map mL).flatten),.mem H]):=by
 exact TN ibu rfl (by decide) hv (fR4 L) (by omega) (by omega)
def Zk(H:bw)(v:Ω)(L:List Rq)(table weight at_:Int)(hv:nh H v L)(hn:L.length<=1000):
  SP 328 [v,.int .i64 table,.int .i64 weight,.int .i64 at_] [.mem H] (λu post=>Jv H u post (ux L table weight at_)):=by
 refine Enzz λW F w hS=>?_;apply h_t;delta RM gi ai bI;refine Cc (z7 H v L hv hn) ?_;clear hS;rintro v1 post rfl w hS;(try simp only[app]at hS);refine zo hv ?_;refine Gm λb w hS=>?_;refine zI (n:=L.length) (m:=1) (cells:=(L.map mL).flatten) hS Xr (oG (cs:=mL ⟨((L.length+1:Nat):Int),table,weight,at_,0,0,false⟩) hS .hd rfl) rfl rfl (Hi _) (by omega) (by omega) ?_;clear hS;intro v2 w hS;rw[<- AT]at hS
 obtain⟨H1,iA,nO,hS⟩:=zz (H:=H) (v:=v2) (n:=L.length+1) (sz:=7) (t:=98) (cells:=((L++[(⟨((L.length+1:Nat):Int),table,weight,at_,0,0,false⟩:Rq)]).map mL).flatten) hS Xp;have hlen:(L++[(⟨((L.length+1:Nat):Int),table,weight,at_,0,0,false⟩:Rq)]).length=L.length+1:=by simp
 have nO:nh H1 v2 (L++[(⟨((L.length+1:Nat):Int),table,weight,at_,0,0,false⟩:Rq)]):=by unfold nh;rw[hlen];exact nO
 have hN:CU L table weight at_=⟨((L.length+1:Nat):Int),table,weight,at_,0,0,false⟩:=rfl;unfold ux;rw[hN];generalize Fo:L++[(⟨((L.length+1:Nat):Int),table,weight,at_,0,0,false⟩:Rq)]=L2 at nO hlen ⊢;refine Cc (Zi H1 v L (hv.mono iA) (by omega)) ?_;clear hS;rintro _ post ⟨q1,rfl,xr,rfl⟩ w hS;(try simp only[app]at hS);refine Gp ?_
 refine zu (λhe=>?_) (λhe=>?_)
 ·rw[zzb λh=>by rw[xr.2 h.1]at he;cases he];exact⟨_,⟨H1,iA,rfl,rfl⟩,aW hS⟩
 skip
 refine Cc (Zi H1 v2 L2 nO (by omega)) ?_;clear hS;rintro _ post ⟨q2,rfl,oB,rfl⟩ w hS;(try simp only[app]at hS);refine Gp ?_
 refine zu (λHO=>?_) (λHO=>?_)
 ·rw[zzb λh=>by rw[oB.2 h.2]at HO;cases HO];exact⟨_,⟨H1,iA,rfl,rfl⟩,aW hS⟩
 rw[zzc ⟨xr.1 he,oB.1 HO⟩];exact⟨_,⟨H1,iA,rfl,v2,rfl,nO⟩,aW hS⟩
def fFp{L:List Rq}{id:Int}(h:wE L id=true):∃j:Nat,∃hj:j<L.length,id=((j+1:Nat):Int)/\L[j].done=false:=by
 unfold wE at h;rw[zz9,zzx]at h
 obtain⟨⟨h1,h2⟩,h3⟩:=h;have hj:(id-1).toNat<L.length:=by omega
 rw[zzd hj]at h3
 exact⟨(id-1).toNat,hj,by omega,by simpa using h3⟩
def bFj{L:List Rq}{id c:Int}{dn:Bool}(h:wE L id=false):p' L id c dn=none:=by
 unfold p';split
 ·rename_i hc;have hj:(id-1).toNat<L.length:=by omega
  unfold wE at h;rw[zzm hc.2,zzd hj]at h
  rw[zzd hj];simp only[vv6,Bool.not_eq_false']at h;simp only[h,true_or,ww7]
 rfl
def MI{L:List Rq}{rest:Γ}{j i:Nat}(hj:j<L.length)(hi:i<7){v:Ω}{y:Rq}(hy:(mL L[j]).set i v=mL y):((L.map mL).flatten++rest).set (0+j*7+i) v=((L.set j y).map mL).flatten++rest:=by
 rw[yyd,wwm _ _ (by rw[tR tm];omega),Kp tm L j i hj y v hi hy]
def IZ{L:List Rq}{rest:Γ}{j i:Nat}(hj:j<L.length){u:Ω}(hu:(mL L[j])[i]?=some u):((L.map mL).flatten++rest)[0+j*7+i]?=some u:=by
 have h:=uJ tm L j i L[j] u (zzd hj) hu;rw[yyd,zzr (zzh.1 h).1];exact h
def ZH(H:bw)(v:Ω)(L:List Rq)(id iH:Int)(dn:Bool)(hv:nh H v L)(hn:L.length<=1000)(hid : -9223372036854775808<=id/\id<=9223372036854775807):
  SP 295 [v,.int .i64 id,.int .i64 iH,.bool dn] [.mem H] (λu post=>Jv H u post (p' L id iH dn)):=by
 refine Enzz λW F w hS=>?_;apply g_5;delta Rn aI a_ gi ai bI;have ko:∀{w:Α},p' L id iH dn=none->SL W (.mem H::F) w->∃post,Jv H (.tuple #[.slice none 0 0,.bool false]) post (p' L id iH dn)/\SL W (app post F) w:=λe hS=>⟨_,⟨H,bw.le_refl H,rfl,by rw[e]⟩,hS⟩;refine Cg (QE H v L id hv hn hid) λw hS=>?_;refine Cc (Zi H v L hv (by omega)) ?_;clear hS;rintro _ post ⟨q1,rfl,xr,rfl⟩ w hS;(try simp only[app]at hS);refine Gp ?_
 refine zu (λhe=>ko (bFi λh=>by rw[xr.2 h.1]at he;cases he) (aW hS)) (λhe=>?_);have hM:=xr.1 he;refine Gp ?_;refine zu (λh=>ko (bFj h) (aW hS)) (λh1=>?_);obtain⟨j,hj,rfl,hd⟩:=fFp h1;have ew:IntKind.i64.wrap (((j+1:Nat):Int)-1)=(j:Int):=by rw[aIh (by omega)];omega
 rw[ew];have rN:=bFg hM hj iH dn;have eW:=(hM.2 j hj).1;unfold Bh at eW;have hx:L[j]?=some L[j]:=zzd hj;refine QM hS Xh tm hv hx hj (i:=4) rfl ?_;refine Gp ?_;refine za (λh=>ko (by rw[rN,zzc (.inr (.inl h))]) (aW hS)) (λh4=>?_);refine Gp ?_;refine za (λh=>ko (by rw[rN,zzc (.inr (.inr (.inl h)))]) (aW hS)) (λh5=>?_);refine QM hS Xh tm hv hx hj (i:=5) rfl ?_;refine Gp ?_;refine za (λh=>ko (by rw[rN,zzc (.inr (.inr (.inr h)))]) (aW hS)) (λh6=>?_);rw[rN,zzb (by rw[hd];rintro (h|h|h|h);exact Bool.false_ne_true h;exact h4 h;exact h5 h;exact h6 h)];refine Cc (z7 H v L hv hn) ?_;clear hS;rintro v1 post rfl w hS;(try simp only[app]at hS);rcases bR.open hS with ⟨_,h0,_⟩|⟨ob,cap,rest,rfl,hc,hl,nY,hS⟩
 ·omega
 refine zF hj (yI (Zz hS Xu (IZ hj (i:=4) rfl) rfl ?_));clear hS;intro w hS;rw[MI hj (by decide) (y:={L[j] with iH:=iH}) rfl]at hS
 have FD:j<(L.set j {L[j] with iH:=iH}).length:=by rw[yyh];exact hj
 have e1:(L.set j {L[j] with iH:=iH})[j]={L[j] with iH:=iH}:=by simp
 refine zF hj (yI (Zz hS Xu (IZ FD (i:=6) (u:=.bool L[j].done) (by rw[e1];rfl)) rfl ?_));clear hS;intro w hS;rw[MI FD (by decide) (y:={L[j] with iH:=iH,done:=dn}) (by rw[e1];rfl),List.set_set]at hS
 have tw:j<(L.set j {L[j] with iH:=iH,done:=dn}).length:=by rw[yyh];exact hj
 have e2:(L.set j {L[j] with iH:=iH,done:=dn})[j]={L[j] with iH:=iH,done:=dn}:=by simp
 refine zF hj (yI (zV hS .hd (IZ tw (i:=5) (u:=.int .i64 L[j].chunks) (by rw[e2];rfl)) ?_));refine Gp ?_;refine zF hj (yI (Zz hS Xu (IZ tw (i:=5) (u:=.int .i64 L[j].chunks) (by rw[e2];rfl)) rfl ?_));clear hS;intro w hS;rw[MI tw (by decide) (y:={L[j] with iH:=iH,chunks:=L[j].chunks+1,done:=dn}) (by rw[e2];rfl),List.set_set]at hS
 generalize Fo:L.set j {L[j] with iH:=iH,chunks:=L[j].chunks+1,done:=dn}=L2 at *
 have hlen:L2.length=L.length:=by rw[<- Fo,yyh]
 have hS:=bR.mk (n:=L2.length) (cap:=cap) (sz:=7) (rest:=rest) (by omega) (tR tm L2) (by rw[hlen];exact nY) hS;obtain⟨H1,iA,nO,hS⟩:=zz (H:=H) (v:=.slice (some ⟨ob,0,none⟩) L2.length cap) (n:=L2.length) (sz:=7) (t:=98) (cells:=(L2.map mL).flatten) hS Xp;exact⟨_,⟨H1,iA,rfl,_,rfl,by rw[<- hlen];exact nO⟩,aW hS⟩
structure mA where
 aw:Int
 ov:Ω
 nv:Ω
def jP(x:mA):Γ:=[.int .i64 x.aw,x.ov,x.nv]
abbrev aWc(H:bw)(v:Ω)(l:List lA):Prop:=iD H 5 v l.length (l.map nN).flatten
abbrev aWb(H:bw)(v:Ω)(l:List mn):Prop:=iD H 7 v l.length (l.map pc).flatten
structure ma(H:bw)(x:mA)(t:eF):Prop where
 aw:x.aw=t.aw
 ops:aWc H x.ov t.ops
 mO:aWb H x.nv t.notes
def ma.mono{H H':bw}(hh:H.le H'){x:mA}{t:eF}(h:ma H x t):ma H' x t:=⟨h.aw,h.ops.mono hh,h.mO.mono hh⟩
def b_z(x:mA):(jP x).length=3:=rfl
def Kf(n:mn):∀v∈pc n,v.oneCell'=true:=by simp[pc,Value.oneCell']
def BV(o:lA):(nN o).length=5:=rfl
def rK{H:bw}{x:mA}{t:eF}(h:ma H x t):∀v∈jP x,v.oneCell'=true:=by
 intro v hv;simp only[jP,zz7,xxj,vvv]at hv;rcases hv with rfl|rfl|rfl
 ·rfl
 ·exact h.ops.one
 exact h.mO.one
def Ay(b:Δ):∀v∈b.map ic,v.oneCell'=true:=λv hv=>by
 obtain⟨x,_,rfl⟩:=zzy.1 hv;rfl
section
variable {W w:Α} {l:Ψ}
def Zm{F:Ψ}{a:Option Addr}{k cap:Nat}{cs:Γ}{K:Ω->Α->Prop}(hS:SL W F w)(mr:∀w' c,SL W (c::F) w'->oZ w' 1 (.slice a k cap) k cs)(hl:cs.length=k)(h1:∀v∈cs,v.oneCell'=true)(hb:k<=140737488355328)
  (h:∀u w',SL W (.ob (bR u 5 1 k cs)::F) w'->(a.isSome=true->u≠.slice none 0 0\/k=0)->K u w'):aF 193 [.slice a k cap] w K:=by
 apply gRp;delta OX bI;refine awf ?_;cases a with
 | none=>
  refine zq ?_;have hs:=mr _ _ (bR.nil (t:=5) (sz:=1) hS);obtain rfl:cs=[]:=hs.2;obtain rfl:k=0:=by simpa using hl.symm
  exact h _ _ (bR.nil hS) (λh=>by cases h)
 | some p=>
  refine zp ?_;refine zL hS rfl ?_;intro b w' lL;have uL:SL W (.ob (bR (.slice (some ⟨b,0,none⟩) 0 0) 5 1 0 [])::F) w':=bR.full rfl lL;refine zI uL .hd (mr _ _ uL) (by rw[hl];omega) rfl h1 (by omega) (by omega) ?_;intro u w2 Dz;rw[yyd,zzp]at Dz
  refine h u w2 Dz λ_=>?_;rcases yy8 k with hk|hk
  ·exact .inr hk
  refine .inl λe=>?_;subst e;rcases bR.open Dz with ⟨_,h2,_⟩|⟨b,cap,rest,h2,_⟩
  ·omega
  cases h2
def f_c{v:Ω}{t:Ε}{sz n k:Nat}{kk:IntKind}{cells:Γ}{K:Ω->Prop}(h:SL W l w)(m:Has (.ob (bR v t sz n cells)) l)(hk:k<=n)
  (hK:∀a cap,(∀w' l',SL W l' w'->Has (.ob (bR v t sz n cells)) l'->oZ w' sz (.slice a k cap) k (cells.take (k*sz)))->K (.slice a k cap)):kh sz v none (some (.int kk (k:Int))) none K:=by
 obtain⟨a,cap,rfl,hl,hx⟩:=bR.at h m;have tW:n<=cap:=by
  obtain⟨l2,r⟩:=m.rem;rcases bR.open (h.perm r.perm) with ⟨⟨a',e⟩,rfl,rfl,_⟩|⟨b,G8,rest,e,hc,_⟩
  ·cases e;omega
  cases e;exact hc
 refine⟨a,n,cap,0,k,cap,rfl,rfl,⟨kk,rfl⟩,rfl,zz8 _,by omega,zzi _,?_⟩;rw[wwu,wwu];have e:(if cap=0 then a else a.map (·.add (0*sz)))=a:=by
  split
  ·rfl
  cases a<;>simp[Addr.add]
 rw[e];refine hK a cap λw' l' h' m'=>?_;have hs:=sC h' m';cases a with
 | none=>
  obtain⟨e1,e2⟩:=hs;subst e2;have e1:n=n:=e1;have hn:n*sz=0:=by simpa using hl.symm
  refine⟨rfl,by simp⟩
 | some p=>
  obtain⟨_,e2,e3⟩:=hs;refine⟨rfl,by rw[zzf,e2];exact xxn (yyt _ hk),λj v e=>?_⟩;rw[uua]at e
  split at e
  ·exact e3 j v e
  cases e
end
def a_2(X:Η)(dp:Nat)(s:DS)(N:Nat)(eW:s.Ok N)(iY:s.ops<=100000)(f:Int)(bv:Ω)(b:Δ)(hX:∀{W:Α} {l:Ψ} {w:Α},SL W l w->Has X l->oZ w 1 bv b.length (b.map ic))(hN:((iQ PF.id s.R f).getD (CT f)).b.length+b.length<=140737488355328):
  SP 220 [.pointer (some ⟨dp,0,none⟩),.int .i64 f,bv] [.ob (cw dp s),X] (e_ (.int .i64 (s.append f b).2) [.ob (cw dp (s.append f b).1),X]):=by
 refine Enzz λW F w hS=>?_;apply gWg;delta Po aI bW ia ai h_ bI;obtain⟨mb,m,L,hr,hS⟩:=cw.iff.1 hS;refine Cg (YA dp mb s f) λw hS=>?_;unfold DS.append;refine za (λh=>?_) (λh=>?_)
 ·rw[zzc h];exact⟨_,⟨rfl,rfl⟩,cw.iff.2 ⟨mb,m,L,hr,aW hS⟩⟩
 rw[zzb h];have hm:may s f=0:=by omega
 obtain⟨h0,y_,DD⟩:=Gd hm;refine Gp ?_;refine yJ hS Xh (ue .i64) wwg yye (λ_=>rfl) ?_;rw[hr.get f];have ie7:=eW.len;cases hg:iQ kL L f with
 | none=>
  simp only[vvo,wwy];refine Ya (zq ?_);refine yT rfl ?_;refine⟨_,rfl,zD hS ?_⟩;clear hS;intro p w hS;refine Gp ?_;refine qK (key:=Value.int .i64) (val:=ly) (k:=f) (v:=p) hS Xu (ue .i64) wwg yye ?_;clear hS;intro _ w hS;refine Gp ?_;have hS:=bR.nil (t:=5) (sz:=1) hS;refine zI (n:=0) (m:=b.length) hS .hd (hX hS Xh) (by simp) rfl (Ay b) (by omega) (by omega) ?_;clear hS;intro v w hS;rw[yyd,zzp]at hS
  have xq:=hS.vB .hd;refine Gn λw hS=>?_;refine Cg (yi dp mb s h0 eW.uy eW.vf iY) λw hS=>?_;have hS:=(jK.iff (x:=((⟨f,0,b⟩:PF),p))).2 ⟨v,SL.cR hS (t:=.pt p [v,.int .i64 0] 296::.ob (bR v 5 1 b.length (b.map ic))::.ob (zg jK L)::.pt dp (mC mb s.eI) 168::.ob (jH (Value.int .i64) ly mb (lM m f p))::X::F) Xi⟩;have hS:=zg.snoc (SL.cR hS (t:=.ob (zg jK L)::.ob (jK ((⟨f,0,b⟩:PF),p))::.pt dp (mC mb s.eI) 168::.ob (jH (Value.int .i64) ly mb (lM m f p))::X::F) Xi);have xm:=hr.new hg (y:=⟨f,0,b⟩) rfl p;have hS:=zg.perm hS (ys:=kX kL L (⟨f,0,b⟩,p)) (by
   have hi:mu kL L (kL ((⟨f,0,b⟩:PF),p))=false:=by rw[<- Fj,show kL ((⟨f,0,b⟩:PF),p)=f from rfl,hg];rfl
   exact vvp.trans (MC hr.rel.2 hi).symm)
  have e:o_ s.R f b=kX PF.id s.R ⟨f,0,b⟩:=by
   unfold o_;rw[hr.jW f,hg];rfl
  rw[e];exact⟨_,⟨rfl,rfl⟩,cw.iff.2 ⟨mb,_,_,xm,aW hS⟩⟩
 | some x=>
  obtain⟨g1,g2,g3⟩:=AV hg;have hS:=zg.take (SL.cR hS (t:=.ob (zg jK L)::.pt dp (mC mb s) 168::.ob (jH (Value.int .i64) ly mb m)::X::F) Xi) g1;obtain⟨v0,hS⟩:=jK.iff.1 hS;simp only[yyf,xxc];unfold ly;refine Ya (zp ?_);refine Gp ?_;have Wm:x.1.b.length+b.length<=140737488355328:=by rw[hr.jW f,hg]at hN;exact hN
  refine zI (n:=x.1.b.length) (m:=b.length) hS Xr (hX hS Xh) (by simp) rfl (Ay b) (by omega) (by omega) ?_;clear hS;intro v w hS;have xq:=hS.vB .hd;refine Gn λw hS=>?_;refine Cg (yi dp mb s h0 eW.uy eW.vf iY) λw hS=>?_;have e1:x.1.b.map ic++b.map ic=(x.1.b++b).map ic:=by rw[zzt]
  have e2:x.1.b.length+b.length=(x.1.b++b).length:=by rw[zza]
  rw[e1,e2]at hS
  have hS:=(jK.iff (x:=((⟨f,x.1.safe,x.1.b++b⟩:PF),x.2))).2 ⟨v,SL.cR hS (t:=.pt x.2 [v,.int .i64 x.1.safe] 296::.ob (bR v 5 1 (x.1.b++b).length ((x.1.b++b).map ic))::.ob (zg jK (L.eraseIdx (kj kL L f)))::.pt dp (mC mb s.eI) 168::.ob (jH (Value.int .i64) ly mb m)::X::F) Xi⟩;have hS:=zg.put hS g2;have e:o_ s.R f b=kX PF.id s.R ⟨f,x.1.safe,x.1.b++b⟩:=by
   unfold o_;rw[hr.jW f,hg];rfl
  rw[e];exact⟨_,⟨rfl,rfl⟩,cw.iff.2 ⟨mb,_,_,hr.set hg (y:=⟨f,x.1.safe,x.1.b++b⟩) rfl,aW hS⟩⟩
def JQ(X:Η)(dp:Nat)(s:DS)(N:Nat)(eW:s.Ok N)(iY:s.ops<=100000)(f:Int)(bv:Ω)(b:Δ)(hX:∀{W:Α} {l:Ψ} {w:Α},SL W l w->Has X l->oZ w 1 bv b.length (b.map ic))(hN:N+b.length<=140737488355328):
  SP 220 [.pointer (some ⟨dp,0,none⟩),.int .i64 f,bv] [.ob (cw dp s),X] (e_ (.int .i64 (s.append f b).2) [.ob (cw dp (s.append f b).1),X]):=
 a_2 X dp s N eW iY f bv b hX (by have:=UP (f:=f) eW.len;omega)
def Km{s:DS}{m:List (Int × Nat)}{L:List EF}(hr:p6 m L s.R)(f:Int):
  (s.find f≠0/\Fc s m f= .tuple #[.pointer none,.int .i64 (s.find f)])\/(s.find f=0/\may s f=0/\∃x,iQ kL L f=some x/\Fc s m f= .tuple #[ly x.2,.int .i64 0]):=by
 unfold DS.find Fc;by_cases h:may s f=0
 ·have h':¬may s f≠0:=λe=>e h;rw[zzb h',zzb h',hr.get f];have hi:mu PF.id s.R f=(iQ kL L f).isSome:=by rw[<- Fj,hr.jW f,Option.isSome_map]
  rw[hi];cases hg:iQ kL L f with
  | none=>exact .inl ⟨by simp,by simp⟩
  | some x=>exact .inr ⟨by simp,h,x,rfl,rfl⟩
 rw[zzc h,zzc h];exact .inl ⟨h,rfl⟩
def BY{W w:Α}{L:List EF}{f:Int}{x:EF}{l:Ψ}(hg:iQ kL L f=some x)(hS:SL W (.ob (zg jK L)::l) w):SL W (.ob (jK x)::.ob (zg jK (L.eraseIdx (kj kL L f)))::l) w:=zg.take hS (AV hg).1
def Kj{W w:Α}{L:List EF}{f:Int}{x y:EF}{l:Ψ}(hg:iQ kL L f=some x)(hS:SL W (.ob (jK y)::.ob (zg jK (L.eraseIdx (kj kL L f)))::l) w):SL W (.ob (zg jK (L.set (kj kL L f) y))::l) w:=zg.put hS (AV hg).2.1
def Kk{W w:Α}{L:List EF}{f:Int}{x:EF}{l:Ψ}(hg:iQ kL L f=some x)(hS:SL W (.ob (jK x)::.ob (zg jK (L.eraseIdx (kj kL L f)))::l) w):SL W (.ob (zg jK L)::l) w:=by
 have h:=Kj hg hS;have e:L.set (kj kL L f) x=L:=by
  obtain⟨h1,h2⟩:=zzh.1 (AV hg).1;rw[<- h2];simp
 rwa [e]at h
def aFz{R:List PF}{f:Int}{x:PF}(h:iQ PF.id R f=some x)(g:PF->PF):oJ R f g=kX PF.id R {g x with id:=f}:=by
 unfold oJ;rw[h]
def Yi(dp:Nat)(s:DS)(N:Nat)(eW:s.Ok N)(iY:s.ops<=100000)(f:Int):
  SP 221 [.pointer (some ⟨dp,0,none⟩),.int .i64 f] [.ob (cw dp s)] (e_ (.int .i64 (s.sync f).2) [.ob (cw dp (s.sync f).1)]):=by
 refine Enzz λW F w hS=>?_;apply gWh;delta Pp aI bW ia ai;obtain⟨mb,m,L,hr,hS⟩:=cw.iff.1 hS;refine Cc (y4 dp mb s m f) ?_;clear hS;rintro v post ⟨rfl,rfl⟩ w hS;try simp only[app]at hS
 unfold DS.sync;rcases Km hr f with ⟨h1,e⟩|⟨h1,h2,x,hg,e⟩
 ·rw[e,zzc h1];refine Gp ?_;refine za (λh=>absurd h h1) (λ_=>?_);refine Gp ?_;refine za (λh=>absurd h h1) (λ_=>?_);exact⟨_,⟨rfl,rfl⟩,cw.iff.2 ⟨mb,m,L,hr,aW hS⟩⟩
 obtain⟨h0,y_,DD⟩:=Gd h2;rw[e,zzb (λh=>h h1)];unfold ly;refine Gp ?_;refine za (λ_=>?_) (λh=>absurd rfl h);refine Cg (yi dp mb s h0 eW.uy eW.vf iY) λw hS=>?_;by_cases hc:s.eI.off=true
 ·have he:s.eI.err=8:=by unfold DS.err;rw[zzc hc]
  rw[he,zzc hc];refine za (λh=>by cases h) (λ_=>?_);exact⟨_,⟨rfl,rfl⟩,cw.iff.2 ⟨mb,m,L,hr,aW hS⟩⟩
 have he:s.eI.err=0:=by unfold DS.err;rw[zzb hc]
 rw[he,zzb hc];refine za (λ_=>?_) (λh=>absurd rfl h);have hS:=BY hg (SL.cR hS (t:=.ob (zg jK L)::.pt dp (mC mb s.eI) 168::.ob (jH (Value.int .i64) ly mb m)::F) Xi);obtain⟨v0,hS⟩:=jK.iff.1 hS;refine Gp ?_;refine zt hS (t:=5) (sz:=1) (n:=x.1.b.length) (cells:=x.1.b.map ic) Xh ?_;refine Gn λw hS=>?_;have hS:=Kj hg ((jK.iff (x:=((⟨f,x.1.b.length,x.1.b⟩:PF),x.2))).2 ⟨v0,SL.cR hS (t:=.pt x.2 [v0,.int .i64 (x.1.b.length:Int)] 296::.ob (bR v0 5 1 x.1.b.length (x.1.b.map ic))::.ob (zg jK (L.eraseIdx (kj kL L f)))::.pt dp (mC mb s.eI) 168::.ob (jH (Value.int .i64) ly mb m)::F) Xi⟩);have eR:=aFz (f:=f) (x:=x.1) (by rw[hr.jW f,hg];rfl) λx=>{x with safe:=x.b.length};rw[eR];exact⟨_,⟨rfl,rfl⟩,cw.iff.2 ⟨mb,_,_,hr.set hg (y:=⟨f,x.1.b.length,x.1.b⟩) rfl,aW hS⟩⟩
def Yt(x:EF)(n:Nat)(hn:n<=x.1.b.length)(hb:n<=140737488355328):SP 185 [ly x.2,.int .i64 (n:Int)] [.ob (jK x)] (e_ (.tuple #[]) [.ob (jK (ni n x.1,x.2))]):=by
 refine Enzz λW F w hS=>?_;apply gRk;delta OS bW ia;obtain⟨v0,hS⟩:=jK.iff.1 hS;unfold ly;refine Gp ?_;refine f_c hS (t:=5) (sz:=1) (n:=x.1.b.length) (cells:=x.1.b.map ic) Xh hn ?_;intro a cap mr;refine Zm (cs:=(x.1.b.map ic).take (n*1)) hS (λw' c lL=>mr w' _ lL (.tl Xh)) (by simp;omega) (λv hv=>Ay _ v (yyn hv)) (by omega) ?_;clear hS;intro u w hS _;have xq:=hS.vB .hd;refine Gn λw hS=>?_;have e1:(x.1.b.map ic).take (n*1)=(ni n x.1).b.map ic:=by rw[vvr,<- List.map_take];rfl
 have e2:(ni n x.1).b.length=n:=by simp only[ni,zzf];omega
 have e3:min (x.1.safe:Int) (n:Int)=(((ni n x.1).safe:Nat):Int):=by simp only[ni];omega
 rw[e1,e3]at hS
 refine⟨_,⟨rfl,rfl⟩,jK.iff.2 ⟨u,?_⟩⟩;rw[e2];exact aW hS
def eI6{s:DS}{m:List (Int × Nat)}{L:List EF}(hr:p6 m L s.R){f:Int}{x:EF}(hg:iQ kL L f=some x):lH s.R f=x.1.b.length:=by
 unfold lH;rw[hr.jW f,hg];rfl
def Zs(dp:Nat)(s:DS)(N:Nat)(eW:s.Ok N)(hN:N<=140737488355328)(iY:s.ops<=100000)(f n:Int):
  SP 251 [.pointer (some ⟨dp,0,none⟩),.int .i64 f,.int .i64 n] [.ob (cw dp s)] (e_ (.int .i64 (s.cut f n).2) [.ob (cw dp (s.cut f n).1)]):=by
 refine Enzz λW F w hS=>?_;apply gW9;delta PT aI bW ai;obtain⟨mb,m,L,hr,hS⟩:=cw.iff.1 hS;refine Cc (y4 dp mb s m f) ?_;clear hS;rintro v post ⟨rfl,rfl⟩ w hS;try simp only[app]at hS
 unfold DS.cut;rcases Km hr f with ⟨h1,e⟩|⟨h1,h2,x,hg,e⟩
 ·rw[e,zzc h1];refine Gp ?_;refine⟨λus w=>us=[.int .i64 (s.find f)]/\SL W (.pt dp (mC mb s) 168::.ob (jH (Value.int .i64) ly mb m)::.ob (zg jK L)::F) w,?_,?_⟩
  ·refine Gp ?_;refine za (λh=>absurd h h1) (λ_=>?_);exact⟨rfl,aW hS⟩
  clear hS;rintro v8 w ⟨gW,hS⟩;cases gW;refine Gp ?_;refine za (λh=>absurd h h1) (λ_=>?_);refine Gp ?_;refine za (λh=>absurd h h1) (λ_=>?_);exact⟨_,⟨rfl,rfl⟩,cw.iff.2 ⟨mb,m,L,hr,aW hS⟩⟩
 obtain⟨h0,y_,DD⟩:=Gd h2;rw[e,zzb (λh=>h h1)];unfold ly;refine Gp ?_;rw[eI6 hr hg];have Wm:x.1.b.length<=N:=eW.len _ (by rw[<- hr.eq];exact zzy.2 ⟨x,xxe (AV hg).1,rfl⟩);refine⟨λus w=>us=[.int .i64 (if n<0\/(x.1.b.length:Int)<n then 1 else 0)]/\SL W (.pt dp (mC mb s) 168::.ob (jH (Value.int .i64) ly mb m)::.ob (zg jK L)::F) w,?_,?_⟩
 ·refine Gp ?_;refine za (λ_=>?_) (λh=>absurd rfl h);refine cF (λh=>?_) (λh=>?_)
  ·rw[zzc (.inl h)];exact⟨rfl,aW hS⟩
  have hS:=BY hg (SL.cR hS (t:=.ob (zg jK L)::.pt dp (mC mb s) 168::.ob (jH (Value.int .i64) ly mb m)::F) Xi);obtain⟨v0,hS⟩:=jK.iff.1 hS;refine Gp ?_;refine zt hS (t:=5) (sz:=1) (n:=x.1.b.length) (cells:=x.1.b.map ic) Xh ?_;refine Gp ?_;have hS:=Kk hg (jK.iff.2 ⟨v0,hS⟩);refine za (λh3=>?_) (λh3=>?_)
  ·rw[zzc (.inr h3)];exact⟨rfl,aW hS⟩
  rw[zzb (by omega)];exact⟨rfl,aW hS⟩
 clear hS;rintro v8 w ⟨gW,hS⟩;cases gW;refine Gp ?_;by_cases hn:n<0\/(x.1.b.length:Int)<n
 ·rw[zzc hn,zzc hn];refine za (λh=>by cases h) (λ_=>?_);refine Gp ?_;refine za (λh=>by cases h) (λ_=>?_);exact⟨_,⟨rfl,rfl⟩,cw.iff.2 ⟨mb,m,L,hr,aW hS⟩⟩
 rw[zzb hn,zzb hn];refine za (λ_=>?_) (λh=>absurd rfl h);refine Cg (yi dp mb s h0 eW.uy eW.vf iY) λw hS=>?_;by_cases hc:s.eI.off=true
 ·have he:s.eI.err=8:=by unfold DS.err;rw[zzc hc]
  rw[he,zzc hc];refine za (λh=>by cases h) (λ_=>?_);exact⟨_,⟨rfl,rfl⟩,cw.iff.2 ⟨mb,m,L,hr,aW hS⟩⟩
 have he:s.eI.err=0:=by unfold DS.err;rw[zzb hc]
 rw[he,zzb hc];refine za (λ_=>?_) (λh=>absurd rfl h);have hS:=BY hg (SL.cR hS (t:=.ob (zg jK L)::.pt dp (mC mb s.eI) 168::.ob (jH (Value.int .i64) ly mb m)::F) Xi);obtain⟨k,rfl⟩:∃k:Nat,n=(k:Int):=⟨n.toNat,by omega⟩;have hC:=Yt x k (by omega) (by omega);unfold ly at hC;refine Cg (hC) λw hS=>?_;have hS:=Kj hg (y:=({ni k x.1 with id:=f},x.2)) (SL.cR hS (t:=.ob (jK ({ni k x.1 with id:=f},x.2))::.ob (zg jK (L.eraseIdx (kj kL L f)))::.pt dp (mC mb s.eI) 168::.ob (jH (Value.int .i64) ly mb m)::F) (by
  have:(ni k x.1,x.2)=(({ni k x.1 with id:=f}:PF),x.2):=by
   have:=(AV hg).2.2;unfold kL at this;rw[<- this];rfl
  rw[this];exact Xi))
 have eR:=aFz (f:=f) (x:=x.1) (by rw[hr.jW f,hg];rfl) (ni (k:Int).toNat);rw[eR,zzv];exact⟨_,⟨rfl,rfl⟩,cw.iff.2 ⟨mb,_,_,hr.set hg (y:={ni k x.1 with id:=f}) rfl,aW hS⟩⟩
def yO(dp:Nat)(s:DS)(N:Nat)(eW:s.Ok N)(iY:s.ops<=100000)(f:Int):
  SP 252 [.pointer (some ⟨dp,0,none⟩),.int .i64 f] [.ob (cw dp s)] (e_ (.int .i64 (s.remove f).2) [.ob (cw dp (s.remove f).1)]):=by
 refine Enzz λW F w hS=>?_;apply g_a;delta PU aI bW ai;obtain⟨mb,m,L,hr,hS⟩:=cw.iff.1 hS;refine Cc (y4 dp mb s m f) ?_;clear hS;rintro v post ⟨rfl,rfl⟩ w hS;try simp only[app]at hS
 unfold DS.remove;rcases Km hr f with ⟨h1,e⟩|⟨h1,h2,x,hg,e⟩
 ·rw[e,zzc h1];refine Gp ?_;refine za (λh=>absurd h h1) (λ_=>?_);refine Gp ?_;refine za (λh=>absurd h h1) (λ_=>?_);exact⟨_,⟨rfl,rfl⟩,cw.iff.2 ⟨mb,m,L,hr,aW hS⟩⟩
 obtain⟨h0,y_,DD⟩:=Gd h2;rw[e,zzb (λh=>h h1)];unfold ly;refine Gp ?_;refine za (λ_=>?_) (λh=>absurd rfl h);refine Cg (yi dp mb s h0 eW.uy eW.vf iY) λw hS=>?_;by_cases hc:s.eI.off=true
 ·have he:s.eI.err=8:=by unfold DS.err;rw[zzc hc]
  rw[he,zzc hc];refine za (λh=>by cases h) (λ_=>?_);exact⟨_,⟨rfl,rfl⟩,cw.iff.2 ⟨mb,m,L,hr,aW hS⟩⟩
 have he:s.eI.err=0:=by unfold DS.err;rw[zzb hc]
 rw[he,zzb hc];refine za (λ_=>?_) (λh=>absurd rfl h);refine Gp ?_;refine fWw (key:=Value.int .i64) (val:=ly) (k:=f) hS Xu (ue .i64) wwg yye ?_;clear hS;intro _ w hS;have hS:=BY hg (SL.cR hS (t:=.ob (zg jK L)::.pt dp (mC mb s.eI) 168::.ob (jH (Value.int .i64) ly mb (vy m f))::F) Xi);have eL:nM kL L f=L.eraseIdx (kj kL L f):=by
  unfold nM;rw[zzc (by rw[<- Fj,hg];rfl)]
 have hd:=hr.del f;rw[eL]at hd
 exact⟨_,⟨rfl,rfl⟩,cw.iff.2 ⟨mb,_,_,hd,aW hS⟩⟩
def EM(dp:Nat)(s:DS)(f:Int)(v:Ω)(post:Ψ):Prop:=match iQ PF.id s.R f with
 | none=>v= .tuple #[.slice none 0 0,.bool false]/\post=[.ob (cw dp s)]
 | some x=>∃u,v= .tuple #[u,.bool true]/\post=[.ob (cw dp s),.ob (bR u 5 1 x.b.length (x.b.map ic))]
def Z8(dp:Nat)(s:DS)(N:Nat)(eW:s.Ok N)(hN:N<=140737488355328)(f:Int):
  SP 269 [.pointer (some ⟨dp,0,none⟩),.int .i64 f] [.ob (cw dp s)] (EM dp s f):=by
 refine Enzz λW F w hS=>?_;apply g_e;delta PY bW h_ bI;obtain⟨mb,m,L,hr,hS⟩:=cw.iff.1 hS;refine Gp ?_;refine yJ hS Xh (ue .i64) wwg yye (λ_=>rfl) ?_;rw[hr.get f];cases hg:iQ kL L f with
 | none=>
  simp only[vvo,wwy];refine Ya (zq ?_);exact⟨[.ob (cw dp s)],by unfold EM;rw[hr.jW f,hg];exact⟨rfl,rfl⟩,cw.iff.2 ⟨mb,m,L,hr,aW hS⟩⟩
 | some x=>
  simp only[yyf,xxc];unfold ly;refine Ya (zp ?_);have Wm:x.1.b.length<=N:=eW.len _ (by rw[<- hr.eq];exact zzy.2 ⟨x,xxe (AV hg).1,rfl⟩);have hS:=BY hg (SL.cR hS (t:=.ob (zg jK L)::.pt dp (mC mb s) 168::.ob (jH (Value.int .i64) ly mb m)::F) Xi);obtain⟨v0,hS⟩:=jK.iff.1 hS;refine Gp ?_;obtain⟨a,cap,rfl,hl,_⟩:=bR.at hS (t:=5) (sz:=1) (n:=x.1.b.length) (cells:=x.1.b.map ic) Xh;refine Zm (cs:=x.1.b.map ic) hS (λw' c lL=>sC lL (.tl Xh)) (by simp) (Ay _) (by omega) ?_;clear hS;intro u w hS _;have hS:=Kk hg ((jK.iff (x:=x)).2 ⟨_,SL.cR hS (t:=.pt x.2 [.slice a x.1.b.length cap,.int .i64 x.1.safe] 296::.ob (bR (.slice a x.1.b.length cap) 5 1 x.1.b.length (x.1.b.map ic))::.ob (zg jK (L.eraseIdx (kj kL L f)))::.ob (bR u 5 1 x.1.b.length (x.1.b.map ic))::.pt dp (mC mb s) 168::.ob (jH (Value.int .i64) ly mb m)::F) Xi⟩);exact⟨[.ob (cw dp s),.ob (bR u 5 1 x.1.b.length (x.1.b.map ic))],by unfold EM;rw[hr.jW f,hg];exact⟨u,rfl,rfl⟩,cw.iff.2 ⟨mb,m,L,hr,aW hS⟩⟩
def Yz(dp:Nat)(s:DS)(f:Int):
  SP 250 [.pointer (some ⟨dp,0,none⟩),.int .i64 f] [.ob (cw dp s)] (e_ (.int .i64 (lH s.R f)) [.ob (cw dp s)]):=by
 refine Enzz λW F w hS=>?_;apply gW8;delta PS bW ai h_;obtain⟨mb,m,L,hr,hS⟩:=cw.iff.1 hS;unfold lH;rw[hr.jW f];refine Gp ?_;refine yJ hS Xh (ue .i64) wwg yye (λ_=>rfl) ?_;rw[hr.get f];cases hg:iQ kL L f with
 | none=>
  simp only[vvo,wwy];refine MM (zp ?_);exact⟨_,⟨rfl,rfl⟩,cw.iff.2 ⟨mb,m,L,hr,aW hS⟩⟩
 | some x=>
  simp only[yyf,xxc];unfold ly;refine MM (zq ?_);have hS:=BY hg (SL.cR hS (t:=.ob (zg jK L)::.pt dp (mC mb s) 168::.ob (jH (Value.int .i64) ly mb m)::F) Xi);obtain⟨v0,hS⟩:=jK.iff.1 hS;refine Gp ?_;refine zt hS (t:=5) (sz:=1) (n:=x.1.b.length) (cells:=x.1.b.map ic) Xh ?_;have hS:=Kk hg ((jK.iff (x:=x)).2 ⟨_,hS⟩);exact⟨_,⟨rfl,rfl⟩,cw.iff.2 ⟨mb,m,L,hr,aW hS⟩⟩
def wf_i64{n:Int}(h : -9223372036854775808<=n/\n<=9223372036854775807):(Lit.int .i64 n).wf=true:=by
 simpa [Lit.wf,IntKind.min,IntKind.max,IntKind.signed,IntKind.bits] using h
def ZE(dp:Nat)(s:DS)(N:Nat)(eW:s.Ok N)(hR:s.R.length<=100000):
  SP 184 [.pointer (some ⟨dp,0,none⟩)] [.ob (cw dp s)] (λv post=>post=[.ob (cw dp s),.ob (bR v 3 1 s.R.length (s.R.map λx=>.int .i64 x.id))]):=by
 refine Enzz λW F w hS=>?_;apply gRj;delta OR bW;obtain⟨mb,m,L,hr,hS⟩:=cw.iff.1 hS;refine Gp ?_;have rQ:m.length=s.R.length:=by rw[hr.rel.len,hr.len]
 refine fWt hS Xh (by omega) (λp hp=>?_) ?_
 ·obtain⟨x,hx,rfl⟩:=zzy.1 (hr.rel.1.subset hp);have:=eW.ids x.1 (by rw[<- hr.eq];exact zzy.2 ⟨x,hx,rfl⟩);exact wf_i64 (by show -9223372036854775808<=kL x/\_;unfold kL;omega)
 clear hS;intro v w hS;have e:(u0 m).map (Value.int .i64)=s.R.map λx=>.int .i64 x.id:=by
  rw[hr.rel.u0,<- hr.eq,xxs,xxs];rfl
 rw[e,rQ]at hS
 exact⟨_,rfl,cw.iff.2 ⟨mb,m,L,hr,aW hS⟩⟩
def bwe(dp:Nat)(s:DS)(n:Int):
  SP 183 [.pointer (some ⟨dp,0,none⟩),.int .i64 n] [.ob (cw dp s)] (e_ (.tuple #[]) [.ob (cw dp (s.vg n))]):=by
 refine Enzz λW F w hS=>?_;apply gRi;delta OQ ia ai;obtain⟨mb,m,L,hr,hS⟩:=cw.iff.1 hS;refine Gn λw hS=>?_;have hS:SL W (.pt dp (mC mb (s.vg n)) 168::.ob (jH (Value.int .i64) ly mb m)::.ob (zg jK L)::F) w:=hS;exact⟨_,⟨rfl,rfl⟩,cw.iff.2 ⟨mb,m,L,hr,aW hS⟩⟩
def zK(dp:Nat)(s:DS):
  SP 60 [.pointer (some ⟨dp,0,none⟩)] [.ob (cw dp s)] (e_ (.bool s.off) [.ob (cw dp s)]):=by
 refine Enzz λW F w hS=>?_;apply ibf;delta SG bW;obtain⟨mb,m,L,hr,hS⟩:=cw.iff.1 hS;refine Gp ?_;exact⟨_,⟨rfl,rfl⟩,cw.iff.2 ⟨mb,m,L,hr,aW hS⟩⟩
def nW(keep:Ξ)(i:Nat)(L:List EF):List EF:=L.mapIdx λj x=>if j<i then (mY keep j x.1,x.2) else x
def xR(keep:Ξ)(i:Nat)(L:List EF):(nW keep i L).length=L.length:=by simp[nW]
def AJ{keep:Ξ}{i:Nat}{L:List EF}{j:Nat}(h:j<L.length):(nW keep i L)[j]'(by rw[xR];exact h)=if j<i then (mY keep j L[j].1,L[j].2) else L[j]:=by simp[nW]
def bF8(keep:Ξ)(L:List EF):nW keep 0 L=L:=by
 refine xxp (xR _ _ _) λj h1 h2=>?_;rw[AJ h2,zzb (by omega)]
def bF7{keep:Ξ}{i:Nat}{L:List EF}(h:i<L.length):nW keep (i+1) L=(nW keep i L).set i (mY keep i L[i].1,L[i].2):=by
 refine xxp (by simp[nW]) λj h1 h2=>?_;have hj:j<L.length:=by rw[xR]at h1;exact h1
 rw[AJ hj,xxi];by_cases e:i=j
 ·subst e;rw[zzc (by omega),zzc rfl]
 rw[zzb e,AJ hj];by_cases h3:j<i
 ·rw[zzc h3,zzc (by omega)]
 rw[zzb h3,zzb (by omega)]
def bF5{keep:Ξ}{L:List EF}:(nW keep L.length L).map Prod.fst=jV (L.map Prod.fst) keep:=by
 unfold jV;refine xxp (by simp[nW]) λj h1 h2=>?_;have hj:j<L.length:=by simpa [nW] using h1
 rw[xxw,AJ hj,zzc hj];simp
def bF6(keep:Ξ)(i:Nat)(L:List EF):(nW keep i L).map (λx=>(kL x,x.2))=L.map λx=>(kL x,x.2):=by
 refine xxp (by simp[nW]) λj h1 h2=>?_;have hj:j<L.length:=by simpa [nW] using h1
 rw[xxw,xxw,AJ hj];split<;>rfl
def TT{keep:Ξ}{i:Nat}{m:List (Int × Nat)}{L:List EF}(h:oL kL Prod.snd m L):oL kL Prod.snd m (nW keep i L):=by
 refine⟨by rw[bF6];exact h.1,?_⟩;have:=h.2;unfold kE at *
 rw[xxk]at *
 intro a b ha hb uM;have x':a<L.length:=by rw[xR]at ha;exact ha
 have sf:b<L.length:=by rw[xR]at hb;exact hb
 have h3:=this a b x' sf uM;rw[AJ x',AJ sf];have e1:∀(p:Prop) [Decidable p] (x:EF) (j:Nat),kL (if p then (mY keep j x.1,x.2) else x)=kL x:=λp _ x j=>by split<;>rfl
 rw[e1,e1];exact h3
def qf(H:bw)(dp:Nat)(s:DS)(N:Nat)(eW:s.Ok N)(hN:N<=140737488355328)(hR:s.R.length<=100000)(kv:Ω)(keep:Ξ)(hk:iD H 1 kv keep.length (keep.map (Value.int .i64))):
  SP 122 [.pointer (some ⟨dp,0,none⟩),kv] [.ob (cw dp s),.mem H] (e_ (.tuple #[]) [.ob (cw dp (s.jO keep)),.mem H]):=by
 refine Enzz λW F w hS=>?_;apply gF1;delta NX aI bW ia ai;refine Cc (ZE dp s N eW hR) ?_;clear hS;rintro fv post rfl w hS;try simp only[app]at hS
 refine zt hS (t:=3) (sz:=1) (n:=s.R.length) (cells:=s.R.map λx=>.int .i64 x.id) Xh ?_;obtain⟨mb,m,L,hr,hS⟩:=cw.iff.1 (SL.cR hS (t:=.ob (cw dp s)::.ob (bR fv 3 1 s.R.length (s.R.map λx=>.int .i64 x.id))::.mem H::F) Xi);have KG:=hr.len;refine⟨λus w=>∃i:Nat,us=[.int .i64 i]/\i<=L.length/\SL W (.ob (zg jK (nW keep i L))::.pt dp (mC mb s) 168::.ob (jH (Value.int .i64) ly mb m)::.ob (bR fv 3 1 s.R.length (s.R.map λx=>.int .i64 x.id))::.mem H::F) w,
  λus _=>match us with|[.int _ i]=>(L.length-i).toNat|_=>0,⟨0,rfl,by omega,by rw[bF8];exact aW hS⟩,?_⟩
 clear hS;rintro v11 w ⟨i,gW,hi,hS⟩;cases gW;refine cF (λh=>?_) (λh=>?_)
 ·have d_:i<L.length:=by omega
  have KH:s.R[i]?=some L[i].1:=by rw[<- hr.eq];simp[d_]
  refine yg hS (t:=3) (u:=.int .i64 L[i].1.id) Xh (by omega) (by rw[wwq,KH];rfl) ?_;refine Gp ?_;have Lp:=TT (keep:=keep) (i:=i) hr.rel;have HJ:(nW keep i L)[i]'(by rw[xR];exact d_)=L[i]:=by rw[AJ d_,zzb (by omega)]
  have hg:iQ kL (nW keep i L) L[i].1.id=some L[i]:=by
   have:=w9 Lp.2 (zzg (l:=nW keep i L) (n:=i) (by rw[xR];exact d_));rw[HJ]at this
   exact this
  have mh:kj kL (nW keep i L) L[i].1.id=i:=EZ Lp.2 (j:=i) (by rw[xR];exact d_) (by rw[HJ];rfl);have Ai:=eW.safe L[i].1 (xxe KH);have hlen:=eW.len L[i].1 (xxe KH);refine yJ hS Xh (ue .i64) wwg yye (λ_=>rfl) ?_;rw[Lp.get,hg];simp only[yyf,xxc];rw[show ly L[i].2= .pointer (some ⟨L[i].2,0,none⟩) from rfl];have hS:=BY hg hS;rw[mh]at hS
  have oU:∀{w:Α} {l:Ψ},SL W (.ob (jK (mY keep i L[i].1,L[i].2))::.ob (zg jK ((nW keep i L).eraseIdx i))::l) w->SL W (.ob (zg jK (nW keep (i+1) L))::l) w:=λh=>by
   rw[bF7 d_];exact zg.put h (by rw[xR];exact d_)
  generalize (nW keep i L).eraseIdx i=Er at *
  refine⟨λus w=>us=[.int .i64 (n_ keep i L[i].1:Int)]/\SL W (.ob (jK L[i])::.ob (zg jK Er)::.pt dp (mC mb s) 168::.ob (jH (Value.int .i64) ly mb m)::.ob (bR fv 3 1 s.R.length (s.R.map λx=>.int .i64 x.id))::.mem H::F) w,?_,?_⟩
  ·refine zo hk ?_;refine Gp ?_;unfold n_;refine za (λh1=>?_) (λh1=>?_)
   ·have DG:i<keep.length:=by omega
    rw[zzd DG];simp only;refine yU hS Xh hk DG (u:=.int .i64 keep[i]) (by simp[DG]) ?_;refine cF (λh2=>?_) (λh2=>?_)
    ·rw[zzc h2];refine Gn λw hS=>?_;refine yU hS Xh hk DG (u:=.int .i64 keep[i]) (by simp[DG]) ?_;obtain⟨v0,hS⟩:=jK.iff.1 hS;refine Gp ?_;refine zt hS (t:=5) (sz:=1) (n:=L[i].1.b.length) (cells:=L[i].1.b.map ic) Xh ?_;refine Gp ?_;obtain⟨k,Ad⟩:∃k:Nat,keep[i]=(k:Int):=⟨keep[i].toNat,by omega⟩;have e:(L[i].1.b.length:Int)-(L[i].1.safe:Int)+1=((L[i].1.b.length-L[i].1.safe+1:Nat):Int):=by omega
     rw[Ad,e];refine QP (by omega) ?_;exact⟨by rw[zzv],SL.cR (jK.iff.2 ⟨v0,hS⟩) Xi⟩
    rw[zzb h2];exact⟨rfl,aW hS⟩
   rw[yyr (by omega)];exact⟨rfl,aW hS⟩
  clear hS;rintro v7 w ⟨gW,hS⟩;cases gW;have dI9:=CP (keep:=keep) (i:=i) Ai;obtain⟨v0,hS⟩:=jK.iff.1 hS;refine Gp ?_;have hS:=jK.iff.2 ⟨v0,hS⟩;have hC:=Yt L[i] (L[i].1.safe+n_ keep i L[i].1) dI9 (by omega);unfold ly at hC;refine Cg (hC) λw hS=>?_;obtain⟨v1,hS⟩:=jK.iff.1 hS;refine Gp ?_;refine zt hS (t:=5) (sz:=1) (n:=(ni (L[i].1.safe+n_ keep i L[i].1) L[i].1).b.length) (cells:=(ni (L[i].1.safe+n_ keep i L[i].1) L[i].1).b.map ic) Xh ?_;refine Gn λw hS=>?_;refine⟨⟨i+1,by simp,by omega,?_⟩,by dsimp only;omega⟩;have e1:(ni (L[i].1.safe+n_ keep i L[i].1) L[i].1).b=(mY keep i L[i].1).b:=rfl;have e2:(((ni (L[i].1.safe+n_ keep i L[i].1) L[i].1).b.length:Nat):Int)=(((mY keep i L[i].1).safe:Nat):Int):=by simp[mY,ni]
  rw[e1]at hS e2
  rw[e2]at hS
  have e3:(ni (L[i].1.safe+n_ keep i L[i].1) L[i].1).b.length=(mY keep i L[i].1).b.length:=rfl;have hS:=(jK.iff (x:=(mY keep i L[i].1,L[i].2))).2 ⟨v1,hS⟩;exact SL.cR (oU (SL.cR hS (t:=.ob (jK (mY keep i L[i].1,L[i].2))::.ob (zg jK Er)::.pt dp (mC mb s) 168::.ob (jH (Value.int .i64) ly mb m)::.ob (bR fv 3 1 s.R.length (s.R.map λx=>.int .i64 x.id))::.mem H::F) Xi)) Xi
 have d_:i=L.length:=by omega
 subst d_;refine Gn λw hS=>?_;have hS:SL W (.ob (zg jK (nW keep L.length L))::.pt dp (mC mb (s.jO keep)) 168::.ob (jH (Value.int .i64) ly mb m)::.ob (bR fv 3 1 s.R.length (s.R.map λx=>.int .i64 x.id))::.mem H::F) w:=hS;refine⟨_,⟨rfl,rfl⟩,cw.iff.2 ⟨mb,m,nW keep L.length L,⟨TT hr.rel,?_⟩,aW hS⟩⟩;rw[bF5,hr.eq];rfl

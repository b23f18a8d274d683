/- Part. -/
import Derived.Test.YtgfbifafbkkghaaGreatDoorJ3
namespace Go.Proofs.YtgfbifafbkkghaaGreatDoor
set_option linter.all false
open Go.RowKit
def ww4:=@List.eq_of_mem_replicate
def wwg:=@List.take_append_of_le_length
def wwh:=@List.drop_append_of_le_length
def wwu:=@List.findIdx?_eq_some_iff_getElem
def ww0:=@Nat.lt_or_ge
def vvt:=@List.findIdx?_eq_none_iff
def vvp:=@List.ext_getElem
def uue:=@List.getElem_map
def zzr:=@decide_eq_true
def zz5:=@decide_eq_false
def uu1:=@Bool.true_and
def yy8:=@List.not_mem_nil
def vvf:=@or_false
def vvg:=@Nat.min_eq_left
def zzy:=@Int.toNat_natCast
def bay{z:Ξ}{n i:Nat}(h:i<n*z.length):(bq z n)[i]?=z[i % z.length]?:=by
 induction n generalizing i with
 | zero=>omega
 | succ n ih=>
  have e:bq z (n+1)=z++bq z n:=by simp[bq,List.replicate_succ]
  rw[e];rw[yyo]at h
  by_cases hi:i<z.length
  ·rw[zzs hi,wwm hi]
  rw[zz3 (by omega),ih (by omega)];congr 1
  conv=>rhs;rw[show i=(i-z.length)+z.length by omega]
  rw[Nat.add_mod_right]
def Rv(A B z rest:Ξ)(h:B.length=z.length):(A++(B++rest)).take A.length++z++(A++(B++rest)).drop (A.length+z.length)=A++(z++rest):=by
 rw[uuq,yy3,<- h,ww9,zze]
def EG(zv:Array Ε)(z:Ξ)(hz:zv.toList=z)(n:Nat):(Builtin.zeroCells zv n).toList=bq z n:=by
 subst hz;refine vv8 λi=>?_;by_cases hi:i<n*zv.size
 ·have h0:0<zv.size:=by
   rcases yy7 zv.size with h|h
   ·rw[h]at hi;omega
   exact h
  rw[bay (by simpa using hi)];have hm:i % zv.size<zv.size:=uun _ h0;simp[Builtin.zeroCells,hi,hm,vv5]
 have h1:(Builtin.zeroCells zv n).toList.length<=i:=by simp[Builtin.zeroCells];omega
 have h2:(bq zv.toList n).length<=i:=by rw[jS];simp;omega
 rw[yys h1,yys h2]
section
variable {W w:Ζ} {l l':Β} {P:Program}
def SL.Oz{b:Nat}{t:Ι}:∀(vs:Ξ) (o:Nat) (cs:Ξ) (w:Ζ) (l l':Β),SL W l w->dX (.pt b cs t) (.pt b (over cs o vs) t) l l'->o+vs.length<=cs.length->SL W l' (w.setCells b o vs)
 | [],o,cs,w,l,l',hS,u,hl=>by
  simp only[over]at u;have:l=l':=by
   clear hS;generalize hc:Chunk.pt b cs t=c at u;revert hc;induction u with
   | hd=>intro;rfl
   | tl _ ih=>intro hc;rw[ih hc]
  rw[<- this];exact hS
 | v::r,o,cs,w,l,l',hS,u,hl=>by
  simp only[zzg]at hl;have hc:cs[o]?=some (cs[o]'(by omega)):=zzc (by omega);obtain⟨l2,p,q⟩:=u.other (.pt b (cs.set o v) t);rw[World.setCells];exact SL.Oz r (o+1) _ _ l2 l' (hS.store p hc) (by simpa [over] using q) (by simp;omega)
def SL.OA{b o:Nat}{t:Ι}{cs vs:Ξ}(hS:SL W l w)(u:dX (.pt b cs t) (.pt b (cs.take o++vs++cs.drop (o+vs.length)) t) l l')(hl:o+vs.length<=cs.length):SL W l' (w.setCells b o vs):=
 SL.Oz vs o cs w l l' hS (by rw[tN _ _ _ hl];exact u) hl
def aik{b o n c:Nat}{cs z:Ξ}{tt t e ty:Ι}{zv:Ε}{K:Ε->Ζ->Prop}(hS:SL W l w)(u:dX (.pt b cs tt) (.pt b (cs.take o++bq z n++cs.drop (o+n*z.length)) tt) l l')
  (ht:P.underlying t=some (.slice e)) (hv:∀w,(zeroValue e).run P w= .ok zv w) (hz:zv.cells.toList=z) (h1:∀v∈z,v.oneCell'=true) (hn:0<n) (ho:o+n*z.length<=cs.length)
  (h:∀u w',SL W l' w'->K u w'):zR P (Builtin.clear_ #[t] ty #[.slice (some ⟨b,o,none⟩) n c]) w K:=by
 have Dl:=EG zv.cells z hz n;have hlen:(bq z n).length=n*z.length:=jS _ _;have ie:∀j,j<n*z.length->∃v,cs[o+j]?=some v:=λj hj=>⟨_,zzc (by omega)⟩;have gd:=run_storeCells_cells (P:=P) b o (bq z n) 0 w (λj hj=>by obtain⟨v,hv⟩:=ie j (by omega);rw[wwd,hS.cell u.has hv];rfl) (λj hj=>by obtain⟨v,hv⟩:=ie j (by omega);rw[wwd];exact hS.frozen u.has hv)
  (by
   intro v lM;obtain⟨l0,rR,LA⟩:=wwn.1 lM;rw[ww4 rR]at LA
   exact h1 v LA)
 simp only[wwd]at gd;obtain⟨m,rfl⟩:∃m,n=m+1:=⟨n-1,by omega⟩;refine⟨_,_,by simp[Builtin.clear_,zzu ht,hv,Dl,gd];exact⟨rfl,rfl⟩,h _ _ (SL.OA hS (by rw[hlen];exact u) (by rw[hlen];exact ho))⟩
def yu{b o sz n j:Nat}{k:IntKind}{K:Ε->Prop}(hj:j<n)(h:K (.pointer (some ⟨b,o+j*sz,none⟩))):yx sz n (.pointer (some ⟨b,o,none⟩)) (.int k (j:Int)) K:=
 ⟨_,k,j,rfl,rfl,hj,by rw[zz7];exact h⟩
def q8{t e:Ι}{len j:Nat}{vs:Ξ}{v:Ε}{k:IntKind}{K:Ε->Prop}(ht:P.underlying t=some (.array len e))(ha:∀w,(isAgg e).run P w= .ok false w)(hs:∀w,(sizeOf e).run P w= .ok 1 w)(hj:j<len)(hv:vs[j]?=some v)(h:K v):
  dC P (Instr.index t (.agg vs.toArray) (.int k (j:Int))) w K:=by
 refine⟨_,?_,h⟩;simp[Instr.index,asIntOf,zzu ht,Result.andThen,hj,hs,part,ha,hv]
def I3(P:Program)(sz fH:Nat)(z:Ξ)(et st:Ι)(v0:Ε)(v1:Ε)(v2:Ε)(w:Ζ)(R:Ε->Ζ->Prop):Prop:=
 zd v0 λv12=>
 dD sz v0 (some v1) (some v2) (some v12) λtY=>
 zc .eql v1 v2 λoy=>
 bL oy
 (R v0 w)
 (zd v0 λq_=>
 zl w λjr=>
 dD sz v0 none (some v1) none λv22=>
 dD sz v0 (some v2) none none λv25=>
 zq sz fH z et v22 v25 jr λv26 kC=>
 zd v26 λv29=>
 dD sz v26 (some v29) (some q_) none λv31=>
 zR P (Builtin.clear_ #[st] 0 [v31].toArray) kC λu o_=>
 R v26 o_)
def JR{f:FuncId}{sz fH:Nat}{z:Ξ}{et st:Ι}{zv:Ε}(vc:∀v0 v1 v2 w R,I3 P sz fH z et st v0 v1 v2 w R->zL P f [v0,v1,v2] w R)
  (ht:P.underlying st=some (.slice et)) (hv:∀w,(zeroValue et).run P w= .ok zv w) (hz:zv.cells.toList=z) (Dm:z.length=sz) (h1:∀v∈z,v.oneCell'=true)
  (v:Ε) (n i:Nat) (cells:Ξ) (hi:i<n) (gW:∀v∈cells,v.oneCell'=true) (hb:n*fH<=140737488355328) (hn:n<=140737488355328) :
  Spec P f [v,Γ (i:Int),Γ ((i+1:Nat):Int)] [.ob (aY v et sz n cells)] (λu post=>post=[.ob (aY u et sz (n-1) (cells.take (i*sz)++cells.drop ((i+1)*sz)))]):=by
 refine Enzz λW F w hS=>?_;apply vc;unfold I3;rcases aY.open hS with ⟨⟨a,rfl⟩,rfl,rfl,_⟩|⟨b,cap,rest,rfl,vm,hlen,ij,hS⟩
 ·omega
 have bde:(i+1)*sz<=n*sz:=yy4 _ (by omega);have bdd:(i+1)*sz=i*sz+sz:=by rw[yyo,wwy]
 refine zY ?_;refine⟨_,n,cap,i,i+1,n,rfl,⟨_,rfl⟩,⟨_,rfl⟩,⟨_,rfl⟩,by omega,by omega,by omega,?_⟩;refine Gp ?_;refine Χ ?_;refine Gn λw hS=>?_;refine⟨_,n,cap,0,i,cap,rfl,rfl,⟨_,rfl⟩,rfl,by omega,by omega,by omega,?_⟩;rw[zzb (show ¬cap=0 by omega)];refine⟨_,n,cap,i+1,n,cap,rfl,rfl,rfl,⟨_,rfl⟩,by omega,by omega,by omega,?_⟩;simp only[yyn,zz7,uum,wwd,wwx];have l6:(cells.drop ((i+1)*sz)).length=(n-(i+1))*sz:=by rw[zz0,hlen,xx6]
 have Lx:i*sz+((n-(i+1))*sz)=(n-1)*sz:=by rw[<- yyo];congr 1;omega
 have bdc:(n-1)*sz+sz=n*sz:=by rw[show n*sz=(n-1+1)*sz by congr 1;omega,yyo,wwy]
 refine⟨some ⟨b,0,none⟩,i,cap,n-(i+1),cells.drop ((i+1)*sz),rfl,?_,?_,by omega,λlH=>?_,λh=>by omega⟩
 ·have T8:∀a:Option Addr,(n-(i+1)=0\/a=some ⟨b,0+(i+1)*sz,none⟩)->il w sz (.slice a (n-(i+1)) (cap-(i+1))) (n-(i+1)) (cells.drop ((i+1)*sz)):=by
   intro a ha;rcases ha with h0|rfl
   ·rw[h0]at l6 ⊢
    have:cells.drop ((i+1)*sz)=[]:=zzm (by simpa using l6);rw[this];cases a with
    | none=>exact⟨rfl,rfl⟩
    | some p=>exact⟨rfl,by simp,λj v e=>by simp at e⟩
   refine Ou hS (Has.hd) l6 λj u hu=>?_;rw[List.getElem?_drop]at hu
   rw[zz2,zzs (zzf.1 hu).1];exact hu
  refine T8 _ ?_;by_cases CI:cap=i+1
  ·left;omega
  right;rw[zzb CI]
 ·exact xx3 (yy4 _ (by omega)) hb
 show om (Addr.add ⟨b,0,none⟩ (i*sz)) 0 _ w _;rw[zz7,zz2];have bck:i*sz+(cells.drop ((i+1)*sz)).length<=(cells++rest).length:=by rw[zza,l6,Lx,hlen];omega
 refine tV (t:=et) (cells.drop ((i+1)*sz)) (i*sz) 0 (cells++rest) w _ (.pt b (cells.take (i*sz)++cells.drop ((i+1)*sz)++(cells.drop ((n-1)*sz)++rest)) et::F) hS ?_ (by omega) (λv hv=>gW v (List.mem_of_mem_drop hv)) ?_
 ·rw[tN _ _ _ (by omega),wwd,l6,Lx,wwg (by omega),wwh (by omega)];exact dX.hd
 intro w' hS;refine zY ?_;refine⟨some ⟨b,0,none⟩,i+(n-(i+1)),cap,i+(n-(i+1)),n,cap,rfl,rfl,⟨_,rfl⟩,⟨_,rfl⟩,by omega,by omega,by omega,?_⟩;have en:i+(n-(i+1))=n-1:=by omega
 rw[en,zzb (show ¬cap=n-1 by omega)];simp only[yyn,zz7,zz2];rw[show n-(n-1)=1 by omega];have hA:(cells.take (i*sz)++cells.drop ((i+1)*sz)).length=(n-1)*sz:=by rw[zza,l6,zzn,hlen];omega
 have hB:(cells.drop ((n-1)*sz)).length=sz:=by rw[zz0,hlen];omega
 have hle:(n-1)*sz+1*z.length<=(cells.take (i*sz)++cells.drop ((i+1)*sz)++(cells.drop ((n-1)*sz)++rest)).length:=by
  rw[zza (bs:=cells.drop ((n-1)*sz)++rest),zza (bs:=rest),hA,hB,Dm];omega
 refine aik (tt:=et) (n:=1) (l':=.pt b (cells.take (i*sz)++cells.drop ((i+1)*sz)++(z++rest)) et::F) hS ?_ ht hv hz h1 (by omega) hle ?_
 ·have e1:bq z 1=z:=by simp[bq]
  have e2:=Rv (cells.take (i*sz)++cells.drop ((i+1)*sz)) (cells.drop ((n-1)*sz)) z rest (by rw[hB,Dm]);rw[hA]at e2
  rw[e1,wwy,e2];exact dX.hd
 intro u w hS;exact⟨_,rfl,aY.mk (n:=n-1) (cap:=cap) (rest:=z++rest) (by omega) hA (by rw[zza,Dm,ij,show cap-(n-1)=(cap-n)+1 by omega,yyo,wwy];omega) hS⟩
def wR(P:Program)(T:List Bool)(sz:Nat)(v0:Ε)(v1:Ε)(w:Ζ)(R:Ε->Ζ->Prop):Prop:=
 zd v0 λv7=>
 ∃(I:Ξ->Ζ->Prop) (μ:Ξ->Ζ->Nat),I [(Γ 0)] w /\
 ∀(v8:Ε) jr,I [v8] jr ->
 zc .lss v8 v7 λv9=>
 bL v9
 (zj sz v0 v8 λwu=>
 zf sz wu jr λtZ=>
 zP P T v1 [tZ] jr λoy kC=>
 bL oy
 (R v8 kC)
 (zc .add v8 (Γ 1) λq'=>
 I [q'] kC/\μ [q'] kC<μ [v8] jr))
 (R (Γ (-1)) jr)
def vO:Option Nat->Int
 | some i=>(i:Int)
 | none=>-1
def U8{T:List Bool}{f g:FuncId}{sz:Nat}{α:Type}{enc:α->Ξ}(hn:∀x,(enc x).length=sz)(hT:T.getD g false=true){cap:Array Ε}{pre:Β}{q:α->Bool}{t:Ι}
  (vc:∀v0 v1 w R,wR P T sz v0 v1 w R->zL P f [v0,v1] w R) (one:∀x,Spec P g ([agg (enc x)]++cap.toList) pre (bj (.bool (q x)) pre))
  (v:Ε) (xs:List α) (hl:xs.length<=9223372036854775806) :
  Spec P f [v,.func (.func g) #[] cap] (pre++[.ob (aY v t sz xs.length (xs.map enc).flatten)]) (bj (Γ (vO (xs.findIdx? q))) (pre++[.ob (aY v t sz xs.length (xs.map enc).flatten)])):=by
 intro W F w hS;apply vc;unfold wR;have e0:app (pre++[.ob (aY v t sz xs.length (xs.map enc).flatten)]) F=pre++(.ob (aY v t sz xs.length (xs.map enc).flatten)::F):=by rw[uF];simp
 have hm:Has (.ob (aY v t sz xs.length (xs.map enc).flatten)) (app (pre++[.ob (aY v t sz xs.length (xs.map enc).flatten)]) F):=by
  rw[e0];clear hS one e0;induction pre with
  | nil=>exact .hd
  | cons c r ih=>exact .tl ih
 refine zB hS hm ?_;refine⟨λvs w=>∃k:Nat,vs=[Γ k]/\k<=xs.length/\(∀j (h:j<xs.length),j<k->q xs[j]=false)/\SL W (app (pre++[.ob (aY v t sz xs.length (xs.map enc).flatten)]) F) w,λvs _=>match vs with|[.int _ k]=>(xs.length-k).toNat|_=>0,⟨0,rfl,by omega,λj h hj=>by omega,hS⟩,?_⟩;clear hS;rintro v8 w ⟨k,hv,hk,hq,hS⟩;cases hv;refine bw (λh=>?_) (λh=>?_)
 ·have ga:k<xs.length:=by omega
  refine yK hS hm hn (x:=xs[k]) (by simp[ga]) ga ?_;refine⟨g,#[],cap,rfl,hT,?_⟩;refine zL.mono (one xs[k] W (.ob (aY v t sz xs.length (xs.map enc).flatten)::F) w (by rw[uF,<- e0];exact hS)) ?_;clear hS;rintro u w ⟨post,⟨rfl,rfl⟩,hS⟩;rw[uF,<- e0]at hS
  cases vD:q xs[k] with
  | true=>
   refine zt ?_;have e:xs.findIdx? q=some k:=wwu.2 ⟨ga,vD,λj hj=>by rw[hq j (by omega) hj];decide⟩;rw[e];exact⟨_,⟨rfl,rfl⟩,hS⟩
  | false=>
   refine zs ?_;refine Gp ?_;refine⟨⟨k+1,rfl,by omega,λj h hj=>?_,hS⟩,by dsimp only;omega⟩;rcases ww0 j k with vu|vu
   ·exact hq j h vu
   obtain rfl:j=k:=by omega
   exact vD
 have e:xs.findIdx? q=none:=vvt.2 λx hx=>by
  obtain⟨j,hj,rfl⟩:=yy5.1 hx;exact hq j hj (by omega)
 rw[e];exact⟨_,⟨rfl,rfl⟩,hS⟩
end
set_option maxRecDepth 100000
def Bh(H:aX)(u:Ε)(post:Β)(o:Option (List Rq)):Prop:=∃H',H.le H'/\post=[.mem H']/\match o with
 | none=>u= .tuple #[Θ,.bool false]
 | some L'=>∃x,u= .tuple #[x,.bool true]/\fX H' x L'
def Bc(r:Rq)(a:Int):Prop:=0<=r.table/\r.table<8/\1<=r.weight/\r.weight<=8/\max a 1<=r.at_/\r.at_<=1099511627776/\0<=r.cN/\r.cN<=1099511627776/\0<=r.chunks/\r.chunks<=1099511627776
def Q9(r:Rq)(a:Int):SP 354 [agg (ia r),Γ a] [] (λv post=>∃q:Bool,v= .bool q/\(q=true↔Bc r a)/\post=[]):=by
 refine Enzz λW F w hS=>?_;apply aZh;delta aF aW bc ai;obtain⟨rid,rt,AU,rat,AO,AN,rd⟩:=r;unfold ia Bc;simp only;refine⟨_,rfl,zD hS ?_⟩;clear hS;intro b w hS;have cU:∀{w:Ζ},¬(0<=rt/\rt<8/\1<=AU/\AU<=8/\max a 1<=rat/\rat<=1099511627776/\0<=AO/\AO<=1099511627776/\0<=AN/\AN<=1099511627776)->SL W F w->∃post,(∃q:Bool,(.bool false:Ε)= .bool q/\(q=true↔0<=rt/\rt<8/\1<=AU/\AU<=8/\max a 1<=rat/\rat<=1099511627776/\0<=AO/\AO<=1099511627776/\0<=AN/\AN<=1099511627776)/\post=[])/\SL W (app post F) w:=λh hS=>⟨_,⟨false,rfl,⟨λe=>(by cases e),λe=>absurd e h⟩,rfl⟩,hS⟩;refine Gp ?_;refine za (λc1=>?_) (λc=>cU (by omega) (aI hS));refine Gp ?_;refine za (λc2=>?_) (λc=>cU (by omega) (aI hS));refine Gp ?_;refine za (λc3=>?_) (λc=>cU (by omega) (aI hS));refine Gp ?_;refine za (λc4=>?_) (λc=>cU (by omega) (aI hS));refine Gp ?_;refine za (λc5=>?_) (λc=>cU (by omega) (aI hS));refine Gp ?_;refine za (λc6=>?_) (λc=>cU (by omega) (aI hS));refine Gp ?_;refine za (λc7=>?_) (λc=>cU (by omega) (aI hS));refine Gp ?_;refine za (λc8=>?_) (λc=>cU (by omega) (aI hS));refine Gp ?_;refine za (λc9=>?_) (λc=>cU (by omega) (aI hS));refine Gp ?_;refine⟨_,⟨_,rfl,?_,rfl⟩,aI hS⟩;rw[zzo];exact⟨λc=>⟨c1,c2,c3,c4,c5,c6,c7,c8,c9,c⟩,λc=>c.2.2.2.2.2.2.2.2.2⟩
def oZ(L:List Rq)(i t:Nat):Bool:=(L.take i).any λr=>decide (r.table=(t:Int)) && !r.done
def No{L:List Rq}{i t:Nat}:oZ L i t=true↔∃k,∃h:k<L.length,k<i/\L[k].table=(t:Int)/\L[k].done=false:=by
 unfold oZ;rw[List.any_eq_true];constructor
 ·rintro ⟨r,hr,hx⟩;obtain⟨k,hk,rfl⟩:=yy5.1 hr;rw[zzn]at hk
  refine⟨k,by omega,by omega,?_⟩;simpa using hx
 rintro ⟨k,h,hk,h1,h2⟩;refine⟨L[k],yy5.2 ⟨k,by rw[zzn];omega,by simp⟩,by simp[h1,h2]⟩
def pW(L:List Rq)(i:Nat):Ξ:=(List.range 8).map λt=>.bool (oZ L i t)
def Np(L:List Rq)(i:Nat){t:Nat}(h:t<8){o:Nat}(ho:o=t):(pW L i)[o]?=some (.bool (oZ L i t)):=by
 subst ho;unfold pW;simp[h]
def Xb{L:List Rq}{i t:Nat}(hi:i<L.length)(ht:L[i].table=(t:Int))(h:oZ L i t=false){o:Nat}(ho:o=t):(pW L i).set o (.bool !L[i].done)=pW L (i+1):=by
 subst ho;unfold pW;refine vvp (by simp) λj h1 h2=>?_;have hj:j<8:=by simpa using h2
 rw[xxr];have hs:∀t:Nat,oZ L (i+1) t=(oZ L i t || (decide (L[i].table=(t:Int)) && !L[i].done)):=λt=>by
  unfold oZ;rw[zzh hi,List.any_append];simp
 split
 ·rename_i e;subst e;simp only[uue,List.getElem_range];rw[hs,h,ht];simp
 rename_i e;simp only[uue,List.getElem_range];rw[hs,ht];have:¬((o:Int)=(j:Int)):=by omega
 simp[this]
def Xc(L:List Rq):pW L 0=[.bool false,.bool false,.bool false,.bool false,.bool false,.bool false,.bool false,.bool false]:=by
 simp[pW,oZ,List.range,List.range.loop]
def rr(L:List Rq)(i:Nat):Int:=if i=0 then 0 else (L[i-1]?.map (·.at_)).getD 0
def QE(H:aX)(v:Ε)(L:List Rq)(hv:fX H v L)(hn:L.length<=140737488351232):
  SP 317 [v] [.mem H] (λu post=>∃q:Bool,u= .bool q/\(q=true↔fV L)/\post=[.mem H]):=by
 refine Enzz λW F w hS=>?_;apply aYz;delta aF aW ba bD bc ai;have cU:∀{w:Ζ},¬fV L->SL W (.mem H::F) w->∃post,(∃q:Bool,(.bool false:Ε)= .bool q/\(q=true↔fV L)/\post=[.mem H])/\SL W (app post F) w:=λh hS=>
  ⟨_,⟨false,rfl,⟨λe=>(by cases e),λe=>absurd e h⟩,rfl⟩,hS⟩
 refine zD hS ?_;clear hS;intro ob w hS;refine zh hv ?_;rw[<- Xc L]at hS
 refine⟨λus w=>∃i:Nat,us=[Γ (rr L i),Γ i]/\i<=L.length/\(∀j,j<i->wG L j)/\SL W (.pt ob (pW L i) 476::.mem H::F) w,
  λus _=>match us with|[_,.int _ i]=>(L.length-i).toNat|_=>0,⟨0,rfl,by omega,λj h=>by omega,aI hS⟩,?_⟩
 clear hS;rintro v4 v9 w ⟨i,bM,hi,b5,hS⟩;cases bM;refine bw (λh=>?_) (λh=>?_)
 ·have bg:i<L.length:=by omega
  have f_:∀{w:Ζ},¬wG L i->SL W (.mem H::F) w->∃post,(∃q:Bool,(.bool false:Ε)= .bool q/\(q=true↔fV L)/\post=[.mem H])/\SL W (app post F) w:=λh hS=>cU (λhp=>h (hp.2 i)) hS;refine zy hS Xh oI hv (x:=L[i]) (by simp[bg]) bg ?_;refine zD hS ?_;clear hS;intro b w hS;refine zO (vs:=ia L[i]) hS .hd rfl rfl (Ca _) ?_;clear hS;intro w hS;have rY:wG L i->sc i L[i]/\(∀h0:0<i,L[i-1].at_<=L[i].at_)/\∀k (hk:k<i),¬(L[k].table=L[i].table/\L[k].done=false):=λh=>h bg;have KG:max (rr L i) 1<=L[i].at_↔1<=L[i].at_/\∀h0:0<i,L[i-1].at_<=L[i].at_:=by
   unfold rr;by_cases h0:i=0
   ·rw[zzd h0];exact⟨λe=>⟨by omega,λh=>by omega⟩,λe=>by have:=e.1;omega⟩
   rw[zzb h0,zzc (by omega)];simp only[yyn,xx9];exact⟨λe=>⟨by omega,λ_=>by omega⟩,λe=>by have:=e.1;have:=e.2 (by omega);omega⟩
  unfold ia at hS;refine Gp ?_;refine za (λc=>f_ (λhp=>by have:=(rY hp).1.1;omega) (aI hS)) (λc1=>?_);refine zH hS Xh rfl ?_;refine Cc (Q9 L[i] (rr L i)) ?_;clear hS;rintro _ post ⟨q1,rfl,pH,rfl⟩ w hS;(try simp only[app]at hS);refine Gp ?_
  refine zr (λhe=>f_ (λhp=>?_) (aI hS)) (λhe=>?_)
  ·have hp:=rY hp;have h1:Bc L[i] (rr L i):=⟨hp.1.2.1,hp.1.2.2.1,hp.1.2.2.2.1,hp.1.2.2.2.2.1,KG.2 ⟨hp.1.2.2.2.2.2.1,hp.2.1⟩,hp.1.2.2.2.2.2.2.1,hp.1.2.2.2.2.2.2.2.1,hp.1.2.2.2.2.2.2.2.2.1,hp.1.2.2.2.2.2.2.2.2.2.1,hp.1.2.2.2.2.2.2.2.2.2.2⟩;rw[pH.2 h1]at he;cases he
  have hQ:=pH.1 he;have ie:=KG.1 hQ.2.2.2.2.1;obtain⟨t,ht⟩:∃t:Nat,L[i].table=(t:Int):=⟨L[i].table.toNat,by have:=hQ.1;omega⟩;have vK:t<8:=by have:=hQ.2.1;omega
  have UQ:Γ L[i].table= Γ (t:Int):=by rw[ht]
  refine Gp ?_;rw[UQ]at hS ⊢
  refine yu vK (zT hS Xh (Np L i vK (by omega)) ?_);refine Zl (λho=>f_ (λhp=>?_) (aI hS)) (λho=>?_)
  ·obtain⟨k,hk,Uh,h1,h2⟩:=No.1 ho;exact (rY hp).2.2 k Uh ⟨by rw[h1,ht],h2⟩
  refine Gn λw hS=>?_;refine yu vK ?_;refine ZN hS Xu (Np L i vK (by omega)) rfl ?_;clear hS;intro w hS;rw[Xb bg ht ho (by omega)]at hS
  refine Gp ?_;have ea:rr L (i+1)=L[i].at_:=by
   unfold rr;rw[zzb (by omega),Nat.add_sub_cancel,zzc bg];rfl
  refine⟨⟨i+1,by rw[ea],by omega,λj hj=>?_,aI hS⟩,by dsimp only;omega⟩;by_cases e:j=i
  ·subst e;refine λ_=>⟨⟨by omega,hQ.1,hQ.2.1,hQ.2.2.1,hQ.2.2.2.1,ie.1,hQ.2.2.2.2.2.1,hQ.2.2.2.2.2.2.1,hQ.2.2.2.2.2.2.2.1,hQ.2.2.2.2.2.2.2.2.1,hQ.2.2.2.2.2.2.2.2.2⟩,ie.2,λk hk hx=>?_⟩;have:=No.2 ⟨k,by omega,hk,by rw[hx.1,ht],hx.2⟩;rw[ho]at this;cases this
  exact b5 j (by omega)
 have eM:i=L.length:=by omega
 subst eM;refine zh hv ?_;refine Gp ?_;refine⟨_,⟨_,rfl,?_,rfl⟩,aI hS⟩;rw[zzo];exact⟨λh=>⟨by omega,λj hj=>b5 j hj hj⟩,λhp=>by have:=hp.1;omega⟩
def y6(H:aX)(v:Ε)(L:List Rq)(hv:fX H v L)(hn:L.length<=140737488351232):
  SP 272 [v] [.mem H] (λu post=>∃q:Bool,u= .bool q/\(q=true↔fV L)/\post=[.mem H]):=by
 refine Enzz λW F w hS=>?_;apply aX5;refine Cc (QE H v L hv hn) ?_;clear hS;rintro _ post ⟨q,rfl,hq,rfl⟩ w hS;try simp only[app]at hS
 exact⟨_,⟨q,rfl,hq,rfl⟩,aI hS⟩
def nu(L:List Rq)(id:Int):Bool:=decide (1<=id/\id<=L.length) && (match L[(id-1).toNat]? with|some r=>!r.done|none=>false)
def awk{a b:Int}{K:Ε->Prop}(h:K (Γ (IntKind.i64.wrap (a-b)))):zc .sub (Γ a) (Γ b) K:=⟨_,rfl,h⟩
def O4{n:Int}(h : -9223372036854775808<=n/\n<=9223372036854775807):IntKind.i64.wrap n=n:=xxu _ h
def qE(H:aX)(v:Ε)(L:List Rq)(id:Int)(hv:fX H v L)(hn:L.length<=1000)(hid : -9223372036854775808<=id/\id<=9223372036854775807):
  SP 328 [v,Γ id] [.mem H] (bj (.tuple #[Γ (IntKind.i64.wrap (id-1)),.bool (nu L id)]) [.mem H]):=by
 refine Enzz λW F w hS=>?_;apply aY6;delta aF ba ai;refine Gn λw hS=>?_;refine awk ?_;refine bw (λh1=>?_) (λh1=>?_)
 ·refine zh hv ?_;refine bw (λh2=>?_) (λh2=>?_)
  ·obtain⟨j,rfl⟩:∃j:Nat,id=((j+1:Nat):Int):=⟨(id-1).toNat,by omega⟩;have hj:j<L.length:=by omega
   have ej:((j+1:Nat):Int)-1=(j:Int):=by omega
   have hp:nu L ((j+1:Nat):Int) = !L[j].done:=by
    unfold nu;rw[zzr (by omega),show (((j+1:Nat):Int)-1).toNat=j by omega,zzc hj];rfl
   rw[hp,O4 (by omega),ej];refine Gp ?_;rw[ej];have hd:=oL oI L j 6 L[j] (.bool L[j].done) (by simp[hj]) rfl;refine Yt hv hj λb o hb=>yR (Qj hS Xh (hb 6 _ (by decide) hd) ?_);refine Gp ?_;refine Qj hS Xh (hb 6 _ (by decide) hd) ?_;exact⟨rfl,_,⟨rfl,rfl⟩,aI hS⟩
  have hp:nu L id=false:=by unfold nu;rw[zz5 (by omega)];rfl
  rw[hp];exact bt hS
 have hp:nu L id=false:=by unfold nu;rw[zz5 (by omega)];rfl
 rw[hp];exact bt hS
def ym(H:aX)(v:Ε)(L:List Rq)(hv:fX H v L)(hn:L.length<=1000):
  SP 207 [v] [.mem H] (λu post=>post=[.ob (aY u 321 7 L.length (L.map ia).flatten),.mem H]):=by
 exact Ru aW4 rfl (by decide) hv (aic L) (by omega) (by omega)
def Ym(H:aX)(v:Ε)(L:List Rq)(table weight at_:Int)(hv:fX H v L)(hn:L.length<=1000):
  SP 315 [v,Γ table,Γ weight,Γ at_] [.mem H] (λu post=>Bh H u post (rn L table weight at_)):=by
 refine Enzz λW F w hS=>?_;apply aYx;delta bD ai aZ;refine Cc (ym H v L hv hn) ?_;clear hS;rintro v1 post rfl w hS;(try simp only[app]at hS);refine zh hv ?_;refine Gm λb w hS=>?_;refine zx (n:=L.length) (m:=1) (cells:=(L.map ia).flatten) hS Xr (fC (cs:=ia ⟨((L.length+1:Nat):Int),table,weight,at_,0,0,false⟩) hS .hd rfl) rfl rfl (Ca _) (by omega) (by omega) ?_;clear hS;intro v2 w hS;rw[<- rD]at hS
 obtain⟨H1,dF,nO,hS⟩:=zW (H:=H) (v:=v2) (n:=L.length+1) (sz:=7) (t:=321) (cells:=((L++[(⟨((L.length+1:Nat):Int),table,weight,at_,0,0,false⟩:Rq)]).map ia).flatten) hS Xp;have hlen:(L++[(⟨((L.length+1:Nat):Int),table,weight,at_,0,0,false⟩:Rq)]).length=L.length+1:=by simp
 have nO:fX H1 v2 (L++[(⟨((L.length+1:Nat):Int),table,weight,at_,0,0,false⟩:Rq)]):=by unfold fX;rw[hlen];exact nO
 have hN:DL L table weight at_=⟨((L.length+1:Nat):Int),table,weight,at_,0,0,false⟩:=rfl;unfold rn;rw[hN];generalize Ky:L++[(⟨((L.length+1:Nat):Int),table,weight,at_,0,0,false⟩:Rq)]=L2 at nO hlen ⊢;refine Cc (y6 H1 v L (hv.mono dF) (by omega)) ?_;clear hS;rintro _ post ⟨q1,rfl,pH,rfl⟩ w hS;(try simp only[app]at hS);refine Gp ?_
 refine zr (λhe=>?_) (λhe=>?_)
 ·rw[zzb λh=>by rw[pH.2 h.1]at he;cases he];exact⟨_,⟨H1,dF,rfl,rfl⟩,aI hS⟩
 skip
 refine Cc (y6 H1 v2 L2 nO (by omega)) ?_;clear hS;rintro _ post ⟨q2,rfl,jK,rfl⟩ w hS;(try simp only[app]at hS);refine Gp ?_
 refine zr (λxS=>?_) (λxS=>?_)
 ·rw[zzb λh=>by rw[jK.2 h.2]at xS;cases xS];exact⟨_,⟨H1,dF,rfl,rfl⟩,aI hS⟩
 rw[zzd ⟨pH.1 he,jK.1 xS⟩];exact⟨_,⟨H1,dF,rfl,v2,rfl,nO⟩,aI hS⟩
def XE{L:List Rq}{id:Int}(h:nu L id=true):∃j:Nat,∃hj:j<L.length,id=((j+1:Nat):Int)/\L[j].done=false:=by
 unfold nu at h;rw[zzk,zzo]at h
 obtain⟨⟨h1,h2⟩,h3⟩:=h;have hj:(id-1).toNat<L.length:=by omega
 rw[zzc hj]at h3
 exact⟨(id-1).toNat,hj,by omega,by simpa using h3⟩
def Rn{L:List Rq}{id c:Int}{dn:Bool}(h:nu L id=false):ly L id c dn=none:=by
 unfold ly;split
 ·rename_i hc;have hj:(id-1).toNat<L.length:=by omega
  unfold nu at h;rw[zzr hc.2,zzc hj]at h
  rw[zzc hj];simp only[uu1,Bool.not_eq_false']at h;simp only[h,true_or,vvj]
 rfl
def D6{L:List Rq}{rest:Ξ}{j i:Nat}(hj:j<L.length)(hi:i<7){v:Ε}{y:Rq}(hy:(ia L[j]).set i v=ia y):((L.map ia).flatten++rest).set (0+j*7+i) v=((L.set j y).map ia).flatten++rest:=by
 rw[zz2,wwe _ _ (by rw[nK oI];omega),Cq oI L j i hj y v hi hy]
def AS{L:List Rq}{rest:Ξ}{j i:Nat}(hj:j<L.length){u:Ε}(hu:(ia L[j])[i]?=some u):((L.map ia).flatten++rest)[0+j*7+i]?=some u:=by
 have h:=oL oI L j i L[j] u (zzc hj) hu;rw[zz2,zzs (zzf.1 h).1];exact h
def YQ(H:aX)(v:Ε)(L:List Rq)(id cN:Int)(dn:Bool)(hv:fX H v L)(hn:L.length<=1000)(hid : -9223372036854775808<=id/\id<=9223372036854775807):
  SP 285 [v,Γ id,Γ cN,.bool dn] [.mem H] (λu post=>Bh H u post (ly L id cN dn)):=by
 refine Enzz λW F w hS=>?_;apply aYf;delta aF aW bD ai aZ;have cU:∀{w:Ζ},ly L id cN dn=none->SL W (.mem H::F) w->∃post,Bh H (.tuple #[Θ,.bool false]) post (ly L id cN dn)/\SL W (app post F) w:=λe hS=>⟨_,⟨H,aX.le_refl H,rfl,by rw[e]⟩,hS⟩;refine Cg (qE H v L id hv hn hid) λw hS=>?_;refine Cc (y6 H v L hv (by omega)) ?_;clear hS;rintro _ post ⟨q1,rfl,pH,rfl⟩ w hS;(try simp only[app]at hS);refine Gp ?_
 refine zr (λhe=>cU (Rm λh=>by rw[pH.2 h.1]at he;cases he) (aI hS)) (λhe=>?_);have hM:=pH.1 he;refine Gp ?_;refine zr (λh=>cU (Rn h) (aI hS)) (λh1=>?_);obtain⟨j,hj,rfl,hd⟩:=XE h1;have ew:IntKind.i64.wrap (((j+1:Nat):Int)-1)=(j:Int):=by rw[O4 (by omega)];omega
 rw[ew];have xQ:=Rl hM hj cN dn;have br:=(hM.2 j hj).1;unfold sc at br;have hx:L[j]?=some L[j]:=zzc hj;refine ZL hS Xh oI hv hx hj (i:=4) rfl ?_;refine Gp ?_;refine za (λh=>cU (by rw[xQ,zzd (.inr (.inl h))]) (aI hS)) (λh4=>?_);refine Gp ?_;refine za (λh=>cU (by rw[xQ,zzd (.inr (.inr (.inl h)))]) (aI hS)) (λh5=>?_);refine ZL hS Xh oI hv hx hj (i:=5) rfl ?_;refine Gp ?_;refine za (λh=>cU (by rw[xQ,zzd (.inr (.inr (.inr h)))]) (aI hS)) (λh6=>?_);rw[xQ,zzb (by rw[hd];rintro (h|h|h|h);exact Bool.false_ne_true h;exact h4 h;exact h5 h;exact h6 h)];refine Cc (ym H v L hv hn) ?_;clear hS;rintro v1 post rfl w hS;(try simp only[app]at hS);rcases aY.open hS with ⟨_,h0,_⟩|⟨ob,cap,rest,rfl,hc,hl,ij,hS⟩
 ·omega
 refine zM hj (yR (ZN hS Xu (AS hj (i:=4) rfl) rfl ?_));clear hS;intro w hS;rw[D6 hj (by decide) (y:={L[j] with cN:=cN}) rfl]at hS
 have xZ:j<(L.set j {L[j] with cN:=cN}).length:=by rw[yyi];exact hj
 have e1:(L.set j {L[j] with cN:=cN})[j]={L[j] with cN:=cN}:=by simp
 refine zM hj (yR (ZN hS Xu (AS xZ (i:=6) (u:=.bool L[j].done) (by rw[e1];rfl)) rfl ?_));clear hS;intro w hS;rw[D6 xZ (by decide) (y:={L[j] with cN:=cN,done:=dn}) (by rw[e1];rfl),List.set_set]at hS
 have ku:j<(L.set j {L[j] with cN:=cN,done:=dn}).length:=by rw[yyi];exact hj
 have e2:(L.set j {L[j] with cN:=cN,done:=dn})[j]={L[j] with cN:=cN,done:=dn}:=by simp
 refine zM hj (yR (zT hS .hd (AS ku (i:=5) (u:=Γ L[j].chunks) (by rw[e2];rfl)) ?_));refine Gp ?_;refine zM hj (yR (ZN hS Xu (AS ku (i:=5) (u:=Γ L[j].chunks) (by rw[e2];rfl)) rfl ?_));clear hS;intro w hS;rw[D6 ku (by decide) (y:={L[j] with cN:=cN,chunks:=L[j].chunks+1,done:=dn}) (by rw[e2];rfl),List.set_set]at hS
 generalize Ky:L.set j {L[j] with cN:=cN,chunks:=L[j].chunks+1,done:=dn}=L2 at *
 have hlen:L2.length=L.length:=by rw[<- Ky,yyi]
 have hS:=aY.mk (n:=L2.length) (cap:=cap) (sz:=7) (rest:=rest) (by omega) (nK oI L2) (by rw[hlen];exact ij) hS;obtain⟨H1,dF,nO,hS⟩:=zW (H:=H) (v:=.slice (some ⟨ob,0,none⟩) L2.length cap) (n:=L2.length) (sz:=7) (t:=321) (cells:=(L2.map ia).flatten) hS Xp;exact⟨_,⟨H1,dF,rfl,_,rfl,by rw[<- hlen];exact nO⟩,aI hS⟩
structure rh where
 aR:Int
 ov:Ε
 nv:Ε
def kn(x:rh):Ξ:=[Γ x.aR,x.ov,x.nv]
abbrev Pg(H:aX)(v:Ε)(l:List fr):Prop:=bK H 5 v l.length (l.map kN).flatten
abbrev Pf(H:aX)(v:Ε)(l:List gD):Prop:=bK H 7 v l.length (l.map lY).flatten
structure jF(H:aX)(x:rh)(t:bV):Prop where
 aR:x.aR=t.aR
 ops:Pg H x.ov t.ops
 iC:Pf H x.nv t.notes
def jF.mono{H H':aX}(hh:H.le H'){x:rh}{t:bV}(h:jF H x t):jF H' x t:=⟨h.aR,h.ops.mono hh,h.iC.mono hh⟩
def Sm(n:gD):∀v∈lY n,v.oneCell'=true:=by simp[lY,Value.oneCell']
def B'(o:fr):(kN o).length=5:=rfl
def JX{H:aX}{x:rh}{t:bV}(h:jF H x t):∀v∈kn x,v.oneCell'=true:=by
 intro v hv;simp only[kn,zzv,yy8,vvf]at hv;rcases hv with rfl|rfl|rfl
 ·rfl
 ·exact h.ops.one
 exact h.iC.one
def mB(b:Φ):∀v∈b.map bo,v.oneCell'=true:=λv hv=>by
 obtain⟨x,_,rfl⟩:=zz1.1 hv;rfl
section
variable {W w:Ζ} {l:Β}
def Zb{F:Β}{a:Option Addr}{k cap:Nat}{cs:Ξ}{K:Ε->Ζ->Prop}(hS:SL W F w)(gb:∀w' c,SL W (c::F) w'->il w' 1 (.slice a k cap) k cs)(hl:cs.length=k)(h1:∀v∈cs,v.oneCell'=true)(hb:k<=140737488355328)
  (h:∀u w',SL W (.ob (aY u 5 1 k cs)::F) w'->(a.isSome=true->u≠Θ\/k=0)->K u w'):aw 215 [.slice a k cap] w K:=by
 apply aXd;delta aZ;refine N1 ?_;cases a with
 | none=>
  refine zt ?_;have hs:=gb _ _ (aY.nil (t:=5) (sz:=1) hS);obtain rfl:cs=[]:=hs.2;obtain rfl:k=0:=by simpa using hl.symm
  exact h _ _ (aY.nil hS) (λh=>by cases h)
 | some p=>
  refine zs ?_;refine zA hS rfl ?_;intro b w' eF;have lF:SL W (.ob (aY (.slice (some ⟨b,0,none⟩) 0 0) 5 1 0 [])::F) w':=aY.full rfl eF;refine zx lF .hd (gb _ _ lF) (by rw[hl];omega) rfl h1 (by omega) (by omega) ?_;intro u w2 s7;rw[zz2,zzp]at s7
  refine h u w2 s7 λ_=>?_;rcases yy7 k with hk|hk
  ·exact .inr hk
  refine .inl λe=>?_;subst e;rcases aY.open s7 with ⟨_,h2,_⟩|⟨b,cap,rest,h2,_⟩
  ·omega
  cases h2
def awg{v:Ε}{t:Ι}{sz n k:Nat}{kk:IntKind}{cells:Ξ}{K:Ε->Prop}(h:SL W l w)(m:Has (.ob (aY v t sz n cells)) l)(hk:k<=n)
  (hK:∀a cap,(∀w' l',SL W l' w'->Has (.ob (aY v t sz n cells)) l'->il w' sz (.slice a k cap) k (cells.take (k*sz)))->K (.slice a k cap)):dD sz v none (some (.int kk (k:Int))) none K:=by
 obtain⟨a,cap,rfl,hl,hx⟩:=aY.at h m;have vm:n<=cap:=by
  obtain⟨l2,r⟩:=m.rem;rcases aY.open (h.perm r.perm) with ⟨⟨a',e⟩,rfl,rfl,_⟩|⟨b,Jq,rest,e,hc,_⟩
  ·cases e;omega
  cases e;exact hc
 refine⟨a,n,cap,0,k,cap,rfl,rfl,⟨kk,rfl⟩,rfl,yye _,by omega,zzz _,?_⟩;rw[wwx,wwx];have e:(if cap=0 then a else a.map (·.add (0*sz)))=a:=by
  split
  ·rfl
  cases a<;>simp[Addr.add]
 rw[e];refine hK a cap λw' l' h' m'=>?_;have hs:=iG h' m';cases a with
 | none=>
  obtain⟨e1,e2⟩:=hs;subst e2;have e1:n=n:=e1;have hn:n*sz=0:=by simpa using hl.symm
  refine⟨rfl,by simp⟩
 | some p=>
  obtain⟨_,e2,e3⟩:=hs;refine⟨rfl,by rw[zzn,e2];exact vvg (yy4 _ hk),λj v e=>?_⟩;rw[List.getElem?_take]at e
  split at e
  ·exact e3 j v e
  cases e
end
def PE(X:Μ)(dp:Nat)(s:DS)(N:Nat)(br:s.Ok N)(dH:s.ops<=100000)(f:Int)(bv:Ε)(b:Φ)(hX:∀{W:Ζ} {l:Β} {w:Ζ},SL W l w->Has X l->il w 1 bv b.length (b.map bo))(hN:((cw PF.id s.R f).getD (tJ f)).b.length+b.length<=140737488355328):
  SP 213 [Δ dp,Γ f,bv] [.ob (bk dp s),X] (bj (Γ (s.append f b).2) [.ob (bk dp (s.append f b).1),X]):=by
 refine Enzz λW F w hS=>?_;apply aXb;delta aF bd cq ai bC aZ;obtain⟨mb,m,L,hr,hS⟩:=bk.iff.1 hS;refine Cg (Z8 dp mb s f) λw hS=>?_;unfold DS.append;refine za (λh=>?_) (λh=>?_)
 ·rw[zzd h];exact⟨_,⟨rfl,rfl⟩,bk.iff.2 ⟨mb,m,L,hr,aI hS⟩⟩
 rw[zzb h];have hm:may s f=0:=by omega
 obtain⟨h0,xT,CN⟩:=vV hm;refine Gp ?_;refine Ze hS Xh (mf .i64) wwr zz9 (λ_=>rfl) ?_;rw[hr.get f];have bcw:=br.len;cases hg:cw ez L f with
 | none=>
  simp only[vvd,ww8];refine ZK (zt ?_);refine yQ rfl ?_;refine⟨_,rfl,zD hS ?_⟩;clear hS;intro p w hS;refine Gp ?_;refine qc (key:=Value.int .i64) (val:=ff) (k:=f) (v:=p) hS Xu (mf .i64) wwr zz9 ?_;clear hS;intro _ w hS;refine Gp ?_;have hS:=aY.nil (t:=5) (sz:=1) hS;refine zx (n:=0) (m:=b.length) hS .hd (hX hS Xh) (by simp) rfl (mB b) (by omega) (by omega) ?_;clear hS;intro v w hS;rw[zz2,zzp]at hS
  have nX:=hS.ml .hd;refine Gn λw hS=>?_;refine Cg (yi dp mb s h0 br.oC br.oD dH) λw hS=>?_;have hS:=(dz.iff (x:=((⟨f,0,b⟩:PF),p))).2 ⟨v,SL.bA hS (t:=.pt p [v,Γ 0] 282::.ob (aY v 5 1 b.length (b.map bo))::.ob (ze dz L)::.pt dp (fZ mb s.cK) 174::.ob (cM (Value.int .i64) ff mb (eH m f p))::X::F) Xi⟩;have hS:=ze.snoc (SL.bA hS (t:=.ob (ze dz L)::.ob (dz ((⟨f,0,b⟩:PF),p))::.pt dp (fZ mb s.cK) 174::.ob (cM (Value.int .i64) ff mb (eH m f p))::X::F) Xi);have nV:=hr.new hg (y:=⟨f,0,b⟩) rfl p;have hS:=ze.perm hS (ys:=gL ez L (⟨f,0,b⟩,p)) (by
   have hi:gx ez L (ez ((⟨f,0,b⟩:PF),p))=false:=by rw[<- ve,show ez ((⟨f,0,b⟩:PF),p)=f from rfl,hg];rfl
   exact vvh.trans (NC hr.rel.2 hi).symm)
  have e:uE s.R f b=gL PF.id s.R ⟨f,0,b⟩:=by
   unfold uE;rw[hr.cP f,hg];rfl
  rw[e];exact⟨_,⟨rfl,rfl⟩,bk.iff.2 ⟨mb,_,_,nV,aI hS⟩⟩
 | some x=>
  obtain⟨g1,g2,g3⟩:=pz hg;have hS:=ze.take (SL.bA hS (t:=.ob (ze dz L)::.pt dp (fZ mb s) 174::.ob (cM (Value.int .i64) ff mb m)::X::F) Xi) g1;obtain⟨v0,hS⟩:=dz.iff.1 hS;simp only[yyn,xx9];unfold ff;refine ZK (zs ?_);refine Gp ?_;have LD:x.1.b.length+b.length<=140737488355328:=by rw[hr.cP f,hg]at hN;exact hN
  refine zx (n:=x.1.b.length) (m:=b.length) hS Xr (hX hS Xh) (by simp) rfl (mB b) (by omega) (by omega) ?_;clear hS;intro v w hS;have nX:=hS.ml .hd;refine Gn λw hS=>?_;refine Cg (yi dp mb s h0 br.oC br.oD dH) λw hS=>?_;have e1:x.1.b.map bo++b.map bo=(x.1.b++b).map bo:=by rw[zzx]
  have e2:x.1.b.length+b.length=(x.1.b++b).length:=by rw[zza]
  rw[e1,e2]at hS
  have hS:=(dz.iff (x:=((⟨f,x.1.safe,x.1.b++b⟩:PF),x.2))).2 ⟨v,SL.bA hS (t:=.pt x.2 [v,Γ x.1.safe] 282::.ob (aY v 5 1 (x.1.b++b).length ((x.1.b++b).map bo))::.ob (ze dz (L.eraseIdx (dA ez L f)))::.pt dp (fZ mb s.cK) 174::.ob (cM (Value.int .i64) ff mb m)::X::F) Xi⟩;have hS:=ze.put hS g2;have e:uE s.R f b=gL PF.id s.R ⟨f,x.1.safe,x.1.b++b⟩:=by
   unfold uE;rw[hr.cP f,hg];rfl
  rw[e];exact⟨_,⟨rfl,rfl⟩,bk.iff.2 ⟨mb,_,_,hr.set hg (y:=⟨f,x.1.safe,x.1.b++b⟩) rfl,aI hS⟩⟩
def PD(X:Μ)(dp:Nat)(s:DS)(N:Nat)(br:s.Ok N)(dH:s.ops<=100000)(f:Int)(bv:Ε)(b:Φ)(hX:∀{W:Ζ} {l:Β} {w:Ζ},SL W l w->Has X l->il w 1 bv b.length (b.map bo))(hN:N+b.length<=140737488355328):
  SP 213 [Δ dp,Γ f,bv] [.ob (bk dp s),X] (bj (Γ (s.append f b).2) [.ob (bk dp (s.append f b).1),X]):=
 PE X dp s N br dH f bv b hX (by have:=Ki (f:=f) br.len;omega)
def Cn{s:DS}{m:List (Int × Nat)}{L:List EF}(hr:jd m L s.R)(f:Int):
  (s.find f≠0/\uZ s m f= .tuple #[.pointer none,Γ (s.find f)])\/(s.find f=0/\may s f=0/\∃x,cw ez L f=some x/\uZ s m f= .tuple #[ff x.2,Γ 0]):=by
 unfold DS.find uZ;by_cases h:may s f=0
 ·have h':¬may s f≠0:=λe=>e h;rw[zzb h',zzb h',hr.get f];have hi:gx PF.id s.R f=(cw ez L f).isSome:=by rw[<- ve,hr.cP f,Option.isSome_map]
  rw[hi];cases hg:cw ez L f with
  | none=>exact .inl ⟨by simp,by simp⟩
  | some x=>exact .inr ⟨by simp,h,x,rfl,rfl⟩
 rw[zzd h,zzd h];exact .inl ⟨h,rfl⟩
def sX{W w:Ζ}{L:List EF}{f:Int}{x:EF}{l:Β}(hg:cw ez L f=some x)(hS:SL W (.ob (ze dz L)::l) w):SL W (.ob (dz x)::.ob (ze dz (L.eraseIdx (dA ez L f)))::l) w:=ze.take hS (pz hg).1
def Ck{W w:Ζ}{L:List EF}{f:Int}{x y:EF}{l:Β}(hg:cw ez L f=some x)(hS:SL W (.ob (dz y)::.ob (ze dz (L.eraseIdx (dA ez L f)))::l) w):SL W (.ob (ze dz (L.set (dA ez L f) y))::l) w:=ze.put hS (pz hg).2.1
def Cl{W w:Ζ}{L:List EF}{f:Int}{x:EF}{l:Β}(hg:cw ez L f=some x)(hS:SL W (.ob (dz x)::.ob (ze dz (L.eraseIdx (dA ez L f)))::l) w):SL W (.ob (ze dz L)::l) w:=by
 have h:=Ck hg hS;have e:L.set (dA ez L f) x=L:=by
  obtain⟨h1,h2⟩:=zzf.1 (pz hg).1;rw[<- h2];simp
 rwa [e]at h
def OS{R:List PF}{f:Int}{x:PF}(h:cw PF.id R f=some x)(g:PF->PF):lU R f g=gL PF.id R {g x with id:=f}:=by
 unfold lU;rw[h]
def qW(dp:Nat)(s:DS)(N:Nat)(br:s.Ok N)(dH:s.ops<=100000)(f:Int):
  SP 214 [Δ dp,Γ f] [.ob (bk dp s)] (bj (Γ (s.sync f).2) [.ob (bk dp (s.sync f).1)]):=by
 refine Enzz λW F w hS=>?_;apply aXc;delta aF bd cq ai;obtain⟨mb,m,L,hr,hS⟩:=bk.iff.1 hS;refine Cc (y1 dp mb s m f) ?_;clear hS;rintro v post ⟨rfl,rfl⟩ w hS;try simp only[app]at hS
 unfold DS.sync;rcases Cn hr f with ⟨h1,e⟩|⟨h1,h2,x,hg,e⟩
 ·rw[e,zzd h1];refine Gp ?_;refine za (λh=>absurd h h1) (λ_=>?_);refine Gp ?_;refine za (λh=>absurd h h1) (λ_=>?_);exact⟨_,⟨rfl,rfl⟩,bk.iff.2 ⟨mb,m,L,hr,aI hS⟩⟩
 obtain⟨h0,xT,CN⟩:=vV h2;rw[e,zzb (λh=>h h1)];unfold ff;refine Gp ?_;refine Υ ?_;refine Cg (yi dp mb s h0 br.oC br.oD dH) λw hS=>?_;by_cases hc:s.cK.off=true
 ·have he:s.cK.err=8:=by unfold DS.err;rw[zzd hc]
  rw[he,zzd hc];refine Χ ?_;exact⟨_,⟨rfl,rfl⟩,bk.iff.2 ⟨mb,m,L,hr,aI hS⟩⟩
 have he:s.cK.err=0:=by unfold DS.err;rw[zzb hc]
 rw[he,zzb hc];refine Υ ?_;have hS:=sX hg (SL.bA hS (t:=.ob (ze dz L)::.pt dp (fZ mb s.cK) 174::.ob (cM (Value.int .i64) ff mb m)::F) Xi);obtain⟨v0,hS⟩:=dz.iff.1 hS;refine Gp ?_;refine zB hS (t:=5) (sz:=1) (n:=x.1.b.length) (cells:=x.1.b.map bo) Xh ?_;refine Gn λw hS=>?_;have hS:=Ck hg ((dz.iff (x:=((⟨f,x.1.b.length,x.1.b⟩:PF),x.2))).2 ⟨v0,SL.bA hS (t:=.pt x.2 [v0,Γ (x.1.b.length:Int)] 282::.ob (aY v0 5 1 x.1.b.length (x.1.b.map bo))::.ob (ze dz (L.eraseIdx (dA ez L f)))::.pt dp (fZ mb s.cK) 174::.ob (cM (Value.int .i64) ff mb m)::F) Xi⟩);have eR:=OS (f:=f) (x:=x.1) (by rw[hr.cP f,hg];rfl) λx=>{x with safe:=x.b.length};rw[eR];exact⟨_,⟨rfl,rfl⟩,bk.iff.2 ⟨mb,_,_,hr.set hg (y:=⟨f,x.1.b.length,x.1.b⟩) rfl,aI hS⟩⟩
def Qr(x:EF)(n:Nat)(hn:n<=x.1.b.length)(hb:n<=140737488355328):SP 186 [ff x.2,Γ (n:Int)] [.ob (dz x)] (bj (.tuple #[]) [.ob (dz (km n x.1,x.2))]):=by
 refine Enzz λW F w hS=>?_;apply aWm;delta bd cq;obtain⟨v0,hS⟩:=dz.iff.1 hS;unfold ff;refine Gp ?_;refine awg hS (t:=5) (sz:=1) (n:=x.1.b.length) (cells:=x.1.b.map bo) Xh hn ?_;intro a cap gb;refine Zb (cs:=(x.1.b.map bo).take (n*1)) hS (λw' c eF=>gb w' _ eF (.tl Xh)) (by simp;omega) (λv hv=>mB _ v (xxi hv)) (by omega) ?_;clear hS;intro u w hS _;have nX:=hS.ml .hd;refine Gn λw hS=>?_;have e1:(x.1.b.map bo).take (n*1)=(km n x.1).b.map bo:=by rw[wwl,<- List.map_take];rfl
 have e2:(km n x.1).b.length=n:=by simp only[km,zzn];omega
 have e3:min (x.1.safe:Int) (n:Int)=(((km n x.1).safe:Nat):Int):=by simp only[km];omega
 rw[e1,e3]at hS
 refine⟨_,⟨rfl,rfl⟩,dz.iff.2 ⟨u,?_⟩⟩;rw[e2];exact aI hS
def VH{s:DS}{m:List (Int × Nat)}{L:List EF}(hr:jd m L s.R){f:Int}{x:EF}(hg:cw ez L f=some x):mg s.R f=x.1.b.length:=by
 unfold mg;rw[hr.cP f,hg];rfl
def Z2(dp:Nat)(s:DS)(N:Nat)(br:s.Ok N)(hN:N<=140737488355328)(dH:s.ops<=100000)(f n:Int):
  SP 252 [Δ dp,Γ f,Γ n] [.ob (bk dp s)] (bj (Γ (s.cut f n).2) [.ob (bk dp (s.cut f n).1)]):=by
 refine Enzz λW F w hS=>?_;apply aXq;delta aF bd ai;obtain⟨mb,m,L,hr,hS⟩:=bk.iff.1 hS;refine Cc (y1 dp mb s m f) ?_;clear hS;rintro v post ⟨rfl,rfl⟩ w hS;try simp only[app]at hS
 unfold DS.cut;rcases Cn hr f with ⟨h1,e⟩|⟨h1,h2,x,hg,e⟩
 ·rw[e,zzd h1];refine Gp ?_;refine⟨λus w=>us=[Γ (s.find f)]/\SL W (.pt dp (fZ mb s) 174::.ob (cM (Value.int .i64) ff mb m)::.ob (ze dz L)::F) w,?_,?_⟩
  ·refine Gp ?_;refine za (λh=>absurd h h1) (λ_=>?_);exact⟨rfl,aI hS⟩
  clear hS;rintro v8 w ⟨bM,hS⟩;cases bM;refine Gp ?_;refine za (λh=>absurd h h1) (λ_=>?_);refine Gp ?_;refine za (λh=>absurd h h1) (λ_=>?_);exact⟨_,⟨rfl,rfl⟩,bk.iff.2 ⟨mb,m,L,hr,aI hS⟩⟩
 obtain⟨h0,xT,CN⟩:=vV h2;rw[e,zzb (λh=>h h1)];unfold ff;refine Gp ?_;rw[VH hr hg];have LD:x.1.b.length<=N:=br.len _ (by rw[<- hr.eq];exact zz1.2 ⟨x,xxz (pz hg).1,rfl⟩);refine⟨λus w=>us=[Γ (if n<0\/(x.1.b.length:Int)<n then 1 else 0)]/\SL W (.pt dp (fZ mb s) 174::.ob (cM (Value.int .i64) ff mb m)::.ob (ze dz L)::F) w,?_,?_⟩
 ·refine Gp ?_;refine Υ ?_;refine bw (λh=>?_) (λh=>?_)
  ·rw[zzd (.inl h)];exact⟨rfl,aI hS⟩
  have hS:=sX hg (SL.bA hS (t:=.ob (ze dz L)::.pt dp (fZ mb s) 174::.ob (cM (Value.int .i64) ff mb m)::F) Xi);obtain⟨v0,hS⟩:=dz.iff.1 hS;refine Gp ?_;refine zB hS (t:=5) (sz:=1) (n:=x.1.b.length) (cells:=x.1.b.map bo) Xh ?_;refine Gp ?_;have hS:=Cl hg (dz.iff.2 ⟨v0,hS⟩);refine za (λh3=>?_) (λh3=>?_)
  ·rw[zzd (.inr h3)];exact⟨rfl,aI hS⟩
  rw[zzb (by omega)];exact⟨rfl,aI hS⟩
 clear hS;rintro v8 w ⟨bM,hS⟩;cases bM;refine Gp ?_;by_cases hn:n<0\/(x.1.b.length:Int)<n
 ·rw[zzd hn,zzd hn];refine Χ ?_;refine Gp ?_;refine Χ ?_;exact⟨_,⟨rfl,rfl⟩,bk.iff.2 ⟨mb,m,L,hr,aI hS⟩⟩
 rw[zzb hn,zzb hn];refine Υ ?_;refine Cg (yi dp mb s h0 br.oC br.oD dH) λw hS=>?_;by_cases hc:s.cK.off=true
 ·have he:s.cK.err=8:=by unfold DS.err;rw[zzd hc]
  rw[he,zzd hc];refine Χ ?_;exact⟨_,⟨rfl,rfl⟩,bk.iff.2 ⟨mb,m,L,hr,aI hS⟩⟩
 have he:s.cK.err=0:=by unfold DS.err;rw[zzb hc]
 rw[he,zzb hc];refine Υ ?_;have hS:=sX hg (SL.bA hS (t:=.ob (ze dz L)::.pt dp (fZ mb s.cK) 174::.ob (cM (Value.int .i64) ff mb m)::F) Xi);obtain⟨k,rfl⟩:∃k:Nat,n=(k:Int):=⟨n.toNat,by omega⟩;have hC:=Qr x k (by omega) (by omega);unfold ff at hC;refine Cg (hC) λw hS=>?_;have hS:=Ck hg (y:=({km k x.1 with id:=f},x.2)) (SL.bA hS (t:=.ob (dz ({km k x.1 with id:=f},x.2))::.ob (ze dz (L.eraseIdx (dA ez L f)))::.pt dp (fZ mb s.cK) 174::.ob (cM (Value.int .i64) ff mb m)::F) (by
  have:(km k x.1,x.2)=(({km k x.1 with id:=f}:PF),x.2):=by
   have:=(pz hg).2.2;unfold ez at this;rw[<- this];rfl
  rw[this];exact Xi))
 have eR:=OS (f:=f) (x:=x.1) (by rw[hr.cP f,hg];rfl) (km (k:Int).toNat);rw[eR,zzy];exact⟨_,⟨rfl,rfl⟩,bk.iff.2 ⟨mb,_,_,hr.set hg (y:={km k x.1 with id:=f}) rfl,aI hS⟩⟩
def y9(dp:Nat)(s:DS)(N:Nat)(br:s.Ok N)(dH:s.ops<=100000)(f:Int):
  SP 253 [Δ dp,Γ f] [.ob (bk dp s)] (bj (Γ (s.remove f).2) [.ob (bk dp (s.remove f).1)]):=by
 refine Enzz λW F w hS=>?_;apply aXr;delta aF bd ai;obtain⟨mb,m,L,hr,hS⟩:=bk.iff.1 hS;refine Cc (y1 dp mb s m f) ?_;clear hS;rintro v post ⟨rfl,rfl⟩ w hS;try simp only[app]at hS
 unfold DS.remove;rcases Cn hr f with ⟨h1,e⟩|⟨h1,h2,x,hg,e⟩
 ·rw[e,zzd h1];refine Gp ?_;refine za (λh=>absurd h h1) (λ_=>?_);refine Gp ?_;refine za (λh=>absurd h h1) (λ_=>?_);exact⟨_,⟨rfl,rfl⟩,bk.iff.2 ⟨mb,m,L,hr,aI hS⟩⟩
 obtain⟨h0,xT,CN⟩:=vV h2;rw[e,zzb (λh=>h h1)];unfold ff;refine Gp ?_;refine Υ ?_;refine Cg (yi dp mb s h0 br.oC br.oD dH) λw hS=>?_;by_cases hc:s.cK.off=true
 ·have he:s.cK.err=8:=by unfold DS.err;rw[zzd hc]
  rw[he,zzd hc];refine Χ ?_;exact⟨_,⟨rfl,rfl⟩,bk.iff.2 ⟨mb,m,L,hr,aI hS⟩⟩
 have he:s.cK.err=0:=by unfold DS.err;rw[zzb hc]
 rw[he,zzb hc];refine Υ ?_;refine Gp ?_;refine ai4 (key:=Value.int .i64) (val:=ff) (k:=f) hS Xu (mf .i64) wwr zz9 ?_;clear hS;intro _ w hS;have hS:=sX hg (SL.bA hS (t:=.ob (ze dz L)::.pt dp (fZ mb s.cK) 174::.ob (cM (Value.int .i64) ff mb (mi m f))::F) Xi);have eL:jj ez L f=L.eraseIdx (dA ez L f):=by
  unfold jj;rw[zzd (by rw[<- ve,hg];rfl)]
 have hd:=hr.del f;rw[eL]at hd
 exact⟨_,⟨rfl,rfl⟩,bk.iff.2 ⟨mb,_,_,hd,aI hS⟩⟩
def uv(dp:Nat)(s:DS)(f:Int)(v:Ε)(post:Β):Prop:=match cw PF.id s.R f with
 | none=>v= .tuple #[Θ,.bool false]/\post=[.ob (bk dp s)]
 | some x=>∃u,v= .tuple #[u,.bool true]/\post=[.ob (bk dp s),.ob (aY u 5 1 x.b.length (x.b.map bo))]
def ZI(dp:Nat)(s:DS)(N:Nat)(br:s.Ok N)(hN:N<=140737488355328)(f:Int):
  SP 262 [Δ dp,Γ f] [.ob (bk dp s)] (uv dp s f):=by
 refine Enzz λW F w hS=>?_;apply aXu;delta bd bC aZ;obtain⟨mb,m,L,hr,hS⟩:=bk.iff.1 hS;refine Gp ?_;refine Ze hS Xh (mf .i64) wwr zz9 (λ_=>rfl) ?_;rw[hr.get f];cases hg:cw ez L f with
 | none=>
  simp only[vvd,ww8];refine ZK (zt ?_);exact⟨[.ob (bk dp s)],by unfold uv;rw[hr.cP f,hg];exact⟨rfl,rfl⟩,bk.iff.2 ⟨mb,m,L,hr,aI hS⟩⟩
 | some x=>
  simp only[yyn,xx9];unfold ff;refine ZK (zs ?_);have LD:x.1.b.length<=N:=br.len _ (by rw[<- hr.eq];exact zz1.2 ⟨x,xxz (pz hg).1,rfl⟩);have hS:=sX hg (SL.bA hS (t:=.ob (ze dz L)::.pt dp (fZ mb s) 174::.ob (cM (Value.int .i64) ff mb m)::F) Xi);obtain⟨v0,hS⟩:=dz.iff.1 hS;refine Gp ?_;obtain⟨a,cap,rfl,hl,_⟩:=aY.at hS (t:=5) (sz:=1) (n:=x.1.b.length) (cells:=x.1.b.map bo) Xh;refine Zb (cs:=x.1.b.map bo) hS (λw' c eF=>iG eF (.tl Xh)) (by simp) (mB _) (by omega) ?_;clear hS;intro u w hS _;have hS:=Cl hg ((dz.iff (x:=x)).2 ⟨_,SL.bA hS (t:=.pt x.2 [.slice a x.1.b.length cap,Γ x.1.safe] 282::.ob (aY (.slice a x.1.b.length cap) 5 1 x.1.b.length (x.1.b.map bo))::.ob (ze dz (L.eraseIdx (dA ez L f)))::.ob (aY u 5 1 x.1.b.length (x.1.b.map bo))::.pt dp (fZ mb s) 174::.ob (cM (Value.int .i64) ff mb m)::F) Xi⟩);exact⟨[.ob (bk dp s),.ob (aY u 5 1 x.1.b.length (x.1.b.map bo))],by unfold uv;rw[hr.cP f,hg];exact⟨u,rfl,rfl⟩,bk.iff.2 ⟨mb,m,L,hr,aI hS⟩⟩
def QD(dp:Nat)(s:DS)(f:Int):
  SP 251 [Δ dp,Γ f] [.ob (bk dp s)] (bj (Γ (mg s.R f)) [.ob (bk dp s)]):=by
 refine Enzz λW F w hS=>?_;apply aXp;delta bd ai bC;obtain⟨mb,m,L,hr,hS⟩:=bk.iff.1 hS;unfold mg;rw[hr.cP f];refine Gp ?_;refine Ze hS Xh (mf .i64) wwr zz9 (λ_=>rfl) ?_;rw[hr.get f];cases hg:cw ez L f with
 | none=>
  simp only[vvd,ww8];refine Ea (zs ?_);exact⟨_,⟨rfl,rfl⟩,bk.iff.2 ⟨mb,m,L,hr,aI hS⟩⟩
 | some x=>
  simp only[yyn,xx9];unfold ff;refine Ea (zt ?_);have hS:=sX hg (SL.bA hS (t:=.ob (ze dz L)::.pt dp (fZ mb s) 174::.ob (cM (Value.int .i64) ff mb m)::F) Xi);obtain⟨v0,hS⟩:=dz.iff.1 hS;refine Gp ?_;refine zB hS (t:=5) (sz:=1) (n:=x.1.b.length) (cells:=x.1.b.map bo) Xh ?_;have hS:=Cl hg ((dz.iff (x:=x)).2 ⟨_,hS⟩);exact⟨_,⟨rfl,rfl⟩,bk.iff.2 ⟨mb,m,L,hr,aI hS⟩⟩
def wf_i64{n:Int}(h : -9223372036854775808<=n/\n<=9223372036854775807):(Lit.int .i64 n).wf=true:=by
 simpa [Lit.wf,IntKind.min,IntKind.max,IntKind.signed,IntKind.bits] using h
def YK(dp:Nat)(s:DS)(N:Nat)(br:s.Ok N)(hR:s.R.length<=100000):
  SP 185 [Δ dp] [.ob (bk dp s)] (λv post=>post=[.ob (bk dp s),.ob (aY v 3 1 s.R.length (s.R.map λx=>Γ x.id))]):=by
 refine Enzz λW F w hS=>?_;apply aWl;delta bd;obtain⟨mb,m,L,hr,hS⟩:=bk.iff.1 hS;refine Gp ?_;have nf:m.length=s.R.length:=by rw[hr.rel.len,hr.len]
 refine ai0 hS Xh (by omega) (λp hp=>?_) ?_
 ·obtain⟨x,hx,rfl⟩:=zz1.1 (hr.rel.1.subset hp);have:=br.ids x.1 (by rw[<- hr.eq];exact zz1.2 ⟨x,hx,rfl⟩);exact wf_i64 (by show -9223372036854775808<=ez x/\_;unfold ez;omega)
 clear hS;intro v w hS;have e:(p5 m).map (Value.int .i64)=s.R.map λx=>Γ x.id:=by
  rw[hr.rel.p5,<- hr.eq,xxj,xxj];rfl
 rw[e,nf]at hS
 exact⟨_,rfl,bk.iff.2 ⟨mb,m,L,hr,aI hS⟩⟩
def yc(dp:Nat)(s:DS):
  SP 81 [Δ dp] [.ob (bk dp s)] (bj (.bool s.off) [.ob (bk dp s)]):=by
 refine Enzz λW F w hS=>?_;apply a_0;delta bd;obtain⟨mb,m,L,hr,hS⟩:=bk.iff.1 hS;refine Gp ?_;exact⟨_,⟨rfl,rfl⟩,bk.iff.2 ⟨mb,m,L,hr,aI hS⟩⟩

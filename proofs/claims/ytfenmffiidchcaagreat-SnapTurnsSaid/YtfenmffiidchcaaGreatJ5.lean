/-
  Texts of the proof, joined: Sl7, RecS2, RecS3.
-/
import Derived.Test.YtfenmffiidchcaaGreatJ4
import Derived.Lib.SliceRun
namespace Go.Proofs.YtfenmffiidchcaaGreat
set_option linter.unusedVariables false
open Go.RowKit
theorem b7d{z:List Value}{n i:Nat}(h:i<n*z.length):(db z n)[i]?=z[i % z.length]?:=by
 induction n generalizing i with
 | zero=>omega
 | succ n ih=>
  have e:db z (n+1)=z++db z n:=by simp[db,List.replicate_succ]
  rw[e]
  rw[Nat.add_mul]at h
  by_cases hi:i<z.length
  ·rw[List.getElem?_append_left hi,Nat.mod_eq_of_lt hi]
  ·rw[List.getElem?_append_right (by omega),ih (by omega)]
   congr 1
   conv=>rhs;rw[show i=(i-z.length)+z.length by omega]
   rw[Nat.add_mod_right]
theorem Ms(A B z rest:List Value)(h:B.length=z.length):(A++(B++rest)).take A.length++z++(A++(B++rest)).drop (A.length+z.length)=A++(z++rest):=by
 rw[List.take_left,List.drop_length_add_append,<- h,List.drop_left,List.append_assoc]
theorem Hp(zv:Array Value)(z:List Value)(hz:zv.toList=z)(n:Nat):(Builtin.zeroCells zv n).toList=db z n:=by
 subst hz
 refine List.ext_getElem? λi=>?_
 by_cases hi:i<n*zv.size
 ·have h0:0<zv.size:=by
   rcases Nat.eq_zero_or_pos zv.size with h|h
   ·rw[h]at hi;omega
   ·exact h
  rw[b7d (by simpa using hi)]
  have hm:i % zv.size<zv.size:=Nat.mod_lt _ h0
  simp[Builtin.zeroCells,hi,hm,getElem!_pos]
 ·have h1:(Builtin.zeroCells zv n).toList.length<=i:=by simp[Builtin.zeroCells];omega
  have h2:(db zv.toList n).length<=i:=by rw[ku];simp;omega
  rw[List.getElem?_eq_none h1,List.getElem?_eq_none h2]
section
variable {W w:World} {l l':List Chunk} {P:Program}
theorem SL.SD{b:Nat}{t:TypeId}:∀(vs:List Value) (o:Nat) (cs:List Value) (w:World) (l l':List Chunk),SL W l w->gh (.pt b cs t) (.pt b (nM cs o vs) t) l l'->o+vs.length<=cs.length->SL W l' (w.setCells b o vs)
 | [],o,cs,w,l,l',hS,u,hl=>by
  simp only[nM]at u
  have:l=l':=by
   clear hS
   generalize hc:Chunk.pt b cs t=c at u
   revert hc
   induction u with
   | hd=>intro;rfl
   | tl _ ih=>intro hc;rw[ih hc]
  rw[<- this];exact hS
 | v::r,o,cs,w,l,l',hS,u,hl=>by
  simp only[List.length_cons]at hl
  have hc:cs[o]?=some (cs[o]'(by omega)):=List.getElem?_eq_getElem (by omega)
  obtain⟨l2,p,q⟩:=u.other (.pt b (cs.set o v) t)
  rw[World.setCells]
  exact SL.SD r (o+1) _ _ l2 l' (hS.store p hc) (by simpa [nM] using q) (by simp;omega)
theorem SL.SE{b o:Nat}{t:TypeId}{cs vs:List Value}(hS:SL W l w)(u:gh (.pt b cs t) (.pt b (cs.take o++vs++cs.drop (o+vs.length)) t) l l')(hl:o+vs.length<=cs.length):SL W l' (w.setCells b o vs):=
 SL.SD vs o cs w l l' hS (by rw[wu _ _ _ hl];exact u) hl
theorem Qy{b o n c:Nat}{cs z:List Value}{tt t e ty:TypeId}{zv:Value}{K:Value->World->Prop}(hS:SL W l w)(u:gh (.pt b cs tt) (.pt b (cs.take o++db z n++cs.drop (o+n*z.length)) tt) l l')
  (ht:P.underlying t=some (.slice e)) (hv:∀w,(zeroValue e).run P w= .ok zv w) (hz:zv.cells.toList=z) (h1:∀v∈z,v.oneCell'=true) (hn:0<n) (ho:o+n*z.length<=cs.length)
  (h:∀u w',SL W l' w'->K u w'):zZ P (Builtin.clear_ #[t] ty #[.slice (some ⟨b,o,none⟩) n c]) w K:=by
 have FP:=Hp zv.cells z hz n
 have hlen:(db z n).length=n*z.length:=ku _ _
 have fD:∀j,j<n*z.length->∃v,cs[o+j]?=some v:=λj hj=>⟨_,List.getElem?_eq_getElem (by omega)⟩
 have gK:=run_storeCells_cells (P:=P) b o (db z n) 0 w (λj hj=>by obtain⟨v,hv⟩:=fD j (by omega);rw[Nat.add_zero,hS.cell u.has hv];rfl) (λj hj=>by obtain⟨v,hv⟩:=fD j (by omega);rw[Nat.add_zero];exact hS.frozen u.has hv)
  (by
   intro v mC
   obtain⟨l0,x8,O9⟩:=List.mem_flatten.1 mC
   rw[List.eq_of_mem_replicate x8]at O9
   exact h1 v O9)
 simp only[Nat.add_zero]at gK
 obtain⟨m,rfl⟩:∃m,n=m+1:=⟨n-1,by omega⟩
 refine⟨_,_,by simp[Builtin.clear_,run_underlying ht,hv,FP,gK];exact⟨rfl,rfl⟩,h _ _ (SL.SE hS (by rw[hlen];exact u) (by rw[hlen];exact ho))⟩
theorem Sb{b o sz n j:Nat}{k:IntKind}{K:Value->Prop}(hj:j<n)(h:K (.pointer (some ⟨b,o+j*sz,none⟩))):YU sz n (.pointer (some ⟨b,o,none⟩)) (.int k (j:Int)) K:=
 ⟨_,k,j,rfl,rfl,hj,by rw[Addr.add_lit];exact h⟩
def LG(P:Program)(sz iC:Nat)(z:List Value)(et st:TypeId)(v0:Value)(v1:Value)(v2:Value)(w:World)(R:Value->World->Prop):Prop:=
 zd v0 λlu=>
 eG sz v0 (some v1) (some v2) (some lu) λtG=>
 zc .eql v1 v2 λwK=>
 dO wK
 (R v0 w)
 (zd v0 λHc=>
 zi w λsu=>
 eG sz v0 none (some v1) none λv22=>
 eG sz v0 (some v2) none none λv25=>
 zt sz iC z et v22 v25 su λv26 u6=>
 zd v26 λv29=>
 eG sz v26 (some v29) (some Hc) none λS3=>
 zZ P (Builtin.clear_ #[st] 0 [S3].toArray) u6 λu AY=>
 R v26 AY)
theorem MK{f:FuncId}{sz iC:Nat}{z:List Value}{et st:TypeId}{zv:Value}(vc:∀v0 v1 v2 w R,LG P sz iC z et st v0 v1 v2 w R->zU P f [v0,v1,v2] w R)
  (ht:P.underlying st=some (.slice et)) (hv:∀w,(zeroValue et).run P w= .ok zv w) (hz:zv.cells.toList=z) (Ar:z.length=sz) (h1:∀v∈z,v.oneCell'=true)
  (v:Value) (n i:Nat) (cells:List Value) (hi:i<n) (fW:∀v∈cells,v.oneCell'=true) (hb:n*iC<=140737488355328) (hn:n<=140737488355328) :
  Spec P f [v,.int .i64 (i:Int),.int .i64 ((i+1:Nat):Int)] [.ob (a7 v et sz n cells)] (λu post=>post=[.ob (a7 u et sz (n-1) (cells.take (i*sz)++cells.drop ((i+1)*sz)))]):=by
 intro W F w hS;apply vc;unfold LG;(try simp only[app]at hS)
 rcases a7.open hS with ⟨⟨a,rfl⟩,rfl,rfl,_⟩|⟨b,cap,rest,rfl,sX,hlen,jW,hS⟩
 ·omega
 have b87:(i+1)*sz<=n*sz:=Nat.mul_le_mul_right _ (by omega)
 have b86:(i+1)*sz=i*sz+sz:=by rw[Nat.add_mul,Nat.one_mul]
 refine yk ?_
 refine⟨_,n,cap,i,i+1,n,rfl,⟨_,rfl⟩,⟨_,rfl⟩,⟨_,rfl⟩,by omega,by omega,by omega,?_⟩
 refine Gp ?_
 refine za (λh=>by omega) (λ_=>?_)
 refine Gn λw hS=>?_
 refine⟨_,n,cap,0,i,cap,rfl,rfl,⟨_,rfl⟩,rfl,by omega,by omega,by omega,?_⟩
 rw[if_neg (show ¬cap=0 by omega)]
 refine⟨_,n,cap,i+1,n,cap,rfl,rfl,rfl,⟨_,rfl⟩,by omega,by omega,by omega,?_⟩
 simp only[Option.map_some,Addr.add_lit,Nat.zero_mul,Nat.add_zero,Nat.sub_zero]
 have p7:(cells.drop ((i+1)*sz)).length=(n-(i+1))*sz:=by rw[List.length_drop,hlen,Nat.mul_sub_right_distrib]
 have r7:i*sz+((n-(i+1))*sz)=(n-1)*sz:=by rw[<- Nat.add_mul];congr 1;omega
 have b85:(n-1)*sz+sz=n*sz:=by rw[show n*sz=(n-1+1)*sz by congr 1;omega,Nat.add_mul,Nat.one_mul]
 refine⟨some ⟨b,0,none⟩,i,cap,n-(i+1),cells.drop ((i+1)*sz),rfl,?_,?_,by omega,λnE=>?_,λh=>by omega⟩
 ·have WI:∀a:Option Addr,(n-(i+1)=0\/a=some ⟨b,0+(i+1)*sz,none⟩)->jy w sz (.slice a (n-(i+1)) (cap-(i+1))) (n-(i+1)) (cells.drop ((i+1)*sz)):=by
   intro a ha
   rcases ha with h0|rfl
   ·rw[h0]at p7 ⊢
    have:cells.drop ((i+1)*sz)=[]:=List.eq_nil_of_length_eq_zero (by simpa using p7)
    rw[this]
    cases a with
    | none=>exact⟨rfl,rfl⟩
    | some p=>exact⟨rfl,by simp,λj v e=>by simp at e⟩
   ·refine Sz hS (Has.hd) p7 λj u hu=>?_
    rw[List.getElem?_drop]at hu
    rw[Nat.zero_add,List.getElem?_append_left (List.getElem?_eq_some_iff.1 hu).1];exact hu
  refine WI _ ?_
  by_cases V_:cap=i+1
  ·left;omega
  ·right;rw[if_neg V_]
 ·exact Nat.le_trans (Nat.mul_le_mul_right _ (by omega)) hb
 ·show rm (Addr.add ⟨b,0,none⟩ (i*sz)) 0 _ w _
  rw[Addr.add_lit,Nat.zero_add]
  have b8c:i*sz+(cells.drop ((i+1)*sz)).length<=(cells++rest).length:=by rw[List.length_append,p7,r7,hlen];omega
  refine wF (t:=et) (cells.drop ((i+1)*sz)) (i*sz) 0 (cells++rest) w _ (.pt b (cells.take (i*sz)++cells.drop ((i+1)*sz)++(cells.drop ((n-1)*sz)++rest)) et::F) hS ?_ (by omega) (λv hv=>fW v (List.mem_of_mem_drop hv)) ?_
  ·rw[wu _ _ _ (by omega),Nat.add_zero,p7,r7,List.take_append_of_le_length (by omega),List.drop_append_of_le_length (by omega)]
   exact gh.hd
  ·intro w' hS
   refine yk ?_
   refine⟨some ⟨b,0,none⟩,i+(n-(i+1)),cap,i+(n-(i+1)),n,cap,rfl,rfl,⟨_,rfl⟩,⟨_,rfl⟩,by omega,by omega,by omega,?_⟩
   have en:i+(n-(i+1))=n-1:=by omega
   rw[en,if_neg (show ¬cap=n-1 by omega)]
   simp only[Option.map_some,Addr.add_lit,Nat.zero_add]
   rw[show n-(n-1)=1 by omega]
   have hA:(cells.take (i*sz)++cells.drop ((i+1)*sz)).length=(n-1)*sz:=by rw[List.length_append,p7,List.length_take,hlen];omega
   have hB:(cells.drop ((n-1)*sz)).length=sz:=by rw[List.length_drop,hlen];omega
   have hle:(n-1)*sz+1*z.length<=(cells.take (i*sz)++cells.drop ((i+1)*sz)++(cells.drop ((n-1)*sz)++rest)).length:=by
    rw[List.length_append (bs:=cells.drop ((n-1)*sz)++rest),List.length_append (bs:=rest),hA,hB,Ar];omega
   refine Qy (tt:=et) (n:=1) (l':=.pt b (cells.take (i*sz)++cells.drop ((i+1)*sz)++(z++rest)) et::F) hS ?_ ht hv hz h1 (by omega) hle ?_
   ·have e1:db z 1=z:=by simp[db]
    have e2:=Ms (cells.take (i*sz)++cells.drop ((i+1)*sz)) (cells.drop ((n-1)*sz)) z rest (by rw[hB,Ar])
    rw[hA]at e2
    rw[e1,Nat.one_mul,e2]
    exact gh.hd
   ·intro u w hS
    exact⟨_,rfl,a7.mk (n:=n-1) (cap:=cap) (rest:=z++rest) (by omega) hA (by rw[List.length_append,Ar,jW,show cap-(n-1)=(cap-n)+1 by omega,Nat.add_mul,Nat.one_mul];omega) hS⟩
def Ba(P:Program)(T:List Bool)(sz:Nat)(v0:Value)(v1:Value)(w:World)(R:Value->World->Prop):Prop:=
 zd v0 λv7=>
 ∃(I:List Value->World->Prop) (μ:List Value->World->Nat),I [(.int .i64 0)] w /\
 ∀(v8:Value) su,I [v8] su ->
 zc .lss v8 v7 λv9=>
 dO v9
 (zh sz v0 v8 λC1=>
 zj sz C1 su λS2=>
 yK P T v1 [S2] su λwK u6=>
 dO wK
 (R v8 u6)
 (zc .add v8 (.int .i64 1) λC2=>
 I [C2] u6/\μ [C2] u6<μ [v8] su))
 (R (.int .i64 (-1)) su)
def k9:Option Nat->Int
 | some i=>(i:Int)
 | none=>-1
theorem Pj{T:List Bool}{f g:FuncId}{sz:Nat}{α:Type}{enc:α->List Value}(hn:∀x,(enc x).length=sz)(hT:T.getD g false=true){cap:Array Value}{pre:List Chunk}{q:α->Bool}{t:TypeId}
  (vc:∀v0 v1 w R,Ba P T sz v0 v1 w R->zU P f [v0,v1] w R) (one:∀x,Spec P g ([agg (enc x)]++cap.toList) pre (dj (.bool (q x)) pre))
  (v:Value) (xs:List α) (hl:xs.length<=9223372036854775806) :
  Spec P f [v,.func (.func g) #[] cap] (pre++[.ob (a7 v t sz xs.length (xs.map enc).flatten)]) (dj (.int .i64 (k9 (xs.findIdx? q))) (pre++[.ob (a7 v t sz xs.length (xs.map enc).flatten)])):=by
 intro W F w hS;apply vc;unfold Ba
 have e0:app (pre++[.ob (a7 v t sz xs.length (xs.map enc).flatten)]) F=pre++(.ob (a7 v t sz xs.length (xs.map enc).flatten)::F):=by rw[w7];simp
 have hm:Has (.ob (a7 v t sz xs.length (xs.map enc).flatten)) (app (pre++[.ob (a7 v t sz xs.length (xs.map enc).flatten)]) F):=by
  rw[e0]
  clear hS one e0
  induction pre with
  | nil=>exact .hd
  | cons c r ih=>exact .tl ih
 refine zr hS hm ?_
 refine⟨λvs w=>∃k:Nat,vs=[.int .i64 k]/\k<=xs.length/\(∀j (h:j<xs.length),j<k->q xs[j]=false)/\SL W (app (pre++[.ob (a7 v t sz xs.length (xs.map enc).flatten)]) F) w,λvs _=>match vs with|[.int _ k]=>(xs.length-k).toNat|_=>0,⟨0,rfl,by omega,λj h hj=>by omega,hS⟩,?_⟩
 clear hS
 rintro v8 w ⟨k,hv,hk,hq,hS⟩
 cases hv
 refine bR (λh=>?_) (λh=>?_)
 ·have iM:k<xs.length:=by omega
  refine z6 hS hm hn (x:=xs[k]) (by simp[iM]) iM ?_
  refine⟨g,#[],cap,rfl,hT,?_⟩
  refine zU.mono (one xs[k] W (.ob (a7 v t sz xs.length (xs.map enc).flatten)::F) w (by rw[w7,<- e0];exact hS)) ?_
  clear hS
  rintro u w ⟨post,⟨rfl,rfl⟩,hS⟩
  rw[w7,<- e0]at hS
  cases Ad:q xs[k] with
  | true=>
   refine zw ?_
   have e:xs.findIdx? q=some k:=List.findIdx?_eq_some_iff_getElem.2 ⟨iM,Ad,λj hj=>by rw[hq j (by omega) hj];decide⟩
   rw[e]
   exact⟨_,⟨rfl,rfl⟩,hS⟩
  | false=>
   refine zq ?_
   refine Gp ?_
   refine⟨⟨k+1,rfl,by omega,λj h hj=>?_,hS⟩,by dsimp only;omega⟩
   rcases Nat.lt_or_ge j k with rX|rX
   ·exact hq j h rX
   ·obtain rfl:j=k:=by omega
    exact Ad
 ·have e:xs.findIdx? q=none:=List.findIdx?_eq_none_iff.2 λx hx=>by
   obtain⟨j,hj,rfl⟩:=List.mem_iff_getElem.1 hx
   exact hq j hj (by omega)
  rw[e]
  exact⟨_,⟨rfl,rfl⟩,hS⟩
end
set_option maxRecDepth 100000
theorem R_{P:Program}{w:World}{t e ty:TypeId}{a:Option Addr}{n c:Nat}{K:Value->Prop}(ht:P.underlying t=some (.slice e))(h:K (.int .i64 c)):ga P (Builtin.cap_ #[t] ty #[.slice a n c]) w K:=by
 refine⟨_,?_,h⟩
 simp[Builtin.cap_,run_underlying ht,Result.andThen,goInt]
theorem wrap_u8(n:Int):Value.int .u8 (IntKind.u8.wrap n)=cI (fy n):=(ait n).symm
theorem wrap_u64{n:Int}(h0:0<=n)(h1:n<18446744073709551616):IntKind.u64.wrap n=n:=by
 simp only[IntKind.wrap,IntKind.bits,IntKind.signed]
 simp
 omega
theorem Yk(x:Int):SP 329 [.int .u32 x] [] (λv post=>post=[.ob (a7 v 5 1 4 ((four x).map cI))]):=by
 intro W F w hS;apply bW8;unfold KD;(try simp only[app]at hS)
 refine Zs (n:=24) (by omega) ?_
 refine zM ?_
 refine Zs (n:=16) (by omega) ?_
 refine zM ?_
 refine Zs (n:=8) (by omega) ?_
 refine zM ?_
 refine zM ?_
 rw[wrap_u8,wrap_u8,wrap_u8,wrap_u8]
 refine zy (cells:=(four x).map cI) hS rfl ?_
 intro b w' gx
 exact⟨_,rfl,a7.full (n:=4) rfl gx⟩
theorem Yw(a:Option Addr)(n c:Nat)(hn:n<=1048576):SP 291 [.agg #[.slice a n c]] [] (λv post=>post=[.ob (a7 v 5 1 4 ((four n).map cI))]):=by
 intro W F w hS;apply bWj;delta Ki a_;(try simp only[app]at hS)
 refine⟨[.slice a n c],rfl,?_⟩
 refine Gm λb w hS=>?_
 refine zM ?_
 rw[wrap_u32 (by omega) (by omega)]
 refine Cc (Yk n) ?_;clear hS
 (rintro v post rfl w hS;(try simp only[app]at hS);(repeat (first|refine Gp ?_|refine Gw λw hS=>?_|refine Gb λb w hS=>?_)))
 exact⟨_,rfl,aR hS⟩
theorem Qu(X:Chunk)(v:Value)(q:List UInt8)(hb:dN X v q)(hN:q.length<=1048576):SP 289 [v] [X] (λr post=>∃u,r= .agg #[v,u]/\post=[.ob (a7 u 5 1 4 ((four (sumOf q)).map cI)),X]):=by
 intro W F w hS;apply bWh;delta Kg bF;(try simp only[app]at hS)
 obtain⟨a,c,rfl,hc⟩:=hb.sl hS .hd
 refine Gm λb w hS=>?_;refine Gm λb w hS=>?_
 refine Cc (Yw a q.length c hN) ?_;clear hS
 rintro v8 post rfl w hS;(try simp only[app]at hS)
 have h8:=hS.kL .hd
 refine Gp ?_
 refine zy (cells:=[v8,.slice a q.length c]) hS ?_ ?_
 ·obtain⟨a8,c8,e,_⟩:=a7.at hS .hd
  subst e;rfl
 clear hS;intro p w hS
 refine Gp ?_
 refine Cg (a_a X (.ob (a7 v8 5 1 4 ((four q.length).map cI))) (.slice a q.length c) v8 q (four q.length) hb (dN.own (b:=four q.length)) (by omega) (by rw[o8];omega) p _) λw hS=>?_
 refine Cc (Yk (sumOf q)) ?_;clear hS
 rintro lu post rfl w hS;(try simp only[app]at hS)
 have eh:=hS.kL .hd
 obtain⟨LH,Mj,e,_⟩:=a7.at hS .hd
 subst e
 refine Gn λw hS=>?_
 exact⟨_,⟨_,rfl,rfl⟩,aR hS⟩
theorem qC(X Y:Chunk)(v u:Value)(b c:List UInt8)(hb:dN X v b)(hc:dN Y u c)(hN:b.length<=140737488355328):
  SP 325 [v,u] [X,Y] (dj (.bool (decide (b=c))) [X,Y]):=by
 intro W F w hS;apply bW4;delta KA aF b7 ai;(try simp only[app]at hS)
 refine zH hS .hd hb ?_
 refine zH hS Xh hc ?_
 refine bR (λh=>?_) (λh=>?_)
 ·rw[show decide (b=c)=false from decide_eq_false (λe=>h (by rw[e]))]
  (exact dq hS)
 ·have hl:b.length=c.length:=by omega
  refine zH hS .hd hb ?_
  refine⟨λvs w=>∃i:Nat,i<=b.length/\vs=[.int .i64 i]/\b.take i=c.take i/\SL W (X::Y::F) w,λvs _=>match vs with
   | [.int _ i]=>b.length-i.toNat
   | _=>0,⟨0,by omega,rfl,by simp,hS⟩,?_⟩
  rintro v1 w1 ⟨i,hi,hv,he,hS⟩
  cases hv
  refine bR (λh=>?_) (λh=>?_)
  ·have hi:i<b.length:=by omega
   have hj:i<c.length:=by omega
   refine Gn λw hS=>?_
   refine yF hS .hd hb hi ?_
   refine yF hS Xh hc hj ?_
   refine Sd ?_
   refine za (λh2=>?_) (λh2=>?_)
   ·rw[show decide (b=c)=false from decide_eq_false (λe=>h2 (by subst e;rfl))]
    (exact dq hS)
   ·refine Gp ?_
    have e1:b[i]=c[i]:=by
     apply UInt8.toNat_inj.1
     omega
    refine⟨⟨i+1,by omega,rfl,?_,hS⟩,?_⟩
    ·rw[List.take_add_one,List.take_add_one,he];simp[hi,hj,e1]
    ·simp only[Int.toNat_natCast];omega
  ·obtain rfl:i=b.length:=by omega
   have e:b=c:=by
    rw[List.take_length]at he
    rw[he,hl,List.take_length]
   rw[show decide (b=c)=true from decide_eq_true e]
   (exact dq hS)
theorem Tryz.Px:(Tryz.prog.info? 5).map (λi=>(i.zero,i.size,i.bytes))=some (some (.int .u8 0),1,1):=by kernel_rfl
theorem QN(n:Nat)(hn:n<=140737488355328):SP 331 [.slice none 0 0,.int .i64 n] [] (λv post=>post=[.ob (a7 v 5 1 0 [])]):=by
 intro W F w hS;apply b5a;delta KF aF ai;(try simp only[app]at hS)
 refine Gp ?_
 refine za (λh=>by omega) (λh=>?_)
 refine R_ Tryz.underlying62 ?_
 refine bR (λh=>?_) (λh=>?_)
 ·refine R_ Tryz.underlying62 ?_
  refine⟨none,0,0,0,0,0,rfl,rfl,⟨_,rfl⟩,rfl,Nat.le_refl _,Nat.le_refl _,Nat.le_refl _,?_⟩
  have hk:0<n:=by omega
  have e:(n:Int)-(((0:Nat):Int)-((0:Nat):Int))=((n:Nat):Int):=by omega
  rw[e]
  cases hi:Tryz.prog.info? 5 with
  | none=>have:=Tryz.Px;rw[hi]at this;cases this
  | some i=>
   have hI:=Tryz.Px
   rw[hi]at hI
   simp only[Option.map_some,Option.some.injEq,Prod.mk.injEq]at hI
   obtain⟨h1,h2,h3⟩:=hI
   have jH:Builtin.nextslicecap (0+n) 0=n:=by
    unfold Builtin.nextslicecap
    simp[hk]
   have B8:=Go.Lib.run_append_grow_zeros (P:=Tryz.prog) w 62 3 62 5 i (.int .u8 0) .i64 .i64 Tryz.underlying62 Tryz.underlying3 hi h1 none 0 0 [] (by rw[h2];exact run_firstCells_none w.drew 1 0 _ _) n hk (by omega) (by omega) (by omega) (by rw[h3];omega) (by rw[jH,h3];omega)
   refine⟨_,_,B8,?_⟩
   generalize Wd:grownCap w (0+n) 0 5=cp
   have pc:n<=cp:=by
    have:=grownCap_ge w (0+n) 0 5
    omega
   refine yk ?_
   refine⟨_,_,_,0,0,cp,rfl,rfl,⟨_,rfl⟩,rfl,Nat.le_refl _,Nat.zero_le _,Nat.le_refl _,?_⟩
   refine⟨_,rfl,?_⟩
   have hb:(if cp=0 then (some (⟨w.heap.size,0,none⟩:Addr)) else (some (⟨w.heap.size,0,none⟩:Addr)).map (·.add (0*1)))=some ⟨w.heap.size,0,none⟩:=by
    split
    ·rfl
    ·simp[Addr.add]
   rw[hb,Nat.sub_zero,Nat.sub_zero]
   refine a7.mk (cells:=[]) (rest:=db [.int .u8 0] n++db [.int .u8 0] (cp-n)) (Nat.zero_le _) rfl ?_ ?_
   ·rw[List.length_append,ku,ku];simp;omega
   ·have hz:∀k,Builtin.zeroCells (Value.cells (.int .u8 0)) k=(db [.int .u8 0] k).toArray:=λk=>by
     rw[<- Hp (Value.cells (.int .u8 0)) [.int .u8 0] rfl k,Array.toArray_toList]
    rw[hz,hz,Nat.zero_add]
    have e2:([]:List Value).toArray++(db [Value.int .u8 0] n).toArray++(db [Value.int .u8 0] (cp-n)).toArray=([]++(db [Value.int .u8 0] n++db [Value.int .u8 0] (cp-n))).toArray:=by simp
    rw[e2]
    exact SL.new hS.drew
 ·have:n=0:=by omega
  exact⟨_,rfl,a7.nil hS⟩
theorem Has.app{c:Chunk}:∀{p F:List Chunk},Has c p->Has c (app p F)
 | _::_,_,.hd=>.hd
 | _::_,_,.tl h=>.tl h.app
theorem No{α:Type}{bs:List (List α)}{i:Nat}(h:i<bs.length):(bs.take (i+1)).flatten=(bs.take i).flatten++bs[i]:=by
 rw[List.take_add_one,List.getElem?_eq_getElem h,List.flatten_append]
 simp only[Option.toList_some,List.flatten_cons,List.flatten_nil,List.append_nil]
theorem Bx{α:Type}(bs:List (List α))(i:Nat):(bs.take i).flatten.length<=bs.flatten.length:=by
 have:bs.flatten=(bs.take i).flatten++(bs.drop i).flatten:=by rw[<- List.flatten_append,List.take_append_drop]
 rw[this,List.length_append];omega
theorem ZE(p n:Nat)(t:TypeId)(vs:List Value)(bs:List (List UInt8))(Xs:List Chunk)(hn:vs.length=n)(hb:bs.length=n)(hx:∀i (h:i<n),∃X,Has X Xs/\dN X (vs[i]'(by omega)) (bs[i]'(by omega)))(hN:bs.flatten.length<=100000000)(Fl:n<=100):
  SP 290 [.slice (some ⟨p,0,none⟩) n n] (.pt p vs t::Xs) (λv post=>post= .ob (a7 v 5 1 bs.flatten.length (bs.flatten.map cI))::Xs):=by
 intro W F w hS;apply bWi;delta Kh aF ai bF;(try simp only[app]at hS)
 refine Gp ?_
 refine⟨λus w=>∃i:Nat,i<=n/\us=[.int .i64 ((bs.take i).flatten.length:Nat),.int .i64 i]/\SL W (.pt p vs t::app Xs F) w,λus _=>match us with
  | [_,.int _ i]=>n-i.toNat
  | _=>0,⟨0,by omega,by simp,hS⟩,?_⟩
 rintro v1 v2 w1 ⟨i,hi,hv,hS⟩
 cases hv
 have hle:=Bx bs i
 refine bR (λh=>?_) (λh=>?_)
 ·have hi:i<n:=by omega
  obtain⟨X,hX,hr⟩:=hx i hi
  refine zB (j:=i) hi ?_
  refine zX hS .hd (v:=vs[i]'(by omega)) (by rw[List.getElem?_eq_getElem (by omega)];congr 2;omega) ?_
  refine zH hS (.tl hX.app) hr ?_
  have e:=No (bs:=bs) (i:=i) (by omega)
  have ON:=Bx bs (i+1)
  have el:(bs.take (i+1)).flatten.length=(bs.take i).flatten.length+(bs[i]'(by omega)).length:=by rw[e,List.length_append]
  refine Gp ?_
  refine za (λh=>by omega) (λh=>?_)
  refine Gp ?_
  refine⟨⟨i+1,by omega,?_,hS⟩,?_⟩
  ·rw[el]
  ·simp only[Int.toNat_natCast];omega
 ·obtain rfl:i=n:=by omega
  have ef:bs.take i=bs:=List.take_of_length_le (by omega)
  rw[ef]
  refine yP (F:=.pt p vs t::app Xs F) (QN bs.flatten.length (by omega)) hS gq.nil ?_
  clear hS
  rintro v post rfl w hS;(try simp only[app]at hS);refine Gp ?_
  refine⟨λus w=>∃(j:Nat) (u:Value),j<=i/\us=[u,.int .i64 j]/\SL W (.ob (a7 u 5 1 (bs.take j).flatten.length ((bs.take j).flatten.map cI))::.pt p vs t::app Xs F) w,λus _=>match us with
   | [_,.int _ j]=>i-j.toNat
   | _=>0,⟨0,v,by omega,rfl,hS⟩,?_⟩
  rintro v1 v2 w2 ⟨j,u,hj,hv,hS⟩
  cases hv
  have hle:=Bx bs j
  refine bR (λh=>?_) (λh=>?_)
  ·have hj:j<i:=by omega
   obtain⟨X,hX,hr⟩:=hx j hj
   refine zB (j:=j) hj ?_
   refine zX hS Xh (v:=vs[j]'(by omega)) (by rw[List.getElem?_eq_getElem (by omega)];congr 2;omega) ?_
   have e:=No (bs:=bs) (i:=j) (by omega)
   have ON:=Bx bs (j+1)
   have el:(bs.take (j+1)).flatten.length=(bs.take j).flatten.length+(bs[j]'(by omega)).length:=by rw[e,List.length_append]
   refine zx hS .hd (hr.src hS (.tl (.tl hX.app))) (by simp) rfl (j3 _) (by omega) (by omega) ?_
   clear hS;intro v' w hS
   refine Gp ?_
   refine⟨⟨j+1,v',by omega,rfl,?_⟩,?_⟩
   ·rw[el,e,List.map_append];exact hS
   ·simp only[Int.toNat_natCast];omega
  ·obtain rfl:j=i:=by omega
   rw[ef]at hS
   exact⟨_,rfl,SL.b6 hS (.cons .hd (by
    have:je (app Xs F) (.pt p vs t::app Xs F):=je.drop .refl
    exact this))⟩
def nq(X:Chunk)(q:List UInt8)(r:Value)(post:List Chunk):Prop:=
 if 1048576<q.length then r= .tuple #[.slice none 0 0,.int .i64 1]/\post=[X]
 else ∃u,r= .tuple #[u,.int .i64 0]/\post=[.ob (a7 u 5 1 (dG q).length ((dG q).map cI)),X]
theorem nq.L9{X:Chunk}{q:List UInt8}(h:1048576<q.length):nq X q (.tuple #[.slice none 0 0,.int .i64 1]) [X]:=by
 unfold nq;rw[if_pos h];exact⟨rfl,rfl⟩
theorem nq.ok{X:Chunk}{q:List UInt8}(h:q.length<=1048576)(u:Value):nq X q (.tuple #[u,.int .i64 0]) [.ob (a7 u 5 1 (dG q).length ((dG q).map cI)),X]:=by
 unfold nq;rw[if_neg (Nat.not_lt.2 h)];exact⟨u,rfl,rfl⟩
theorem qc(X:Chunk)(v:Value)(q:List UInt8)(hq:dN X v q)(hN:q.length<=140737488355328):SP 231 [v] [X] (nq X q):=by
 intro W F w hS;apply bRc;delta JB aF cF ai bF;(try simp only[app]at hS)
 refine zH hS .hd hq ?_
 refine bR (λh=>?_) (λh=>?_)
 ·exact⟨_,.L9 (by omega),hS⟩
 ·obtain⟨a,c,rfl,hc⟩:=hq.sl hS .hd
  refine Cc (Qu X _ q hq (by omega)) ?_;clear hS
  rintro v9 post ⟨u,rfl,rfl⟩ w hS;(try simp only[app]at hS)
  have hu:=hS.kL .hd
  obtain⟨au,cu,e,_⟩:=a7.at hS .hd
  subst e
  refine Gm λb w hS=>?_
  refine Z8 hS (vs:=[.slice a q.length c]) Xh rfl (λj v e=>?_) ?_
  ·match j,e with
   | 0,e=>exact e
  refine Gp ?_
  refine Cc (Yw a q.length c (by omega)) ?_;clear hS
  rintro lu post rfl w hS;(try simp only[app]at hS)
  obtain⟨LH,Mj,e,_⟩:=a7.at hS .hd
  subst e
  refine Gm λb w hS=>?_
  refine yP (F:=_) (ZE _ 3 _ [_,_,_] [four q.length,four (sumOf q),q] [.ob (a7 (.slice LH 4 Mj) 5 1 4 ((four q.length).map cI)),.ob (a7 (.slice au 4 cu) 5 1 4 ((four (sumOf q)).map cI)),X] rfl rfl ?_ ?_ (by omega)) hS Xp ?_
  ·intro i hi
   match i,hi with
   | 0,_=>exact⟨_,.hd,dN.own (b:=four q.length)⟩
   | 1,_=>exact⟨_,.tl .hd,dN.own (b:=four (sumOf q))⟩
   | 2,_=>exact⟨_,.tl (.tl .hd),hq⟩
  ·simp[o8];omega
  ·clear hS
   rintro v post rfl w hS;(try simp only[app]at hS)
   have e:[four q.length,four (sumOf q),q].flatten=dG q:=by simp[dG]
   rw[e]at hS
   exact⟨_,.ok (by omega) v,aR hS⟩
theorem orW{a b:Nat}(ha:a<9223372036854775808)(hb:b<9223372036854775808):jk .or (.int .i64 (a:Int)) (.int .i64 (b:Int))=some (.int .i64 ((a ||| b:Nat):Int)):=by
 have h:(a ||| b)<9223372036854775808:=Nat.or_lt_two_pow (n:=63) ha hb
 simp only[jk,if_true]
 congr 2
 have e1:(BitVec.ofInt IntKind.i64.bits (a:Int))=BitVec.ofNat 64 a:=BitVec.ofInt_natCast 64 a
 have e2:(BitVec.ofInt IntKind.i64.bits (b:Int))=BitVec.ofNat 64 b:=BitVec.ofInt_natCast 64 b
 rw[e1,e2]
 have e3:(BitVec.ofNat 64 a ||| BitVec.ofNat 64 b).toNat=a ||| b:=by
  rw[BitVec.toNat_or,BitVec.toNat_ofNat,BitVec.toNat_ofNat,Nat.mod_eq_of_lt (by omega),Nat.mod_eq_of_lt (by omega)]
 show IntKind.i64.wrap (((BitVec.ofNat 64 a ||| BitVec.ofNat 64 b).toNat:Nat):Int)=_
 rw[e3,IntWalk.i64_in _ (by omega)]
theorem GX{a b k:Nat}{K:Value->Prop}(ha:a*2 ^ k<9223372036854775808)(hb:b<2 ^ k)(kW:b<9223372036854775808)(h:K (.int .i64 ((a*2 ^ k+b:Nat):Int))):zc .or (.int .i64 ((a*2 ^ k:Nat):Int)) (.int .i64 (b:Int)) K:=by
 refine⟨_,orW ha kW,?_⟩
 have:a*2 ^ k ||| b=a*2 ^ k+b:=by rw[<- Nat.shiftLeft_eq,Nat.shiftLeft_add_eq_or_of_lt hb]
 rw[this];exact h
theorem YQ{a n:Nat}{K:Value->Prop}(hn:n<=64)(ha:a*2 ^ n<9223372036854775808)(h:K (.int .i64 ((a*2 ^ n:Nat):Int))):zc .shl (.int .i64 (a:Int)) (.int .u64 (n:Int)) K:=by
 refine⟨.int .i64 ((a*2 ^ n:Nat):Int),?_,h⟩
 have h1:¬((n:Int)<0):=by omega
 simp only[jk,h1,if_false]
 rw[show min (n:Int).toNat IntKind.i64.bits=n by simp only[IntKind.bits];omega]
 congr 2
 rw[show (a:Int)*2 ^ n=((a*2 ^ n:Nat):Int) by push_cast;rfl]
 exact IntWalk.i64_in _ (by omega)
def nX(X:Chunk)(q:List UInt8)(r:Value)(post:List Chunk):Prop:=match gN q with
 | .error e=>r= .tuple #[.slice none 0 0,.int .i64 0,.int .i64 e]/\post=[X]
 | .ok (p,n)=>∃u,r= .tuple #[u,.int .i64 (n:Nat),.int .i64 0]/\post=[.ob (a7 u 5 1 p.length (p.map cI)),X]
theorem nX.er{X:Chunk}{q:List UInt8}{e:Int}(h:gN q= .error e):nX X q (.tuple #[.slice none 0 0,.int .i64 0,.int .i64 e]) [X]:=by
 unfold nX;rw[h];exact⟨rfl,rfl⟩
theorem nX.ok{X:Chunk}{q p:List UInt8}{n:Nat}(h:gN q= .ok (p,n))(u:Value):nX X q (.tuple #[u,.int .i64 (n:Nat),.int .i64 0]) [.ob (a7 u 5 1 p.length (p.map cI)),X]:=by
 unfold nX;rw[h];exact⟨u,rfl,rfl⟩
theorem SQ{q:List UInt8}(h:q.length<8):gN q= .error 2:=by unfold gN;rw[if_pos h]
theorem SR{q:List UInt8}(h:8<=q.length)(h2:1048576<gT q):gN q= .error 3:=by unfold gN;rw[if_neg (Nat.not_lt.2 h),if_pos h2]
theorem SS{q:List UInt8}(h:8<=q.length)(h2:gT q<=1048576)(h3:q.length<8+gT q):gN q= .error 2:=by unfold gN;rw[if_neg (Nat.not_lt.2 h),if_neg (Nat.not_lt.2 h2),if_pos h3]
theorem SU{q:List UInt8}(h:8<=q.length)(h2:gT q<=1048576)(h3:8+gT q<=q.length)(h4:four (sumOf ((q.drop 8).take (gT q)))≠(q.drop 4).take 4):gN q= .error 4:=by unfold gN;rw[if_neg (Nat.not_lt.2 h),if_neg (Nat.not_lt.2 h2),if_neg (Nat.not_lt.2 h3),if_pos h4]
theorem SV{q:List UInt8}(h:8<=q.length)(h2:gT q<=1048576)(h3:8+gT q<=q.length)(h4:four (sumOf ((q.drop 8).take (gT q)))=(q.drop 4).take 4):gN q= .ok ((q.drop 8).take (gT q),8+gT q):=by unfold gN;rw[if_neg (Nat.not_lt.2 h),if_neg (Nat.not_lt.2 h2),if_neg (Nat.not_lt.2 h3),if_neg (not_not_intro h4)]
theorem Yy(X:Chunk)(v:Value)(q:List UInt8)(hq:dN X v q)(hN:q.length<=140737488355328):SP 281 [v] [X] (nX X q):=by
 intro W F w hS;apply bR9;delta J' aF a_ dc ai bF;(try simp only[app]at hS)
 refine zH hS .hd hq ?_
 refine bR (λh=>?_) (λh=>?_)
 ·exact⟨_,.er (SQ (by omega)),hS⟩
 ·have h8:8<=q.length:=by omega
  refine Gn λw hS=>?_
  have g0:=q[0].toNat_lt
  have g1:=q[1].toNat_lt
  have g2:=q[2].toNat_lt
  have g3:=q[3].toNat_lt
  have hn:gT q=((q[0].toNat*2 ^ 24+q[1].toNat*2 ^ 16)+q[2].toNat*2 ^ 8)+q[3].toNat:=by
   unfold gT
   have hd:∀i (h:i<q.length),q.getD i 0=q[i]:=λi h=>by simp[List.getD_eq_getElem?_getD,h]
   rw[hd 0 (by omega),hd 1 (by omega),hd 2 (by omega),hd 3 (by omega)]
  refine yF (j:=0) hS .hd hq (by omega) ?_
  refine yx (by omega) ?_
  refine YQ (n:=24) (by omega) (by omega) ?_
  refine yF (j:=1) hS .hd hq (by omega) ?_
  refine yx (by omega) ?_
  refine YQ (n:=16) (by omega) (by omega) ?_
  refine GX (k:=24) (by omega) (by omega) (by omega) ?_
  refine yF (j:=2) hS .hd hq (by omega) ?_
  refine yx (by omega) ?_
  refine YQ (n:=8) (by omega) (by omega) ?_
  rw[show q[0].toNat*2 ^ 24+q[1].toNat*2 ^ 16=(q[0].toNat*2 ^ 8+q[1].toNat)*2 ^ 16 by omega]
  refine GX (k:=16) (by omega) (by omega) (by omega) ?_
  refine yF (j:=3) hS .hd hq (by omega) ?_
  refine yx (by omega) ?_
  rw[show (q[0].toNat*2 ^ 8+q[1].toNat)*2 ^ 16+q[2].toNat*2 ^ 8=((q[0].toNat*2 ^ 8+q[1].toNat)*2 ^ 8+q[2].toNat)*2 ^ 8 by omega]
  refine GX (k:=8) (by omega) (by omega) (by omega) ?_
  rw[show ((q[0].toNat*2 ^ 8+q[1].toNat)*2 ^ 8+q[2].toNat)*2 ^ 8+q[3].toNat=gT q by omega]
  clear hn g0 g1 g2 g3
  have dZ:=Rn q
  generalize hk:gT q=k at *
  refine bR (λh2=>?_) (λh2=>?_)
  ·exact⟨_,.er (SR h8 (by omega)),hS⟩
  ·refine zH hS .hd hq ?_
   refine yd (a:=8) (b:=k) (by omega) ?_
   refine bR (λh3=>?_) (λh3=>?_)
   ·exact⟨_,.er (SS h8 (by omega) (by omega)),hS⟩
   ·refine yd (a:=8) (b:=k) (by omega) ?_
    refine Z9 (lo:=8) (hi:=8+k) hS .hd hq (by omega) (by omega) ?_
    intro v44 sS
    rw[show 8+k-8=k by omega]at sS
    have x9:((q.drop 8).take k).length=k:=by rw[List.length_take,List.length_drop];omega
    generalize hp:(q.drop 8).take k=p at *
    obtain⟨a,c,e,hc⟩:=sS.sl hS .hd
    subst e
    refine Cc (Qu X _ p sS (by omega)) ?_;clear hS
    rintro v9 post ⟨u,rfl,rfl⟩ w hS;(try simp only[app]at hS)
    obtain⟨au,cu,e,_⟩:=a7.at hS .hd
    subst e
    refine Gm λb w hS=>?_
    refine Z9 (lo:=4) (hi:=8) hS Xh hq (by omega) (by omega) ?_
    intro v49 NJ
    rw[show 8-4=4 from rfl]at NJ
    refine Cc (qC (.ob (a7 (.slice au 4 cu) 5 1 4 ((four (sumOf p)).map cI))) X _ v49 (four (sumOf p)) ((q.drop 4).take 4) (dN.own (b:=four (sumOf p))) NJ (by rw[o8];omega)) ?_;clear hS
    rintro v post ⟨rfl,rfl⟩ w hS;(try simp only[app]at hS)
    refine zO ?_
    by_cases h4:four (sumOf p)=(q.drop 4).take 4
    ·rw[decide_eq_true h4]
     refine zq ?_
     refine Gp ?_
     refine Zq (cs:=p.map cI) hS (λw' c gx=>sS.src gx Xh) (by simp) (j3 _) (by omega) ?_
     clear hS;intro u' w hS _
     refine yd (a:=8) (b:=k) (by omega) ?_
     have ht:=SV h8 (by omega) (by omega) (by rw[hk,hp];exact h4)
     rw[hk,hp]at ht
     exact⟨_,.ok ht u',aR hS⟩
    ·rw[decide_eq_false h4]
     refine zw ?_
     exact⟨_,.er (SU h8 (by omega) (by omega) (by rw[hk,hp];exact h4)),aR hS⟩
end Go.Proofs.YtfenmffiidchcaaGreat

/-
  Texts of the proof, joined: Sl7, RecS2, RecS3.
-/
import Derived.Test.YtfenmffiidchcaaGreatJ4
import Derived.Lib.SliceRun
namespace Go.Proofs.YtfenmffiidchcaaGreat
set_option linter.unusedVariables false
open Go.RowKit
theorem d_c{z:List Value}{n i:Nat}(h:i<n*z.length):(cW z n)[i]?=z[i % z.length]?:=by
 induction n generalizing i with
 | zero=>omega
 | succ n ih=>
  have e:cW z (n+1)=z++cW z n:=by simp[cW,List.replicate_succ]
  rw[e]
  rw[Nat.add_mul]at h
  by_cases hi:i<z.length
  ·rw[List.getElem?_append_left hi,Nat.mod_eq_of_lt hi]
  ·rw[List.getElem?_append_right (by omega),ih (by omega)]
   congr 1
   conv=>rhs;rw[show i=(i-z.length)+z.length by omega]
   rw[Nat.add_mod_right]
theorem Po(A B z rest:List Value)(h:B.length=z.length):(A++(B++rest)).take A.length++z++(A++(B++rest)).drop (A.length+z.length)=A++(z++rest):=by
 rw[List.take_left,List.drop_length_add_append,<- h,List.drop_left,List.append_assoc]
theorem JF(zv:Array Value)(z:List Value)(hz:zv.toList=z)(n:Nat):(Builtin.zeroCells zv n).toList=cW z n:=by
 subst hz
 refine List.ext_getElem? λi=>?_
 by_cases hi:i<n*zv.size
 ·have h0:0<zv.size:=by
   rcases Nat.eq_zero_or_pos zv.size with h|h
   ·rw[h]at hi;omega
   ·exact h
  rw[d_c (by simpa using hi)]
  have hm:i % zv.size<zv.size:=Nat.mod_lt _ h0
  simp[Builtin.zeroCells,hi,hm,getElem!_pos]
 ·have h1:(Builtin.zeroCells zv n).toList.length<=i:=by simp[Builtin.zeroCells];omega
  have h2:(cW zv.toList n).length<=i:=by rw[om];simp;omega
  rw[List.getElem?_eq_none h1,List.getElem?_eq_none h2]
section
variable {W w:World} {l l':List Chunk} {P:Program}
theorem SL.U6{b:Nat}{t:TypeId}:∀(vs:List Value) (o:Nat) (cs:List Value) (w:World) (l l':List Chunk),SL W l w->kH (.pt b cs t) (.pt b (sM cs o vs) t) l l'->o+vs.length<=cs.length->SL W l' (w.setCells b o vs)
 | [],o,cs,w,l,l',hS,u,hl=>by
  simp only[sM]at u
  have:l=l':=by
   clear hS
   generalize hc:Chunk.pt b cs t=c at u
   revert hc
   induction u with
   | hd=>intro;rfl
   | tl _ ih=>intro hc;rw[ih hc]
  rw[<- this];exact hS
 | v::r,o,cs,w,l,l',hS,u,hl=>by
  simp only[List.length_cons]at hl
  have hc:cs[o]?=some (cs[o]'(by omega)):=List.getElem?_eq_getElem (by omega)
  obtain⟨l2,p,q⟩:=u.other (.pt b (cs.set o v) t)
  rw[World.setCells]
  exact SL.U6 r (o+1) _ _ l2 l' (hS.store p hc) (by simpa [sM] using q) (by simp;omega)
theorem SL.U7{b o:Nat}{t:TypeId}{cs vs:List Value}(hS:SL W l w)(u:kH (.pt b cs t) (.pt b (cs.take o++vs++cs.drop (o+vs.length)) t) l l')(hl:o+vs.length<=cs.length):SL W l' (w.setCells b o vs):=
 SL.U6 vs o cs w l l' hS (by rw[Bf _ _ _ hl];exact u) hl
theorem UB{b o n c:Nat}{cs z:List Value}{tt t e ty:TypeId}{zv:Value}{K:Value->World->Prop}(hS:SL W l w)(u:kH (.pt b cs tt) (.pt b (cs.take o++cW z n++cs.drop (o+n*z.length)) tt) l l')
  (ht:P.underlying t=some (.slice e)) (hv:∀w,(zeroValue e).run P w= .ok zv w) (hz:zv.cells.toList=z) (h1:∀v∈z,v.oneCell'=true) (hn:0<n) (ho:o+n*z.length<=cs.length)
  (h:∀u w',SL W l' w'->K u w'):z7 P (Builtin.clear_ #[t] ty #[.slice (some ⟨b,o,none⟩) n c]) w K:=by
 have Ib:=JF zv.cells z hz n
 have hlen:(cW z n).length=n*z.length:=om _ _
 have kM:∀j,j<n*z.length->∃v,cs[o+j]?=some v:=λj hj=>⟨_,List.getElem?_eq_getElem (by omega)⟩
 have kK:=run_storeCells_cells (P:=P) b o (cW z n) 0 w (λj hj=>by obtain⟨v,hv⟩:=kM j (by omega);rw[Nat.add_zero,hS.cell u.has hv];rfl) (λj hj=>by obtain⟨v,hv⟩:=kM j (by omega);rw[Nat.add_zero];exact hS.frozen u.has hv)
  (by
   intro v oW
   obtain⟨l0,ED,SA⟩:=List.mem_flatten.1 oW
   rw[List.eq_of_mem_replicate ED]at SA
   exact h1 v SA)
 simp only[Nat.add_zero]at kK
 obtain⟨m,rfl⟩:∃m,n=m+1:=⟨n-1,by omega⟩
 refine⟨_,_,by simp[Builtin.clear_,run_underlying ht,hv,Ib,kK];exact⟨rfl,rfl⟩,h _ _ (SL.U7 hS (by rw[hlen];exact u) (by rw[hlen];exact ho))⟩
theorem UE{b o sz n j:Nat}{k:IntKind}{K:Value->Prop}(hj:j<n)(h:K (.pointer (some ⟨b,o+j*sz,none⟩))):qn sz n (.pointer (some ⟨b,o,none⟩)) (.int k (j:Int)) K:=
 ⟨_,k,j,rfl,rfl,hj,by rw[Addr.add_lit];exact h⟩
def OI(P:Program)(sz lQ:Nat)(z:List Value)(et st:TypeId)(v0:Value)(v1:Value)(v2:Value)(w:World)(R:Value->World->Prop):Prop:=
 zd v0 λnS=>
 iQ sz v0 (some v1) (some v2) (some nS) λwY=>
 zc .eql v1 v2 λu9=>
 g9 u9
 (R v0 w)
 (zd v0 λDs=>
 zj w λoJ=>
 iQ sz v0 none (some v1) none λv22=>
 iQ sz v0 (some v2) none none λv25=>
 zr sz lQ z et v22 v25 oJ λv26 rC=>
 zd v26 λv29=>
 iQ sz v26 (some v29) (some Ds) none λVp=>
 z7 P (Builtin.clear_ #[st] 0 [Vp].toArray) rC λu pG=>
 R v26 pG)
theorem PI{f:FuncId}{sz lQ:Nat}{z:List Value}{et st:TypeId}{zv:Value}(vc:∀v0 v1 v2 w R,OI P sz lQ z et st v0 v1 v2 w R->zV P f [v0,v1,v2] w R)
  (ht:P.underlying st=some (.slice et)) (hv:∀w,(zeroValue et).run P w= .ok zv w) (hz:zv.cells.toList=z) (C0:z.length=sz) (h1:∀v∈z,v.oneCell'=true)
  (v:Value) (n i:Nat) (cells:List Value) (hi:i<n) (kD:∀v∈cells,v.oneCell'=true) (hb:n*lQ<=140737488355328) (hn:n<=140737488355328) :
  Spec P f [v,.int .i64 (i:Int),.int .i64 ((i+1:Nat):Int)] [.ob (bI v et sz n cells)] (λu post=>post=[.ob (bI u et sz (n-1) (cells.take (i*sz)++cells.drop ((i+1)*sz)))]):=by
 intro W F w hS;apply vc;unfold OI;(try simp only[app]at hS)
 rcases bI.open hS with ⟨⟨a,rfl⟩,rfl,rfl,_⟩|⟨b,cap,rest,rfl,wD,hlen,mW,hS⟩
 ·omega
 have eFv:(i+1)*sz<=n*sz:=Nat.mul_le_mul_right _ (by omega)
 have eFu:(i+1)*sz=i*sz+sz:=by rw[Nat.add_mul,Nat.one_mul]
 refine yo ?_
 refine⟨_,n,cap,i,i+1,n,rfl,⟨_,rfl⟩,⟨_,rfl⟩,⟨_,rfl⟩,by omega,by omega,by omega,?_⟩
 refine Gp ?_
 refine za (λh=>by omega) (λ_=>?_)
 refine Gn λw hS=>?_
 refine⟨_,n,cap,0,i,cap,rfl,rfl,⟨_,rfl⟩,rfl,by omega,by omega,by omega,?_⟩
 rw[if_neg (show ¬cap=0 by omega)]
 refine⟨_,n,cap,i+1,n,cap,rfl,rfl,rfl,⟨_,rfl⟩,by omega,by omega,by omega,?_⟩
 simp only[Option.map_some,Addr.add_lit,Nat.zero_mul,Nat.add_zero,Nat.sub_zero]
 have sE:(cells.drop ((i+1)*sz)).length=(n-(i+1))*sz:=by rw[List.length_drop,hlen,Nat.mul_sub_right_distrib]
 have Sz:i*sz+((n-(i+1))*sz)=(n-1)*sz:=by rw[<- Nat.add_mul];congr 1;omega
 have eFt:(n-1)*sz+sz=n*sz:=by rw[show n*sz=(n-1+1)*sz by congr 1;omega,Nat.add_mul,Nat.one_mul]
 refine⟨some ⟨b,0,none⟩,i,cap,n-(i+1),cells.drop ((i+1)*sz),rfl,?_,?_,by omega,λsF=>?_,λh=>by omega⟩
 ·have aWn:∀a:Option Addr,(n-(i+1)=0\/a=some ⟨b,0+(i+1)*sz,none⟩)->m8 w sz (.slice a (n-(i+1)) (cap-(i+1))) (n-(i+1)) (cells.drop ((i+1)*sz)):=by
   intro a ha
   rcases ha with h0|rfl
   ·rw[h0]at sE ⊢
    have:cells.drop ((i+1)*sz)=[]:=List.eq_nil_of_length_eq_zero (by simpa using sE)
    rw[this]
    cases a with
    | none=>exact⟨rfl,rfl⟩
    | some p=>exact⟨rfl,by simp,λj v e=>by simp at e⟩
   ·refine U2 hS (Has.hd) sE λj u hu=>?_
    rw[List.getElem?_drop]at hu
    rw[Nat.zero_add,List.getElem?_append_left (List.getElem?_eq_some_iff.1 hu).1];exact hu
  refine aWn _ ?_
  by_cases hcc:cap=i+1
  ·left;omega
  ·right;rw[if_neg hcc]
 ·exact Nat.le_trans (Nat.mul_le_mul_right _ (by omega)) hb
 ·show u0 (Addr.add ⟨b,0,none⟩ (i*sz)) 0 _ w _
  rw[Addr.add_lit,Nat.zero_add]
  have d_7:i*sz+(cells.drop ((i+1)*sz)).length<=(cells++rest).length:=by rw[List.length_append,sE,Sz,hlen];omega
  refine Bp (t:=et) (cells.drop ((i+1)*sz)) (i*sz) 0 (cells++rest) w _ (.pt b (cells.take (i*sz)++cells.drop ((i+1)*sz)++(cells.drop ((n-1)*sz)++rest)) et::F) hS ?_ (by omega) (λv hv=>kD v (List.mem_of_mem_drop hv)) ?_
  ·rw[Bf _ _ _ (by omega),Nat.add_zero,sE,Sz,List.take_append_of_le_length (by omega),List.drop_append_of_le_length (by omega)]
   exact kH.hd
  ·intro w' hS
   refine yo ?_
   refine⟨some ⟨b,0,none⟩,i+(n-(i+1)),cap,i+(n-(i+1)),n,cap,rfl,rfl,⟨_,rfl⟩,⟨_,rfl⟩,by omega,by omega,by omega,?_⟩
   have en:i+(n-(i+1))=n-1:=by omega
   rw[en,if_neg (show ¬cap=n-1 by omega)]
   simp only[Option.map_some,Addr.add_lit,Nat.zero_add]
   rw[show n-(n-1)=1 by omega]
   have hA:(cells.take (i*sz)++cells.drop ((i+1)*sz)).length=(n-1)*sz:=by rw[List.length_append,sE,List.length_take,hlen];omega
   have hB:(cells.drop ((n-1)*sz)).length=sz:=by rw[List.length_drop,hlen];omega
   have hle:(n-1)*sz+1*z.length<=(cells.take (i*sz)++cells.drop ((i+1)*sz)++(cells.drop ((n-1)*sz)++rest)).length:=by
    rw[List.length_append (bs:=cells.drop ((n-1)*sz)++rest),List.length_append (bs:=rest),hA,hB,C0];omega
   refine UB (tt:=et) (n:=1) (l':=.pt b (cells.take (i*sz)++cells.drop ((i+1)*sz)++(z++rest)) et::F) hS ?_ ht hv hz h1 (by omega) hle ?_
   ·have e1:cW z 1=z:=by simp[cW]
    have e2:=Po (cells.take (i*sz)++cells.drop ((i+1)*sz)) (cells.drop ((n-1)*sz)) z rest (by rw[hB,C0])
    rw[hA]at e2
    rw[e1,Nat.one_mul,e2]
    exact kH.hd
   ·intro u w hS
    exact⟨_,rfl,bI.mk (n:=n-1) (cap:=cap) (rest:=z++rest) (by omega) hA (by rw[List.length_append,C0,mW,show cap-(n-1)=(cap-n)+1 by omega,Nat.add_mul,Nat.one_mul];omega) hS⟩
def DF(P:Program)(T:List Bool)(sz:Nat)(v0:Value)(v1:Value)(w:World)(R:Value->World->Prop):Prop:=
 zd v0 λv7=>
 ∃(I:List Value->World->Prop) (μ:List Value->World->Nat),I [(.int .i64 0)] w /\
 ∀(v8:Value) oJ,I [v8] oJ ->
 zc .lss v8 v7 λv9=>
 g9 v9
 (ze sz v0 v8 λFI=>
 zh sz FI oJ λBr=>
 zZ P T v1 [Br] oJ λu9 rC=>
 g9 u9
 (R v8 rC)
 (zc .add v8 (.int .i64 1) λwZ=>
 I [wZ] rC/\μ [wZ] rC<μ [v8] oJ))
 (R (.int .i64 (-1)) oJ)
def nj:Option Nat->Int
 | some i=>(i:Int)
 | none=>-1
theorem SM{T:List Bool}{f g:FuncId}{sz:Nat}{α:Type}{enc:α->List Value}(hn:∀x,(enc x).length=sz)(hT:T.getD g false=true){cap:Array Value}{pre:List Chunk}{q:α->Bool}{t:TypeId}
  (vc:∀v0 v1 w R,DF P T sz v0 v1 w R->zV P f [v0,v1] w R) (one:∀x,Spec P g ([agg (enc x)]++cap.toList) pre (eW (.bool (q x)) pre))
  (v:Value) (xs:List α) (hl:xs.length<=9223372036854775806) :
  Spec P f [v,.func (.func g) #[] cap] (pre++[.ob (bI v t sz xs.length (xs.map enc).flatten)]) (eW (.int .i64 (nj (xs.findIdx? q))) (pre++[.ob (bI v t sz xs.length (xs.map enc).flatten)])):=by
 intro W F w hS;apply vc;unfold DF
 have e0:app (pre++[.ob (bI v t sz xs.length (xs.map enc).flatten)]) F=pre++(.ob (bI v t sz xs.length (xs.map enc).flatten)::F):=by rw[BN];simp
 have hm:Has (.ob (bI v t sz xs.length (xs.map enc).flatten)) (app (pre++[.ob (bI v t sz xs.length (xs.map enc).flatten)]) F):=by
  rw[e0]
  clear hS one e0
  induction pre with
  | nil=>exact .hd
  | cons c r ih=>exact .tl ih
 refine zx hS hm ?_
 refine⟨λvs w=>∃k:Nat,vs=[.int .i64 k]/\k<=xs.length/\(∀j (h:j<xs.length),j<k->q xs[j]=false)/\SL W (app (pre++[.ob (bI v t sz xs.length (xs.map enc).flatten)]) F) w,λvs _=>match vs with|[.int _ k]=>(xs.length-k).toNat|_=>0,⟨0,rfl,by omega,λj h hj=>by omega,hS⟩,?_⟩
 clear hS
 rintro v8 w ⟨k,hv,hk,hq,hS⟩
 cases hv
 refine b9 (λh=>?_) (λh=>?_)
 ·have ml:k<xs.length:=by omega
  refine yd hS hm hn (x:=xs[k]) (by simp[ml]) ml ?_
  refine⟨g,#[],cap,rfl,hT,?_⟩
  refine zV.mono (one xs[k] W (.ob (bI v t sz xs.length (xs.map enc).flatten)::F) w (by rw[BN,<- e0];exact hS)) ?_
  clear hS
  rintro u w ⟨post,⟨rfl,rfl⟩,hS⟩
  rw[BN,<- e0]at hS
  cases CM:q xs[k] with
  | true=>
   refine zw ?_
   have e:xs.findIdx? q=some k:=List.findIdx?_eq_some_iff_getElem.2 ⟨ml,CM,λj hj=>by rw[hq j (by omega) hj];decide⟩
   rw[e]
   exact⟨_,⟨rfl,rfl⟩,hS⟩
  | false=>
   refine zt ?_
   refine Gp ?_
   refine⟨⟨k+1,rfl,by omega,λj h hj=>?_,hS⟩,by dsimp only;omega⟩
   rcases Nat.lt_or_ge j k with Cw|Cw
   ·exact hq j h Cw
   ·obtain rfl:j=k:=by omega
    exact CM
 ·have e:xs.findIdx? q=none:=List.findIdx?_eq_none_iff.2 λx hx=>by
   obtain⟨j,hj,rfl⟩:=List.mem_iff_getElem.1 hx
   exact hq j hj (by omega)
  rw[e]
  exact⟨_,⟨rfl,rfl⟩,hS⟩
end
set_option maxRecDepth 100000
theorem UA{P:Program}{w:World}{t e ty:TypeId}{a:Option Addr}{n c:Nat}{K:Value->Prop}(ht:P.underlying t=some (.slice e))(h:K (.int .i64 c)):jZ P (Builtin.cap_ #[t] ty #[.slice a n c]) w K:=by
 refine⟨_,?_,h⟩
 simp[Builtin.cap_,run_underlying ht,Result.andThen,goInt]
theorem wrap_u8(n:Int):Value.int .u8 (IntKind.u8.wrap n)=fI (j9 n):=(bIt n).symm
theorem wrap_u64{n:Int}(h0:0<=n)(h1:n<18446744073709551616):IntKind.u64.wrap n=n:=by
 simp only[IntKind.wrap,IntKind.bits,IntKind.signed]
 simp
 omega
theorem YC(x:Int):SP 329 [.int .u32 x] [] (λv post=>post=[.ob (bI v 5 1 4 ((four x).map fI))]):=by
 intro W F w hS;apply dIu;unfold Nu;(try simp only[app]at hS)
 refine Zw (n:=24) (by omega) ?_
 refine zO ?_
 refine Zw (n:=16) (by omega) ?_
 refine zO ?_
 refine Zw (n:=8) (by omega) ?_
 refine zO ?_
 refine zO ?_
 rw[wrap_u8,wrap_u8,wrap_u8,wrap_u8]
 refine zD (cells:=(four x).map fI) hS rfl ?_
 intro b w' kL
 exact⟨_,rfl,bI.full (n:=4) rfl kL⟩
theorem YS(a:Option Addr)(n c:Nat)(hn:n<=1048576):SP 291 [.agg #[.slice a n c]] [] (λv post=>post=[.ob (bI v 5 1 4 ((four n).map fI))]):=by
 intro W F w hS;apply dFw;delta M1 a_;(try simp only[app]at hS)
 refine⟨[.slice a n c],rfl,?_⟩
 refine Gm λb w hS=>?_
 refine zO ?_
 rw[wrap_u32 (by omega) (by omega)]
 refine Cc (YC n) ?_;clear hS
 (rintro v post rfl w hS;(try simp only[app]at hS);(repeat (first|refine Gp ?_|refine Gw λw hS=>?_|refine Gb λb w hS=>?_)))
 exact⟨_,rfl,aR hS⟩
theorem TS(X:Chunk)(v:Value)(q:List UInt8)(hb:ix X v q)(hN:q.length<=1048576):SP 289 [v] [X] (λr post=>∃u,r= .agg #[v,u]/\post=[.ob (bI u 5 1 4 ((four (sumOf q)).map fI)),X]):=by
 intro W F w hS;apply dFu;delta MZ bR;(try simp only[app]at hS)
 obtain⟨a,c,rfl,hc⟩:=hb.sl hS .hd
 refine Gm λb w hS=>?_;refine Gm λb w hS=>?_
 refine Cc (YS a q.length c hN) ?_;clear hS
 rintro v8 post rfl w hS;(try simp only[app]at hS)
 have h8:=hS.oF .hd
 refine Gp ?_
 refine zD (cells:=[v8,.slice a q.length c]) hS ?_ ?_
 ·obtain⟨a8,c8,e,_⟩:=bI.at hS .hd
  subst e;rfl
 clear hS;intro p w hS
 refine Gp ?_
 refine Cg (cFi X (.ob (bI v8 5 1 4 ((four q.length).map fI))) (.slice a q.length c) v8 q (four q.length) hb (ix.own (b:=four q.length)) (by omega) (by rw[tP];omega) p _) λw hS=>?_
 refine Cc (YC (sumOf q)) ?_;clear hS
 rintro nS post rfl w hS;(try simp only[app]at hS)
 have f':=hS.oF .hd
 obtain⟨OL,Gg,e,_⟩:=bI.at hS .hd
 subst e
 refine Gn λw hS=>?_
 exact⟨_,⟨_,rfl,rfl⟩,aR hS⟩
theorem Qx(X Y:Chunk)(v u:Value)(b c:List UInt8)(hb:ix X v b)(hc:ix Y u c)(hN:b.length<=140737488355328):
  SP 325 [v,u] [X,Y] (eW (.bool (decide (b=c))) [X,Y]):=by
 intro W F w hS;apply dIq;delta Nr aF cw ai;(try simp only[app]at hS)
 refine zM hS .hd hb ?_
 refine zM hS Xh hc ?_
 refine b9 (λh=>?_) (λh=>?_)
 ·rw[show decide (b=c)=false from decide_eq_false (λe=>h (by rw[e]))]
  (exact fw hS)
 ·have hl:b.length=c.length:=by omega
  refine zM hS .hd hb ?_
  refine⟨λvs w=>∃i:Nat,i<=b.length/\vs=[.int .i64 i]/\b.take i=c.take i/\SL W (X::Y::F) w,λvs _=>match vs with
   | [.int _ i]=>b.length-i.toNat
   | _=>0,⟨0,by omega,rfl,by simp,hS⟩,?_⟩
  rintro v1 w1 ⟨i,hi,hv,he,hS⟩
  cases hv
  refine b9 (λh=>?_) (λh=>?_)
  ·have hi:i<b.length:=by omega
   have hj:i<c.length:=by omega
   refine Gn λw hS=>?_
   refine yL hS .hd hb hi ?_
   refine yL hS Xh hc hj ?_
   refine UH ?_
   refine za (λh2=>?_) (λh2=>?_)
   ·rw[show decide (b=c)=false from decide_eq_false (λe=>h2 (by subst e;rfl))]
    (exact fw hS)
   ·refine Gp ?_
    have e1:b[i]=c[i]:=by
     apply UInt8.toNat_inj.1
     omega
    refine⟨⟨i+1,by omega,rfl,?_,hS⟩,?_⟩
    ·rw[List.take_add_one,List.take_add_one,he];simp[hi,hj,e1]
    ·simp only[Int.toNat_natCast];omega
  ·obtain rfl:i=b.length:=by omega
   have e:b=c:=by
    rw[List.take_length]at he
    rw[he,hl,List.take_length]
   rw[show decide (b=c)=true from decide_eq_true e]
   (exact fw hS)
theorem Tryz.S1:(Tryz.prog.info? 5).map (λi=>(i.zero,i.size,i.bytes))=some (some (.int .u8 0),1,1):=by kernel_rfl
theorem aFv(n:Nat)(hn:n<=140737488355328):SP 331 [.slice none 0 0,.int .i64 n] [] (λv post=>post=[.ob (bI v 5 1 0 [])]):=by
 intro W F w hS;apply dIx;delta Nx aF ai;(try simp only[app]at hS)
 refine Gp ?_
 refine za (λh=>by omega) (λh=>?_)
 refine UA Tryz.underlying62 ?_
 refine b9 (λh=>?_) (λh=>?_)
 ·refine UA Tryz.underlying62 ?_
  refine⟨none,0,0,0,0,0,rfl,rfl,⟨_,rfl⟩,rfl,Nat.le_refl _,Nat.le_refl _,Nat.le_refl _,?_⟩
  have hk:0<n:=by omega
  have e:(n:Int)-(((0:Nat):Int)-((0:Nat):Int))=((n:Nat):Int):=by omega
  rw[e]
  cases hi:Tryz.prog.info? 5 with
  | none=>have:=Tryz.S1;rw[hi]at this;cases this
  | some i=>
   have hI:=Tryz.S1
   rw[hi]at hI
   simp only[Option.map_some,Option.some.injEq,Prod.mk.injEq]at hI
   obtain⟨h1,h2,h3⟩:=hI
   have rW:Builtin.nextslicecap (0+n) 0=n:=by
    unfold Builtin.nextslicecap
    simp[hk]
   have EO:=Go.Lib.run_append_grow_zeros (P:=Tryz.prog) w 62 3 62 5 i (.int .u8 0) .i64 .i64 Tryz.underlying62 Tryz.underlying3 hi h1 none 0 0 [] (by rw[h2];exact run_firstCells_none w.drew 1 0 _ _) n hk (by omega) (by omega) (by omega) (by rw[h3];omega) (by rw[rW,h3];omega)
   refine⟨_,_,EO,?_⟩
   generalize hcp:grownCap w (0+n) 0 5=cp
   have wG:n<=cp:=by
    have:=grownCap_ge w (0+n) 0 5
    omega
   refine yo ?_
   refine⟨_,_,_,0,0,cp,rfl,rfl,⟨_,rfl⟩,rfl,Nat.le_refl _,Nat.zero_le _,Nat.le_refl _,?_⟩
   refine⟨_,rfl,?_⟩
   have hb:(if cp=0 then (some (⟨w.heap.size,0,none⟩:Addr)) else (some (⟨w.heap.size,0,none⟩:Addr)).map (·.add (0*1)))=some ⟨w.heap.size,0,none⟩:=by
    split
    ·rfl
    ·simp[Addr.add]
   rw[hb,Nat.sub_zero,Nat.sub_zero]
   refine bI.mk (cells:=[]) (rest:=cW [.int .u8 0] n++cW [.int .u8 0] (cp-n)) (Nat.zero_le _) rfl ?_ ?_
   ·rw[List.length_append,om,om];simp;omega
   ·have hz:∀k,Builtin.zeroCells (Value.cells (.int .u8 0)) k=(cW [.int .u8 0] k).toArray:=λk=>by
     rw[<- JF (Value.cells (.int .u8 0)) [.int .u8 0] rfl k,Array.toArray_toList]
    rw[hz,hz,Nat.zero_add]
    have e2:([]:List Value).toArray++(cW [Value.int .u8 0] n).toArray++(cW [Value.int .u8 0] (cp-n)).toArray=([]++(cW [Value.int .u8 0] n++cW [Value.int .u8 0] (cp-n))).toArray:=by simp
    rw[e2]
    exact SL.new hS.drew
 ·have:n=0:=by omega
  exact⟨_,rfl,bI.nil hS⟩
theorem Has.app{c:Chunk}:∀{p F:List Chunk},Has c p->Has c (app p F)
 | _::_,_,.hd=>.hd
 | _::_,_,.tl h=>.tl h.app
theorem Re{α:Type}{bs:List (List α)}{i:Nat}(h:i<bs.length):(bs.take (i+1)).flatten=(bs.take i).flatten++bs[i]:=by
 rw[List.take_add_one,List.getElem?_eq_getElem h,List.flatten_append]
 simp only[Option.toList_some,List.flatten_cons,List.flatten_nil,List.append_nil]
theorem D7{α:Type}(bs:List (List α))(i:Nat):(bs.take i).flatten.length<=bs.flatten.length:=by
 have:bs.flatten=(bs.take i).flatten++(bs.drop i).flatten:=by rw[<- List.flatten_append,List.take_append_drop]
 rw[this,List.length_append];omega
theorem ZJ(p n:Nat)(t:TypeId)(vs:List Value)(bs:List (List UInt8))(Xs:List Chunk)(hn:vs.length=n)(hb:bs.length=n)(hx:∀i (h:i<n),∃X,Has X Xs/\ix X (vs[i]'(by omega)) (bs[i]'(by omega)))(hN:bs.flatten.length<=100000000)(HD:n<=100):
  SP 290 [.slice (some ⟨p,0,none⟩) n n] (.pt p vs t::Xs) (λv post=>post= .ob (bI v 5 1 bs.flatten.length (bs.flatten.map fI))::Xs):=by
 intro W F w hS;apply dFv;delta M0 aF ai bR;(try simp only[app]at hS)
 refine Gp ?_
 refine⟨λus w=>∃i:Nat,i<=n/\us=[.int .i64 ((bs.take i).flatten.length:Nat),.int .i64 i]/\SL W (.pt p vs t::app Xs F) w,λus _=>match us with
  | [_,.int _ i]=>n-i.toNat
  | _=>0,⟨0,by omega,by simp,hS⟩,?_⟩
 rintro v1 v2 w1 ⟨i,hi,hv,hS⟩
 cases hv
 have hle:=D7 bs i
 refine b9 (λh=>?_) (λh=>?_)
 ·have hi:i<n:=by omega
  obtain⟨X,hX,hr⟩:=hx i hi
  refine zH (j:=i) hi ?_
  refine ye hS .hd (v:=vs[i]'(by omega)) (by rw[List.getElem?_eq_getElem (by omega)];congr 2;omega) ?_
  refine zM hS (.tl hX.app) hr ?_
  have e:=Re (bs:=bs) (i:=i) (by omega)
  have Sd:=D7 bs (i+1)
  have el:(bs.take (i+1)).flatten.length=(bs.take i).flatten.length+(bs[i]'(by omega)).length:=by rw[e,List.length_append]
  refine Gp ?_
  refine za (λh=>by omega) (λh=>?_)
  refine Gp ?_
  refine⟨⟨i+1,by omega,?_,hS⟩,?_⟩
  ·rw[el]
  ·simp only[Int.toNat_natCast];omega
 ·obtain rfl:i=n:=by omega
  have ef:bs.take i=bs:=List.take_of_length_le (by omega)
  rw[ef]
  refine yQ (F:=.pt p vs t::app Xs F) (aFv bs.flatten.length (by omega)) hS kI.nil ?_
  clear hS
  rintro v post rfl w hS;(try simp only[app]at hS);refine Gp ?_
  refine⟨λus w=>∃(j:Nat) (u:Value),j<=i/\us=[u,.int .i64 j]/\SL W (.ob (bI u 5 1 (bs.take j).flatten.length ((bs.take j).flatten.map fI))::.pt p vs t::app Xs F) w,λus _=>match us with
   | [_,.int _ j]=>i-j.toNat
   | _=>0,⟨0,v,by omega,rfl,hS⟩,?_⟩
  rintro v1 v2 w2 ⟨j,u,hj,hv,hS⟩
  cases hv
  have hle:=D7 bs j
  refine b9 (λh=>?_) (λh=>?_)
  ·have hj:j<i:=by omega
   obtain⟨X,hX,hr⟩:=hx j hj
   refine zH (j:=j) hj ?_
   refine ye hS Xh (v:=vs[j]'(by omega)) (by rw[List.getElem?_eq_getElem (by omega)];congr 2;omega) ?_
   have e:=Re (bs:=bs) (i:=j) (by omega)
   have Sd:=D7 bs (j+1)
   have el:(bs.take (j+1)).flatten.length=(bs.take j).flatten.length+(bs[j]'(by omega)).length:=by rw[e,List.length_append]
   refine zy hS .hd (hr.src hS (.tl (.tl hX.app))) (by simp) rfl (nE _) (by omega) (by omega) ?_
   clear hS;intro v' w hS
   refine Gp ?_
   refine⟨⟨j+1,v',by omega,rfl,?_⟩,?_⟩
   ·rw[el,e,List.map_append];exact hS
   ·simp only[Int.toNat_natCast];omega
  ·obtain rfl:j=i:=by omega
   rw[ef]at hS
   exact⟨_,rfl,SL.b_ hS (.cons .hd (by
    have:mI (app Xs F) (.pt p vs t::app Xs F):=mI.drop .refl
    exact this))⟩
def sj(X:Chunk)(q:List UInt8)(r:Value)(post:List Chunk):Prop:=
 if 1048576<q.length then r= .tuple #[.slice none 0 0,.int .i64 1]/\post=[X]
 else ∃u,r= .tuple #[u,.int .i64 0]/\post=[.ob (bI u 5 1 (ic q).length ((ic q).map fI)),X]
theorem sj.O6{X:Chunk}{q:List UInt8}(h:1048576<q.length):sj X q (.tuple #[.slice none 0 0,.int .i64 1]) [X]:=by
 unfold sj;rw[if_pos h];exact⟨rfl,rfl⟩
theorem sj.ok{X:Chunk}{q:List UInt8}(h:q.length<=1048576)(u:Value):sj X q (.tuple #[u,.int .i64 0]) [.ob (bI u 5 1 (ic q).length ((ic q).map fI)),X]:=by
 unfold sj;rw[if_neg (Nat.not_lt.2 h)];exact⟨u,rfl,rfl⟩
theorem qJ(X:Chunk)(v:Value)(q:List UInt8)(hq:ix X v q)(hN:q.length<=140737488355328):SP 231 [v] [X] (sj X q):=by
 intro W F w hS;apply dwb;delta L4 aF aW ai bR;(try simp only[app]at hS)
 refine zM hS .hd hq ?_
 refine b9 (λh=>?_) (λh=>?_)
 ·exact⟨_,.O6 (by omega),hS⟩
 ·obtain⟨a,c,rfl,hc⟩:=hq.sl hS .hd
  refine Cc (TS X _ q hq (by omega)) ?_;clear hS
  rintro v9 post ⟨u,rfl,rfl⟩ w hS;(try simp only[app]at hS)
  have hu:=hS.oF .hd
  obtain⟨au,cu,e,_⟩:=bI.at hS .hd
  subst e
  refine Gm λb w hS=>?_
  refine Yk hS (vs:=[.slice a q.length c]) Xh rfl (λj v e=>?_) ?_
  ·match j,e with
   | 0,e=>exact e
  refine Gp ?_
  refine Cc (YS a q.length c (by omega)) ?_;clear hS
  rintro nS post rfl w hS;(try simp only[app]at hS)
  obtain⟨OL,Gg,e,_⟩:=bI.at hS .hd
  subst e
  refine Gm λb w hS=>?_
  refine yQ (F:=_) (ZJ _ 3 _ [_,_,_] [four q.length,four (sumOf q),q] [.ob (bI (.slice OL 4 Gg) 5 1 4 ((four q.length).map fI)),.ob (bI (.slice au 4 cu) 5 1 4 ((four (sumOf q)).map fI)),X] rfl rfl ?_ ?_ (by omega)) hS Xp ?_
  ·intro i hi
   match i,hi with
   | 0,_=>exact⟨_,.hd,ix.own (b:=four q.length)⟩
   | 1,_=>exact⟨_,.tl .hd,ix.own (b:=four (sumOf q))⟩
   | 2,_=>exact⟨_,.tl (.tl .hd),hq⟩
  ·simp[tP];omega
  ·clear hS
   rintro v post rfl w hS;(try simp only[app]at hS)
   have e:[four q.length,four (sumOf q),q].flatten=ic q:=by simp[ic]
   rw[e]at hS
   exact⟨_,.ok (by omega) v,aR hS⟩
theorem orW{a b:Nat}(ha:a<9223372036854775808)(hb:b<9223372036854775808):mK .or (.int .i64 (a:Int)) (.int .i64 (b:Int))=some (.int .i64 ((a ||| b:Nat):Int)):=by
 have h:(a ||| b)<9223372036854775808:=Nat.or_lt_two_pow (n:=63) ha hb
 simp only[mK,if_true]
 congr 2
 have e1:(BitVec.ofInt IntKind.i64.bits (a:Int))=BitVec.ofNat 64 a:=BitVec.ofInt_natCast 64 a
 have e2:(BitVec.ofInt IntKind.i64.bits (b:Int))=BitVec.ofNat 64 b:=BitVec.ofInt_natCast 64 b
 rw[e1,e2]
 have e3:(BitVec.ofNat 64 a ||| BitVec.ofNat 64 b).toNat=a ||| b:=by
  rw[BitVec.toNat_or,BitVec.toNat_ofNat,BitVec.toNat_ofNat,Nat.mod_eq_of_lt (by omega),Nat.mod_eq_of_lt (by omega)]
 show IntKind.i64.wrap (((BitVec.ofNat 64 a ||| BitVec.ofNat 64 b).toNat:Nat):Int)=_
 rw[e3,IntWalk.i64_in _ (by omega)]
theorem I'{a b k:Nat}{K:Value->Prop}(ha:a*2 ^ k<9223372036854775808)(hb:b<2 ^ k)(pM:b<9223372036854775808)(h:K (.int .i64 ((a*2 ^ k+b:Nat):Int))):zc .or (.int .i64 ((a*2 ^ k:Nat):Int)) (.int .i64 (b:Int)) K:=by
 refine⟨_,orW ha pM,?_⟩
 have:a*2 ^ k ||| b=a*2 ^ k+b:=by rw[<- Nat.shiftLeft_eq,Nat.shiftLeft_add_eq_or_of_lt hb]
 rw[this];exact h
theorem qh{a n:Nat}{K:Value->Prop}(hn:n<=64)(ha:a*2 ^ n<9223372036854775808)(h:K (.int .i64 ((a*2 ^ n:Nat):Int))):zc .shl (.int .i64 (a:Int)) (.int .u64 (n:Int)) K:=by
 refine⟨.int .i64 ((a*2 ^ n:Nat):Int),?_,h⟩
 have h1:¬((n:Int)<0):=by omega
 simp only[mK,h1,if_false]
 rw[show min (n:Int).toNat IntKind.i64.bits=n by simp only[IntKind.bits];omega]
 congr 2
 rw[show (a:Int)*2 ^ n=((a*2 ^ n:Nat):Int) by push_cast;rfl]
 exact IntWalk.i64_in _ (by omega)
def sX(X:Chunk)(q:List UInt8)(r:Value)(post:List Chunk):Prop:=match lj q with
 | .error e=>r= .tuple #[.slice none 0 0,.int .i64 0,.int .i64 e]/\post=[X]
 | .ok (p,n)=>∃u,r= .tuple #[u,.int .i64 (n:Nat),.int .i64 0]/\post=[.ob (bI u 5 1 p.length (p.map fI)),X]
theorem sX.er{X:Chunk}{q:List UInt8}{e:Int}(h:lj q= .error e):sX X q (.tuple #[.slice none 0 0,.int .i64 0,.int .i64 e]) [X]:=by
 unfold sX;rw[h];exact⟨rfl,rfl⟩
theorem sX.ok{X:Chunk}{q p:List UInt8}{n:Nat}(h:lj q= .ok (p,n))(u:Value):sX X q (.tuple #[u,.int .i64 (n:Nat),.int .i64 0]) [.ob (bI u 5 1 p.length (p.map fI)),X]:=by
 unfold sX;rw[h];exact⟨u,rfl,rfl⟩
theorem Vc{q:List UInt8}(h:q.length<8):lj q= .error 2:=by unfold lj;rw[if_pos h]
theorem Vd{q:List UInt8}(h:8<=q.length)(h2:1048576<ly q):lj q= .error 3:=by unfold lj;rw[if_neg (Nat.not_lt.2 h),if_pos h2]
theorem Ve{q:List UInt8}(h:8<=q.length)(h2:ly q<=1048576)(h3:q.length<8+ly q):lj q= .error 2:=by unfold lj;rw[if_neg (Nat.not_lt.2 h),if_neg (Nat.not_lt.2 h2),if_pos h3]
theorem Vf{q:List UInt8}(h:8<=q.length)(h2:ly q<=1048576)(h3:8+ly q<=q.length)(h4:four (sumOf ((q.drop 8).take (ly q)))≠(q.drop 4).take 4):lj q= .error 4:=by unfold lj;rw[if_neg (Nat.not_lt.2 h),if_neg (Nat.not_lt.2 h2),if_neg (Nat.not_lt.2 h3),if_pos h4]
theorem Vg{q:List UInt8}(h:8<=q.length)(h2:ly q<=1048576)(h3:8+ly q<=q.length)(h4:four (sumOf ((q.drop 8).take (ly q)))=(q.drop 4).take 4):lj q= .ok ((q.drop 8).take (ly q),8+ly q):=by unfold lj;rw[if_neg (Nat.not_lt.2 h),if_neg (Nat.not_lt.2 h2),if_neg (Nat.not_lt.2 h3),if_neg (not_not_intro h4)]
theorem YU(X:Chunk)(v:Value)(q:List UInt8)(hq:ix X v q)(hN:q.length<=140737488355328):SP 281 [v] [X] (sX X q):=by
 intro W F w hS;apply dFm;delta MQ aF a_ dW ai bR;(try simp only[app]at hS)
 refine zM hS .hd hq ?_
 refine b9 (λh=>?_) (λh=>?_)
 ·exact⟨_,.er (Vc (by omega)),hS⟩
 ·have h8:8<=q.length:=by omega
  refine Gn λw hS=>?_
  have g0:=q[0].toNat_lt
  have g1:=q[1].toNat_lt
  have g2:=q[2].toNat_lt
  have g3:=q[3].toNat_lt
  have hn:ly q=((q[0].toNat*2 ^ 24+q[1].toNat*2 ^ 16)+q[2].toNat*2 ^ 8)+q[3].toNat:=by
   unfold ly
   have hd:∀i (h:i<q.length),q.getD i 0=q[i]:=λi h=>by simp[List.getD_eq_getElem?_getD,h]
   rw[hd 0 (by omega),hd 1 (by omega),hd 2 (by omega),hd 3 (by omega)]
  refine yL (j:=0) hS .hd hq (by omega) ?_
  refine yl (by omega) ?_
  refine qh (n:=24) (by omega) (by omega) ?_
  refine yL (j:=1) hS .hd hq (by omega) ?_
  refine yl (by omega) ?_
  refine qh (n:=16) (by omega) (by omega) ?_
  refine I' (k:=24) (by omega) (by omega) (by omega) ?_
  refine yL (j:=2) hS .hd hq (by omega) ?_
  refine yl (by omega) ?_
  refine qh (n:=8) (by omega) (by omega) ?_
  rw[show q[0].toNat*2 ^ 24+q[1].toNat*2 ^ 16=(q[0].toNat*2 ^ 8+q[1].toNat)*2 ^ 16 by omega]
  refine I' (k:=16) (by omega) (by omega) (by omega) ?_
  refine yL (j:=3) hS .hd hq (by omega) ?_
  refine yl (by omega) ?_
  rw[show (q[0].toNat*2 ^ 8+q[1].toNat)*2 ^ 16+q[2].toNat*2 ^ 8=((q[0].toNat*2 ^ 8+q[1].toNat)*2 ^ 8+q[2].toNat)*2 ^ 8 by omega]
  refine I' (k:=8) (by omega) (by omega) (by omega) ?_
  rw[show ((q[0].toNat*2 ^ 8+q[1].toNat)*2 ^ 8+q[2].toNat)*2 ^ 8+q[3].toNat=ly q by omega]
  clear hn g0 g1 g2 g3
  have iZ:=TO q
  generalize hk:ly q=k at *
  refine b9 (λh2=>?_) (λh2=>?_)
  ·exact⟨_,.er (Vd h8 (by omega)),hS⟩
  ·refine zM hS .hd hq ?_
   refine yh (a:=8) (b:=k) (by omega) ?_
   refine b9 (λh3=>?_) (λh3=>?_)
   ·exact⟨_,.er (Ve h8 (by omega) (by omega)),hS⟩
   ·refine yh (a:=8) (b:=k) (by omega) ?_
    refine Yl (lo:=8) (hi:=8+k) hS .hd hq (by omega) (by omega) ?_
    intro v44 wz
    rw[show 8+k-8=k by omega]at wz
    have CC:((q.drop 8).take k).length=k:=by rw[List.length_take,List.length_drop];omega
    generalize hp:(q.drop 8).take k=p at *
    obtain⟨a,c,e,hc⟩:=wz.sl hS .hd
    subst e
    refine Cc (TS X _ p wz (by omega)) ?_;clear hS
    rintro v9 post ⟨u,rfl,rfl⟩ w hS;(try simp only[app]at hS)
    obtain⟨au,cu,e,_⟩:=bI.at hS .hd
    subst e
    refine Gm λb w hS=>?_
    refine Yl (lo:=4) (hi:=8) hS Xh hq (by omega) (by omega) ?_
    intro v49 Rr
    rw[show 8-4=4 from rfl]at Rr
    refine Cc (Qx (.ob (bI (.slice au 4 cu) 5 1 4 ((four (sumOf p)).map fI))) X _ v49 (four (sumOf p)) ((q.drop 4).take 4) (ix.own (b:=four (sumOf p))) Rr (by rw[tP];omega)) ?_;clear hS
    rintro v post ⟨rfl,rfl⟩ w hS;(try simp only[app]at hS)
    refine zQ ?_
    by_cases h4:four (sumOf p)=(q.drop 4).take 4
    ·rw[decide_eq_true h4]
     refine zt ?_
     refine Gp ?_
     refine Zu (cs:=p.map fI) hS (λw' c kL=>wz.src kL Xh) (by simp) (nE _) (by omega) ?_
     clear hS;intro u' w hS _
     refine yh (a:=8) (b:=k) (by omega) ?_
     have ht:=Vg h8 (by omega) (by omega) (by rw[hk,hp];exact h4)
     rw[hk,hp]at ht
     exact⟨_,.ok ht u',aR hS⟩
    ·rw[decide_eq_false h4]
     refine zw ?_
     exact⟨_,.er (Vf h8 (by omega) (by omega) (by rw[hk,hp];exact h4)),aR hS⟩
end Go.Proofs.YtfenmffiidchcaaGreat

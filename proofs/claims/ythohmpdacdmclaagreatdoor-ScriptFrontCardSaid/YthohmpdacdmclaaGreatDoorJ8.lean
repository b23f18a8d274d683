/- Part. -/
import Derived.Test.YthohmpdacdmclaaGreatDoorJ7
import Derived.ProofKit
import Derived.OpenShut
import Derived.Test.YthohmpdacdmclaaGreatDoorQVcW
namespace Go.Proofs.YthohmpdacdmclaaGreatDoor
set_option linter.all false
open Go.RowKit Go.ChangeShapes Go.WideShapes Go.ChangeAt
def vvz:=@List.all_append
def yy2:=@List.getElem_append_left
def xxw:=@List.getElem_append_right
def ww5:=@List.drop_drop
def uue:=@Nat.div_lt_iff_lt_mul
def vv0:=@Nat.div_add_mod
def xx1:=@Option.some.inj
def wwa:=@List.flatten_singleton
def yyl:=@List.length_set
def wwl:=@List.mem_of_getLast?
def wwm:=@List.getLast?_concat
def uu2:=@List.isEmpty_nil
def uut:=@List.take_take
def wwz:=@List.length_pos_iff
def vvl:=@List.append_eq_nil_iff
def vvx:=@List.mem_map_of_mem
def yys:=@List.length_eq_zero_iff
def xx5:=@Int.natCast_nonneg
def uu6:=@run_equalIn_int
def uum:=@Nat.not_lt_zero
def Be:gE Unit:=.plain 0 (λ_=>[]) (λ_=>rfl) (λ_ u hu=>by cases hu)
def jy{α β:Type}(S:gE α)(T:gE β):gE (α × β) where
 n:=S.n+T.n
 rd:=λw M x cs=>∃c1 c2,cs=c1++c2/\S.rd w M x.1 c1/\T.rd w M x.2 c2
 len:=λ⟨c1,c2,h,h1,h2⟩=>by rw[h,zza,S.len h1,T.len h2]
 one:=λ⟨c1,c2,h,h1,h2⟩ u hu=>by
  subst h;rcases zz4.1 hu with hu|hu
  ·exact S.one h1 u hu
  exact T.one h2 u hu
 keep:=λ⟨c1,c2,h,h1,h2⟩ hf hM=>⟨c1,c2,h,S.keep h1 hf hM,T.keep h2 hf hM⟩
def gE.via{α β:Type}(T:gE α)(f:β->α):gE β where
 n:=T.n
 rd:=λw M y cs=>T.rd w M (f y) cs
 len:=λh=>T.len h
 one:=λh=>T.one h
 keep:=λh=>T.keep h
def Small{H:Type}(P:Program)(t:Ι)(d:DataW H):Prop:=(d.weights P t).all (·<=reachBytes)=true
def l8{α:Type}(P:Program)(t:Ι)(T:gE α)(ok:α->Prop):Prop:=
 P.cellsOf t=T.n/\∀{H:Type} (enc:Ι × Ε->H) (w:Ζ) (sp:Nat->Bool) (hd:Bool) (fuel:Nat) (cs:Ξ) (x:DataW H × List MemPlace),
  DataW.trod enc P w 0 sp hd fuel t cs=some x->Small P t x.1->∃a,T.rd w jJ a cs/\ok a
def Fq(k:IntKind)(n:Int):Prop:=(Lit.int k n).wf=true
def C6{n:Int}(h:Fq .i64 n): -9223372036854775808<=n/\n<=9223372036854775807:=by
 simpa [Fq,Lit.wf,IntKind.min,IntKind.max,IntKind.signed,IntKind.bits] using h
def mw{P:Program}{t:Ι}{k:IntKind}(ht:P.underlying t=some (.int k))(hc:P.cellsOf t=1):l8 P t (kU k) (Fq k):=
 ⟨hc,λenc w sp hd fuel cs x h _=>by
  obtain⟨n,rfl,rfl,hw⟩:=DataW.trod_int ht h;exact⟨n,rfl,hw⟩⟩
def QI{P:Program}{t:Ι}(ht:P.underlying t=some .bool)(hc:P.cellsOf t=1):l8 P t Xq (λ_=>True):=
 ⟨hc,λenc w sp hd fuel cs x h _=>by
  obtain⟨n,rfl,rfl⟩:=DataW.trod_bool ht h;exact⟨n,rfl,trivial⟩⟩
def bri(s:Η):Prop:=s.size<=140737488351232
def YJ{P:Program}{t:Ι}(ht:P.underlying t=some .string)(hc:P.cellsOf t=1):l8 P t Dx bri:=
 ⟨hc,λenc w sp hd fuel cs x h hs=>by
  obtain⟨n,rfl,rfl,hw⟩:=DataW.trod_string ht h;refine⟨n,rfl,?_⟩;simp[Small,DataW.weights,reachBytes]at hs
  exact (zzt hs:n.size<=140737488351232)⟩
def brh{α:Type}(b:Nat)(ok:α->Prop)(xs:List α):Prop:=xs.length*b<=140737488351232/\∀x∈xs,ok x
def X5{H:Type}{P:Program}{e:Ι}{n:Nat}:∀{l:List (DataW H)},(DataW.weightsAll P e l).all (·<=n)=true->∀d∈l,(d.weights P e).all (·<=n)=true
 | [],_,_,h=>by cases h
 | x::r,h,d,hd=>by
  simp only[DataW.weightsAll,vvz,zzs]at h;rcases yya.1 hd with rfl|hd
  ·exact h.1
  exact X5 h.2 d hd
def Rw{α:Type}{p:Nat->α->Prop}:∀(n:Nat),(∀i,i<n->∃y,p i y)->∃ys:List α,ys.length=n/\∀i (h:i<ys.length),p i ys[i]
 | 0,_=>⟨[],rfl,λi h=>by simp at h⟩
 | n+1,h=>by
  obtain⟨ys,hl,hy⟩:=Rw n (λi hi=>h i (by omega));obtain⟨y,hy'⟩:=h n (by omega);refine⟨ys++[y],by simp[hl],λi hi=>?_⟩;by_cases b9:i<ys.length
  ·rw[yy2 b9];exact hy i b9
  have:i=n:=by simp at hi;omega
  subst this;rw[xxw (by omega)];simpa [hl] using hy'
def JX{α:Type}{P:Program}{t e:Ι}{T:gE α}{ok:α->Prop}{b:Nat}(h:l8 P e T ok)(ht:P.underlying t=some (.slice e))(hc:P.cellsOf t=1)(hb:P.bytesOf e=b)(vt:0<T.n):l8 P t (Ge T) (brh b ok):=by
 refine⟨hc,λenc w sp hd fuel cs x hx hs=>?_⟩;rcases Go.Deep.open_slice ht hx with ⟨rfl,rfl⟩|⟨a,len,cap,m,n,D,Pl,rfl,_,hl,hm,ub,rfl,vj⟩
 ·exact⟨[],⟨_,rfl,kD.nil T w jJ⟩,by simp,λx hx=>by cases hx⟩
 have hle:len<=m:=by rw[ub];split<;>omega
 simp only[Small,DataW.weights,ht,hb,List.all_cons,vvz,zzs,zz1,zzv,List.length_range]at hs;have bhx:∀i,i<len->∃y:α,ok y/\∃nX,T.rd w jJ y nX/\At w jJ a.block (a.off+i*T.n) nX/\a=⟨a.block,a.off,none⟩:=λi hi=>by
  obtain⟨nX,h1,h2⟩:=vj i (by omega);obtain⟨y,hy,bC⟩:=h.2 enc w sp hd n nX _ h2 (X5 hs.2.1 _ (zz5.2 ⟨i,by simpa using hi,rfl⟩));obtain⟨_,hlen,EK⟩:=World.cells?_some h1;have pd:a.spot=none:=by
   have h0:=EK 0 (by rw[h.1];exact vt);rw[zzd (by rw[hlen,h.1];exact vt)]at h0
   cases pd:a.spot with
   | none=>rfl
   | some q=>
    exfalso;by_cases rS:i*P.cellsOf e=0
    ·simp[Addr.add,rS,World.cell?,pd]at h0
     split at h0<;>cases h0
    have h00:=vj 0 (by omega);obtain⟨cs0,sP,_⟩:=h00;obtain⟨_,bjl,bhj⟩:=World.cells?_some sP;have Ep:=bhj 0 (by rw[h.1];exact vt);rw[zzd (by rw[bjl,h.1];exact vt)]at Ep
    simp[Addr.add,World.cell?,pd]at Ep
    split at Ep<;>cases Ep
  obtain⟨ab,ao,asp⟩:=a;simp only at pd;subst pd;refine⟨y,bC,nX,hy,⟨λ_ x=>x,λj u hu=>?_⟩,rfl⟩;have hj:=(zzh.1 hu).1;have:=EK j (by omega);rw[zz9,zz9,hu,h.1]at this
  exact this
 obtain⟨ys,pZ,hy⟩:=Rw len bhx;subst pZ;refine⟨ys,⟨_,rfl,some a,cap,rfl,hl,λi hi=>?_⟩,?_,λx hx=>?_⟩
 ·obtain⟨_,nX,h1,h2,h3⟩:=hy i hi;exact⟨a.block,a.off,nX,yyp some h3,h1,h2⟩
 ·have:=hs.1;simp only[reachBytes]at this;rw[yyv]at this
  omega
 obtain⟨i,hi,rfl⟩:=yyh hx;exact (hy i hi).1
def DG{α:Type}(P:Program)(fs:List Field)(o:Nat)(T:gE α)(ok:α->Prop):Prop:=
 ∀{H:Type} (enc:Ι × Ε->H) (w:Ζ) (sp:Nat->Bool) (hd:Bool) (n:Nat) (cs:Ξ) (xs:List (DataW H × List MemPlace)),xs.length=fs.length ->
  (∀(i:Nat) (f:Field),fs[i]?=some f->DataW.trod enc P w 0 sp hd n f.type ((cs.drop f.offset).take (P.cellsOf f.type))=xs[i]?) ->
  (DataW.weightsEach P (fs.map (·.type)) (xs.map (·.1))).all (·<=reachBytes)=true->cs.length=o+T.n->∃a,T.rd w jJ a (cs.drop o)/\ok a
def Ei(P:Program)(o:Nat):DG P [] o Be (λ_=>True):=λenc w sp hd n cs xs _ _ _ hl=>⟨(),by
 show cs.drop o=[];rw[List.drop_eq_nil_iff];have:Be.n=0:=rfl;omega,trivial⟩
def jQ{α β:Type}{P:Program}{f:Field}{fs:List Field}{o:Nat}{S:gE α}{T:gE β}{VZ:α->Prop}{V0:β->Prop}(h1:l8 P f.type S VZ)(ho:f.offset=o)(h2:DG P fs (o+S.n) T V0):
  DG P (f::fs) o (jy S T) (λx=>VZ x.1/\V0 x.2):=λenc w sp hd n cs xs hl hx hs hc=>by
 match xs,hl with
 | y::ys,hl=>
  have Ts:(jy S T).n=S.n+T.n:=rfl;simp only[zzp,DataW.weightsEach,vvz,zzs]at hs;have e0:=hx 0 f rfl;rw[ho,h1.1]at e0
  obtain⟨a,ha,bjz⟩:=h1.2 enc w sp hd n _ y e0 hs.1;obtain⟨b,hb,bj0⟩:=h2 enc w sp hd n cs ys (by simpa using hl) (λi g hg=>by simpa using hx (i+1) g (by simpa using hg)) hs.2 (by omega);refine⟨(a,b),⟨_,_,?_,ha,hb⟩,bjz,bj0⟩;rw[<- ww5];exact (yyf _ _).symm
def yu{α:Type}{P:Program}{t:Ι}{fs:Array Field}{T:gE α}{ok:α->Prop}(ht:P.underlying t=some (.struct fs))(hc:P.cellsOf t=T.n)(h:DG P fs.toList 0 T ok):l8 P t T ok:=
 ⟨hc,λenc w sp hd fuel cs x hx hs=>by
  obtain⟨xs,n,_,rfl,hl,hlen,hf⟩:=DataW.trod_struct ht hx;simp only[Small,DataW.weights,ht]at hs;obtain⟨a,ha,bC⟩:=h enc w sp hd n cs xs (by simpa using hlen) (λi f hi=>hf i f (by simpa using hi)) hs (by omega);exact⟨a,by simpa using ha,bC⟩⟩
def y1{α β:Type}{P:Program}{t:Ι}{T:gE α}{ok:α->Prop}(f:β->α)(g:α->β)(hg:∀a,f (g a)=a)(h:l8 P t T ok):l8 P t (T.via f) (λb=>ok (f b)):=
 ⟨h.1,λenc w sp hd fuel cs x hx hs=>by
  obtain⟨a,ha,bC⟩:=h.2 enc w sp hd fuel cs x hx hs;exact⟨g a,by show T.rd w jJ (f (g a)) cs;rw[hg];exact ha,by show ok (f (g a));rw[hg];exact bC⟩⟩
def Zj{α:Type}{P:Program}{t:Ι}{T:gE α}{ok VY:α->Prop}(h:l8 P t T ok)(hi:∀a,ok a->VY a):l8 P t T VY:=
 ⟨h.1,λenc w sp hd fuel cs x hx hs=>let ⟨a,ha,bC⟩:=h.2 enc w sp hd fuel cs x hx hs;⟨a,ha,hi a bC⟩⟩
def XI{H:Type}{enc:Ι × Ε->H}{P:Program}(hl:laidOutB P=true){W W':Ζ}(hb:Below W.heap.size W W'):∀{ts:List Ι} {vs:Ξ} {ds:List (DataW H)} {ps:List MemPlace},
  (∀t∈ts,P.readableRec t=true/\t<P.types.size)->DataW.TrodAll enc P W 0 (λ_=>true) true ts vs ds ps->(∀x∈ps,x.block<W.heap.size)->DataW.TrodAll enc P W' 0 (λb=>decide (b<W.heap.size)) true ts vs ds ps
 | [],_,_,_,_,h,_=>by
  obtain⟨rfl,rfl,rfl⟩:=trodAll_nil h;exact trodAll_mk0
 | t::ts,_,_,_,hr,h,b9=>by
  obtain⟨v,vs1,d,ds1,a,b,rfl,rfl,rfl,h1,h2⟩:=trodAll_cons h;exact⟨a,b,Below.trod hl (hr t (by simp)).1 (hr t (by simp)).2 h1 hb (λx hx=>b9 x (by simp[hx])),XI hl hb (λt ht=>hr t (by simp[ht])) h2 (λx hx=>b9 x (by simp[hx])),rfl⟩
def bMp{H:Type}{enc:Ι × Ε->H}{P:Program}{f:Func}{s:ChangeSpec}{tb:Ι}(hl:laidOutB P=true)(hr:∀t∈f.params.toList,P.readableRec t=true/\t<P.types.size)
  (Uu:s.vars=[]) (CT:f.resultTypes = #[tb]) (hb:P.underlying tb=some .bool) (ET:∀ds:List (DataW H),ds.length=f.params.size->(s.fn H ds).results=[.lit (.bool true)]/\(s.fn H ds).args=ds/\(s.fn H ds).vars=[])
  {W W':Ζ} {args:Array Ε} {ds gs:List (DataW H)} {before:List MemPlace} (hW:DataW.Whole enc P f.params.toList s.vars false W args.toList ds gs before) (Ti:Below W.heap.size W W') :
  s.post enc P f false true false false W args (.bool true) W':=by
 have b9:=hW.lt;have EC:=hW;obtain⟨p,q,hA,hV,rfl,hfz,_⟩:=hW;rw[Uu]at hV
 obtain⟨rfl,rfl⟩:=trodVars_none hV;have hlen:∀{ts:List Ι} {vs:Ξ} {ds:List (DataW H)} {ps:List MemPlace} {w:Ζ} {base:Nat} {sp:Nat->Bool} {hd:Bool},DataW.TrodAll enc P w base sp hd ts vs ds ps->ds.length=ts.length:=by
  intro ts;induction ts with
  | nil=>intro vs ds ps w base sp hd h;obtain⟨rfl,rfl,rfl⟩:=trodAll_nil h;rfl
  | cons t ts ih=>intro vs ds ps w base sp hd h;obtain⟨v,vs1,d,ds1,a,b,rfl,rfl,rfl,_,h2⟩:=trodAll_cons h;simp[ih h2]
 obtain⟨e1,e2,e3⟩:=ET ds (by simpa using hlen hA);refine⟨ds,[],p++[],[],p,[],EC,?_,?_,?_,Ti.frame _,λh=>by cases h⟩
 ·rw[zz3,e1,CT];exact trodAll_mk1 (shut_bool hb true)
 ·rw[zz3,e2];exact XI hl Ti hr hA (λx hx=>b9 x (by simp[hx]))
 rw[zz3,e3,Uu];rfl
def UU:Option TypeDesc->Bool
 | some .bool|some (.int _)|some .string|some (.slice _)=>true
 | _=>false
def bfp{P:Program}{w:Ζ}{r:Reach}{b0:Nat}{t:Ι}{v:Ε}(hf:UU (P.underlying t)=true)(nI:Value.okWide P w r b0 t v):v.cells.toList=[v]:=by
 unfold Value.okWide at nI;cases hu:P.underlying t with
 | none=>rw[hu]at hf;cases hf
 | some d=>
  rw[hu]at hf nI
  cases d<;>first|(cases hf;done)|(unfold Cell.okWide Cell.ok at nI;rw[hu]at nI;cases v<;>first|rfl|(exfalso;simp_all))
def bK2{α:Type}{P:Program}{t:Ι}{T:gE α}{ok:α->Prop}{H:Type}{enc:Ι × Ε->H}{W:Ζ}{r:Reach}{b0:Nat}{v:Ε}{d:DataW H}{ps:List MemPlace}{sp:Nat->Bool}{hd:Bool}
  (h:l8 P t T ok) (hf:UU (P.underlying t)=true) (nI:Value.okWide P W r b0 t v) (h0:DataW.Trod enc P W 0 sp hd t v d ps) (hs:Small P t d):∃a,T.rd W jJ a [v]/\ok a:=by
 obtain⟨fuel,hx⟩:=h0;rw[bfp hf nI]at hx
 exact h.2 enc W sp hd fuel [v] _ hx hs
def bK1{α:Type}{P:Program}{t:Ι}{fs:Array Field}{T:gE α}{ok:α->Prop}{H:Type}{enc:Ι × Ε->H}{W:Ζ}{r:Reach}{b0:Nat}{v:Ε}{d:DataW H}{ps:List MemPlace}{sp:Nat->Bool}{hd:Bool}
  (h:l8 P t T ok) (ht:P.underlying t=some (.struct fs)) (nI:Value.okWide P W r b0 t v) (h0:DataW.Trod enc P W 0 sp hd t v d ps) (hs:Small P t d):∃a cs,v= .agg cs/\T.rd W jJ a cs.toList/\ok a:=by
 obtain⟨fuel,hx⟩:=h0;unfold Value.okWide at nI;rw[ht]at nI
 obtain⟨cs,rfl,_⟩:=nI;obtain⟨a,h1,h2⟩:=h.2 enc W sp hd fuel _ _ hx hs;exact⟨a,cs,rfl,h1,h2⟩
open Go.RowKit
def Gy(P:Program)(f:FuncId)(args:Ξ)(w:Ζ):Prop:=zJ P f args w λv w'=>v= .bool true/\Below w.heap.size w w'
def qA{P:Program}{f:FuncId}{args:Ξ}{w:Ζ}(h:Spec P f args [.mem (a_.of w)] λv post=>v= .bool true/\∃H l,(a_.of w).le H/\post= .mem H::l):Gy P f args w:=by
 refine (h w [] w (SL.init w)).mono ?_;rintro v w' ⟨post,⟨rfl,H,l,hH,rfl⟩,hS⟩;exact⟨rfl,hS.below (.hd) hH⟩
def Gy.calls{P:Program}{f:FuncId}{args:Ξ}{w:Ζ}(h:Gy P f args w):Calls P f args.toArray w λe w'=>e= .returned (.bool true)/\Below w.heap.size w w':=
 uuf h λe w' ⟨v,he,hv,hb⟩=>⟨by rw[he,hv],hb⟩
def kD.flat{α:Type}{T:gE α}{enc:α->Ξ}{w:Ζ}{xs:List α}{v:Ε}(h:kD T w jJ xs v)(he:∀{M x cs},T.rd w M x cs->cs=enc x)(hn:∀x,(enc x).length=T.n):
  cn (a_.of w) T.n v xs.length (xs.map enc).flatten:=by
 obtain⟨a,cap,rfl,hc,hx⟩:=h.out;have hlen:(xs.map enc).flatten.length=xs.length*T.n:=by
  rw[HV (n:=T.n) _ (λx hx=>by obtain⟨y,_,rfl⟩:=zz5.1 hx;exact hn y),zzv]
 refine⟨hlen,a,cap,rfl,hc,?_⟩;rcases yy8 xs.length with h0|h0
 ·exact .inl h0
 right;obtain⟨b,off,_,rfl,_,_⟩:=hx 0 h0;refine⟨b,off,rfl,λj u hu=>?_⟩;have hj:=(zzh.1 hu).1;rcases yy8 T.n with hz|hz
 ·rw[hlen,hz]at hj;omega
 have hi:j / T.n<xs.length:=by rw[hlen]at hj;exact (uue hz).2 hj
 obtain⟨b',bq9,cs,tR,hr,gx⟩:=hx (j / T.n) hi;simp at tR;obtain⟨rfl,rfl⟩:=tR;have gU:=he hr;subst gU;have wS:j % T.n<(enc xs[j / T.n]).length:=by rw[hn];exact vvc _ hz
 have hg:=Em (n:=T.n) (xs.map enc) (λx hx=>by obtain⟨y,_,rfl⟩:=zz5.1 hx;exact hn y) (j / T.n) (j % T.n) (by simpa using hi) ((enc xs[j / T.n])[j % T.n]'wS) (by simp[zzd wS]);have Is:j / T.n*T.n+j % T.n=j:=by rw[Nat.mul_comm];exact vv0 j T.n
 rw[Is]at hg
 rw[hu]at hg
 have I8:u=(enc xs[j / T.n])[j % T.n]:=xx1 hg;have:=gx.2 (j % T.n) u (by rw[I8];exact zzd wS);rw[show off+j / T.n*T.n+j % T.n=off+j by omega]at this
 unfold World.cell? at this;unfold a_.cell a_.of;simp only at this ⊢;split at this
 ·rename_i c t f oy;rw[oy];simpa using this
 cases this
def HT{α:Type}{enc:α->Ξ}{n:Nat}{xs:List α}(hn:∀x,(enc x).length=n){j i:Nat}(hj:j<xs.length){u:Ε}(hu:(enc xs[j])[i]?=some u):((xs.map enc).flatten)[j*n+i]?=some u:=
 Em (n:=n) (xs.map enc) (λx hx=>by obtain⟨y,_,rfl⟩:=zz5.1 hx;exact hn y) j i (by simpa using hj) u (by simpa using hu)
set_option maxRecDepth 100000
structure px(X:Μ)(sz:Nat)(v:Ε)(n:Nat)(cs:Ξ):Prop where
 sl:∀{W w:Ζ} {l:Β},SL W l w->Has X l->∃a c,v= .slice a n c/\n<=c
 src:∀{W w:Ζ} {l:Β},SL W l w->Has X l->jw w sz v n cs
def px.own{v:Ε}{t:Ι}{sz n:Nat}{cs:Ξ}:px (.ob (bd v t sz n cs)) sz v n cs:=
 ⟨λh m=>by
  obtain⟨l2,r⟩:=m.rem;rcases bd.open (h.perm r.perm) with ⟨⟨a',rfl⟩,rfl,_,_⟩|⟨b',BR,rest,rfl,hc,_⟩
  ·exact⟨a',0,rfl,zzj _⟩
  exact⟨_,_,rfl,hc⟩,λh m=>jh h m⟩
def px.pt{p n sz:Nat}{t:Ι}{cs:Ξ}(h:cs.length=n*sz):px (.pt p cs t) sz (.slice (some ⟨p,0,none⟩) n n) n cs:=
 ⟨λ_ _=>⟨_,_,rfl,zzj _⟩,λhS m=>jx hS m h⟩
section
variable {W w:Ζ} {l:Β} {X:Μ} {v:Ε} {sz n:Nat} {cs:Ξ}
def QV{K:Ε->Prop}(hS:SL W l w)(m:Has X l)(hb:px X sz v n cs)(k:K (Γ n)):zd v K:=by
 obtain⟨a,c,rfl,_⟩:=hb.sl hS m;exact yg k
def bxc{α:Type}{enc:α->Ξ}{xs:List α}{j:Nat}{kk:IntKind}{K:Ε->Prop}(hS:SL W l w)(m:Has X l)(hb:px X sz v n (xs.map enc).flatten)(he:∀x,(enc x).length=sz)(fw:0<sz)(hx:xs.length=n)(hj:j<n)
  (hK:K (.agg (enc (xs[j]'(by omega))).toArray)):zl sz v (.int kk (j:Int)) λp=>zf sz p w K:=by
 obtain⟨a,c,rfl,hc⟩:=hb.sl hS m;have hs:=hb.src hS m;have hlen:(xs.map enc).flatten.length=n*sz:=by
  rw[<- hx];clear hx hs hb hK hj hc;induction xs with
  | nil=>simp
  | cons x xs ih=>simp[he,ih,yyv];omega
 cases a with
 | none=>
  have e:(xs.map enc).flatten=[]:=hs.2;have e2:(enc (xs[j]'(by omega))).length=0:=by
   rw[e]at hlen
   simp only[yyw]at hlen;rw[he];rcases yy8 sz with h|h
   ·exact h
   have:0<n*sz:=Nat.mul_pos (by omega) h;omega
  rw[he]at e2;omega
 | some p=>
  refine⟨p,_,c,kk,j,rfl,rfl,hj,?_⟩;refine⟨_,enc (xs[j]'(by omega)),rfl,he _,λi u hu=>?_,hK⟩;rw[PW];refine hs.2.2 (j*sz+i) u ?_;exact HT he (by omega) hu
end
def pq(X:Μ)(l:List cA)(u:Ε)(post:Β):Prop:=match lJ l with
 | .error e=>u= .tuple #[Θ,Γ e]/\post=[X]
 | .ok b=>∃v,u= .tuple #[v,Γ 0]/\post=[.ob (bd v 5 1 b.length (b.map bU)),X]
def pq.er{X:Μ}{l:List cA}{e:Int}(h:lJ l= .error e):pq X l (.tuple #[Θ,Γ e]) [X]:=by
 unfold pq;rw[h];exact⟨rfl,rfl⟩
def pq.ok{X:Μ}{l:List cA}{b:Φ}(h:lJ l= .ok b)(v:Ε):pq X l (.tuple #[v,Γ 0]) [.ob (bd v 5 1 b.length (b.map bU)),X]:=by
 unfold pq;rw[h];exact⟨v,rfl,rfl⟩
def bdb{x:cA}(h:nQ x=true):(cQ x).length<=5000:=by
 unfold cQ;unfold nQ at h;by_cases h1:x.kind=1
 ·rw[zzc h1];simp[ie]
 rw[zzb h1]at h ⊢
 by_cases h2:x.kind=2
 ·rw[zzc h2]at h
  have h3:x.s.size<=4096:=by
   rw[zzs]at h
   exact zzt h.2
  have:x.s.data.toList.length=x.s.size:=rfl;simp only[zzi,zza,ie];omega
 rw[zzb h2]at h;cases h
def Sj:∀{l:List cA},l.all nQ=true->(l.map cQ).flatten.length<=l.length*5000
 | [],_=>by simp
 | x::l,h=>by
  rw[List.all_cons,zzs]at h
  have h1:=bdb h.1;have h2:=Sj h.2;simp only[zzp,zz2,zza,zzi];omega
def yr(X:Μ)(v:Ε)(xs:List cA)(hx:px X 3 v xs.length (xs.map fo).flatten)(hN:xs.length<=140737488355328):SP 15 [v] [X] (pq X xs):=by
 refine Enzz λW F w hS=>?_;apply bDo;delta aI aW bg bJ ai bK bc;refine QV hS .hd hx ?_;refine bj (λh=>?_) (λh=>?_)
 ·exact⟨_,.er (by unfold lJ;rw[zzc (by omega)]),hS⟩
 refine QV hS .hd hx ?_;refine zT ?_;rw[wrap_u64 (by omega) (by omega)];have hS:=bd.nil (t:=5) (sz:=1) hS;have hS:SL W (.ob (bd Θ 5 1 ([]:Φ).length (([]:Φ).map bU))::X::F) w:=hS;refine Cc (Zw [] Θ xs.length 2 (by omega) (by simp)) ?_;clear hS;rintro Gj post rfl w hS;(try simp only[app]at hS);rw[zzo]at hS
 refine QV hS Xh hx ?_;have hb:∀i,i<=xs.length->(xs.take i).all nQ=true->(cR xs.length 2++((xs.take i).map cQ).flatten).length<=200000000:=λi hi ha=>by
  have:=Sj ha;rw[zza,ie];rw[zzf]at this
  omega
 refine⟨λvs w=>∃(i:Nat) (u:Ε),i<=xs.length/\vs=[u,Γ i]/\(xs.take i).all nQ=true/\SL W (.ob (bd u 5 1 (cR xs.length 2++((xs.take i).map cQ).flatten).length ((cR xs.length 2++((xs.take i).map cQ).flatten).map bU))::X::F) w,λvs _=>match vs with
  | [_,.int _ i]=>xs.length-i.toNat
  | _=>0,⟨0,Gj,by omega,rfl,rfl,(by simpa using hS)⟩,?_⟩
 clear hS;rintro u1 u2 w1 ⟨i,u,hi,hv,ha,hS⟩;cases hv;have hbi:=hb i hi ha;refine bj (λh=>?_) (λh=>?_)
 ·have hi:i<xs.length:=by omega
  refine bxc hS Xh hx B7 (by omega) rfl hi ?_;have rX:xs[i]∈xs:=zzk hi;have vx:xs.take (i+1)=xs.take i++[xs[i]]:=by rw[wwx];simp[hi]
  generalize xs[i]=x at *
  unfold fo;refine Gm λb w hS=>?_;refine Cc (qL x) ?_;clear hS;rintro v post ⟨rfl,rfl⟩ w hS;(try simp only[app]at hS);refine z7 ?_;cases hr:nQ x with
  | false=>
   refine zu ?_;refine⟨[X],.er ?_,aR hS⟩;unfold lJ;rw[zzb (by omega),zzb];intro h;have:=zz7.1 h x rX;rw[hr]at this;cases this
  | true=>
   refine zq ?_;have tQ:(xs.take (i+1)).all nQ=true:=by rw[vx,vvz,ha];simp[hr]
   have o0:=hb (i+1) (by omega) tQ;have kf:((xs.take (i+1)).map cQ).flatten=((xs.take i).map cQ).flatten++cQ x:=by rw[vx];simp
   rw[kf]at o0
   rw[zza,zza]at o0
   have hk:x.kind=1\/x.kind=2:=by
    unfold nQ at hr;by_cases h1:x.kind=1
    ·exact .inl h1
    rw[zzb h1]at hr
    by_cases h2:x.kind=2
    ·exact .inr h2
    rw[zzb h2]at hr;cases hr
   generalize hc:cR xs.length 2++((xs.take i).map cQ).flatten=c at *
   have mR:c.length+(cQ x).length<=200000000:=by rw[<- hc,zza];omega
   refine Gp ?_;refine zT ?_;rw[wrap_u8];refine zR (cells:=[bU (fx x.kind)]) hS rfl ?_;clear hS;intro p w hS;refine zL (m:=1) (cs:=[bU (fx x.kind)]) hS Xr (jx hS .hd rfl) rfl rfl (by intro v hv;simp only[zz8]at hv;subst hv;rfl) (by omega) (by omega) ?_;clear hS;intro u' w hS;refine Gp ?_;have hS:SL W (.ob (bd u' 5 1 (c++[fx x.kind]).length ((c++[fx x.kind]).map bU))::.pt b [Γ x.kind,Γ x.n,.string x.s] 70::X::F) w:=by
    simp only[zza,zzi,yyw,zzr,zzp,yy6];exact aR hS
   refine za (λh1=>?_) (λh1=>?_)
   ·refine Gp ?_;refine zT ?_;have eu:IntKind.u64.wrap x.n=vQ x.n:=rfl;rw[eu];refine Cc (Zw (c++[fx x.kind]) u' (vQ x.n) 8 (by omega) (by simp;omega)) ?_;clear hS;rintro v36 post rfl w hS;(try simp only[app]at hS);refine Gp ?_;refine⟨⟨i+1,v36,by omega,rfl,tQ,?_⟩,?_⟩
    ·have e:cR xs.length 2++((xs.take (i+1)).map cQ).flatten=c++[fx x.kind]++cR (vQ x.n) 8:=by
      rw[kf,<- zzg,hc];have:cQ x=fx x.kind::cR (vQ x.n) 8:=by unfold cQ;rw[zzc h1]
      rw[this];simp
     rw[e];exact aR hS
    simp only[zzw];omega
   have fw:x.s.size<=4096:=by
    unfold nQ at hr;rw[zzb h1,zzc (by omega),zzs]at hr
    exact zzt hr.2
   have TC:cQ x=fx x.kind::(cR x.s.size 2++x.s.data.toList):=by unfold cQ;rw[zzb h1]
   refine Gn λw hS=>?_;refine zT ?_;rw[wrap_u64 (by omega) (by omega)];refine Gp ?_;refine Cc (Zw (c++[fx x.kind]) u' x.s.size 2 (by omega) (by simp;omega)) ?_;clear hS;rintro XP post rfl w hS;(try simp only[app]at hS);refine Gp ?_;have Un:x.s.data.toList.length=x.s.size:=rfl;have vj:(cQ x).length=1+(2+x.s.size):=by rw[TC];simp only[zzi,zza,ie];omega
   refine zL (m:=x.s.size) (cs:=x.s.data.toList.map bU) hS Xr bzw (by simp) rfl (uE _) (by simp only[zza,zzi,yyw,ie];omega) (by simp only[zza,zzi,yyw,ie];omega) ?_;clear hS;intro v45 w hS;refine Gp ?_;refine⟨⟨i+1,v45,by omega,rfl,tQ,?_⟩,?_⟩
   ·have e:cR xs.length 2++((xs.take (i+1)).map cQ).flatten=(c++[fx x.kind]++cR x.s.size 2)++x.s.data.toList:=by
     rw[kf,<- zzg,hc,TC];simp
    rw[e];generalize c++[fx x.kind]++cR x.s.size 2=A at *
    rw[zza,zzr,Un];exact aR hS
   simp only[zzw];omega
 obtain rfl:i=xs.length:=by omega
 rw[zz0]at hS ha
 exact⟨_,.ok (by unfold lJ;rw[zzb (by omega),zzc ha]) u1,hS⟩
abbrev ng:=Ε × Φ
def fP(x:ng):zC:=bd x.1 5 1 x.2.length (x.2.map bU)
def fF(es:List ng):Ξ:=es.map Prod.fst
def nW(es:List ng):List Φ:=es.map Prod.snd
def aws(X:Μ)(q:Φ)(r:Ε)(post:Β):Prop:=∃(u:Ε) (es:List ng),nW es=(iE q).1/\r= .tuple #[u,Γ ((iE q).2:Nat)]/\post=[.ob (bd u 28 1 es.length (fF es)),.ob (zg fP es),X]
def bx8(X:Μ)(v:Ε)(q:Φ)(hq:cK X v q)(hN:q.length<=10000000000):SP 272 [v] [X] (aws X q):=by
 refine Enzz λW F w hS=>?_;apply bGr;delta aI ai bc;have hS:=bd.nil (t:=28) (sz:=1) (zg.nil (A:=fP) hS);refine⟨λvs w=>∃(u:Ε) (es:List ng) (at_:Nat),vs=[u,Γ at_]/\at_<=q.length/\es.length*8<=at_/\nW es++(iE (q.drop at_)).1=(iE q).1/\at_+(iE (q.drop at_)).2=(iE q).2 /\
   SL W (.ob (bd u 28 1 es.length (fF es))::.ob (zg fP es)::X::F) w,λvs _=>match vs with
  | [_,.int _ i]=>q.length-i.toNat
  | _=>0,⟨_,[],0,rfl,zz6 _,zzj _,rfl,by simp,hS⟩,?_⟩
 clear hS;rintro u1 u2 w1 ⟨u,es,i,hv,hi,h8,h1,h2,hS⟩;cases hv;refine WV hS Xh hq hi ?_;intro v12 cF;refine Cc (YS X v12 (q.drop i) cF (by rw[zzq];omega)) ?_;clear hS;intro Gj post hQ w hS;unfold tn at hQ;cases ht:f_ (q.drop i) with
 | error e=>
  rw[ht]at hQ
  obtain⟨rfl,rfl⟩:=hQ;(try simp only[app]at hS);refine Gp ?_
  have he:=Xy ht;rw[Du ht]at h1 h2
  refine Υ ?_;refine⟨_,⟨u1,es,by simpa using h1,?_,rfl⟩,aR hS⟩;rw[<- h2];rfl
 | ok x=>
  obtain⟨p,n⟩:=x;rw[ht]at hQ
  obtain⟨y,rfl,rfl⟩:=hQ;(try simp only[app]at hS);refine Gp ?_
  have hl:=Dy ht;rw[F8 ht]at h1 h2
  rw[zzq]at hl
  refine Χ ?_;have s3:=hS.p6 .hd;obtain⟨ay,cy,ey,_⟩:=bd.at hS .hd;subst ey;refine zR (cells:=[.slice ay p.length cy]) hS rfl ?_;clear hS;intro b w hS;refine zL (m:=1) (cs:=[.slice ay p.length cy]) hS Xr (jx hS .hd rfl) rfl rfl (by intro v hv;simp only[zz8]at hv;subst hv;rfl) (by omega) (by omega) ?_;clear hS;intro u' w hS;have hS:=zg.snoc (A:=fP) (xs:=es) (x:=(.slice ay p.length cy,p)) (SL.bo hS (t:=.ob (zg fP es)::.ob (bd (.slice ay p.length cy) 5 1 p.length (p.map bU))::.ob (bd u' 28 1 (es.length+1) (fF es++[.slice ay p.length cy]))::X::F) Xi);refine Zy (a:=i) (b:=n) (by omega) ?_;refine⟨⟨u',es++[(.slice ay p.length cy,p)],i+n,rfl,by omega,by simp;omega,?_,?_,?_⟩,?_⟩
  ·rw[<- h1,<- ww5];simp[nW]
  ·rw[<- h2,<- ww5];simp only;omega
  ·rw[show (es++[((Value.slice ay p.length cy,p):ng)]).length=es.length+1 by simp,show fF (es++[((Value.slice ay p.length cy,p):ng)])=fF es++[.slice ay p.length cy] by simp[fF]];exact aR hS
  simp only[zzw];omega
def bdc{n:Nat}(h:n<=1099511627776):lJ [⟨1,n,⟨#[]⟩⟩]= .ok (cW n):=by
 have e:vQ (n:Int)=(n:Int):=by unfold vQ;omega
 unfold lJ;rw[zzb (by simp),zzc (by simp[nQ])];show Except.ok (cR ((1:Nat):Int) 2++(cQ ⟨1,n,⟨#[]⟩⟩++[]))=_;unfold cQ;rw[zzc rfl,e];show Except.ok ([fx ((1:Int).fdiv (2 ^ (8*1))),fx ((1:Int).fdiv (2 ^ (8*0)))]++(fx 1::cR n 8++[]))=_;rw[zz3];rfl
def Gu(n:Int)(r:Ε)(post:Β):Prop:=if n<1\/1099511627776<n then r= .tuple #[Θ,Γ 1]/\post=[] else ∃u,r= .tuple #[u,Γ 0]/\post=[.ob (bd u 5 1 (bY (cW n.toNat)).length ((bY (cW n.toNat)).map bU))]
def qa(n:Int):SP 283 [Γ n] [] (Gu n):=by
 refine Enzz λW F w hS=>?_;apply bG3;delta aI ai bK bc;unfold Gu;refine bj (λh=>?_) (λh=>?_)
 ·exact⟨[],by rw[zzc (.inl h)];exact⟨rfl,rfl⟩,hS⟩
 refine bj (λh2=>?_) (λh2=>?_)
 ·exact⟨[],by rw[zzc (.inr h2)];exact⟨rfl,rfl⟩,hS⟩
 obtain⟨k,rfl⟩:=xxs (show 0<=n by omega);have hx:=bdc (n:=k) (by omega);refine yW (cells:=fo ⟨1,k,⟨#[]⟩⟩) rfl ?_;refine zR (cells:=fo ⟨1,k,⟨#[]⟩⟩) hS rfl ?_;clear hS;intro p w hS;refine Cc (yr (.pt p (fo ⟨1,k,⟨#[]⟩⟩) 70) _ [⟨1,k,⟨#[]⟩⟩] (px.pt rfl) (by simp)) ?_;clear hS;intro v post hQ w hS;unfold pq at hQ;rw[hx]at hQ
 obtain⟨u,rfl,rfl⟩:=hQ;(try simp only[app]at hS);refine Gp ?_
 refine Χ ?_;refine Cc (Z9 (.ob (bd u 5 1 (cW k).length ((cW k).map bU))) u (cW k) cK.own (by rw[Ap];omega)) ?_;clear hS;intro v post hQ w hS;unfold sB at hQ;rw[zzb (by rw[Ap];omega)]at hQ
 obtain⟨y,rfl,rfl⟩:=hQ;(try simp only[app]at hS);refine Gp ?_
 refine⟨[.ob (bd y 5 1 (bY (cW k)).length ((bY (cW k)).map bU))],?_,aR hS⟩;rw[zzb (by omega)];exact⟨y,rfl,rfl⟩
abbrev K7(rp:Nat)(lv:Ε)(n f:Int)(es:List ng):Β:=[.pt rp [lv,Γ n,Γ f] 397,.ob (bd lv 28 1 es.length (fF es)),.ob (zg fP es)]
def o8(es:List ng):Option Int:=match es with
 | []=>none
 | e::_=>ou e.2
def Yf(rp:Nat)(lv:Ε)(n f:Int)(es:List ng):SP 273 [Δ rp] (K7 rp lv n f es) (bA (.bool (o8 es).isSome) (K7 rp lv n ((o8 es).getD f) es)):=by
 refine Enzz λW F w hS=>?_;apply bGs;delta aI aW bS bk br ai;refine Gp ?_;refine zy hS (t:=28) (sz:=1) (n:=es.length) (cells:=fF es) Xh ?_;refine bj (λh=>?_) (λh=>?_)
 ·have:es=[]:=zzl (by omega);subst this;exact⟨_,⟨rfl,rfl⟩,hS⟩
 obtain⟨e,es,rfl⟩:∃e iS,es=e::iS:=by
  cases es with
  | nil=>simp at h
  | cons e iS=>exact⟨e,iS,rfl⟩
 refine Gp ?_;refine yv (j:=0) hS (t:=28) (n:=(e::es).length) (cells:=fF (e::es)) Xh (by simp) (u:=e.1) rfl ?_;have hS:=zg.take (t:=0) (x:=e) (SL.bo hS (t:=.ob (zg fP (e::es))::.pt rp [lv,Γ n,Γ f] 397::.ob (bd lv 28 1 (e::es).length (fF (e::es)))::F) Xi) rfl;have lj:∀{w:Ζ} {k:Int},SL W (.ob (fP e)::.ob (zg fP ((e::es).eraseIdx 0))::.pt rp [lv,Γ n,Γ k] 397::.ob (bd lv 28 1 (e::es).length (fF (e::es)))::F) w ->
   SL W (.pt rp [lv,Γ n,Γ k] 397::.ob (bd lv 28 1 (e::es).length (fF (e::es)))::.ob (zg fP (e::es))::F) w:=λ{w k} h=>by
  have h2:SL W (.ob (zg fP (e::es))::.pt rp [lv,Γ n,Γ k] 397::.ob (bd lv 28 1 (e::es).length (fF (e::es)))::F) w:=zg.put h (by simp);exact SL.bo h2 Xi
 have hR:cK (.ob (fP e)) e.1 e.2:=cK.own;refine Cc (yq (.ob (fP e)) e.1 e.2 hR) ?_;clear hS;intro v post hQ w hS;unfold uH at hQ;have hh:o8 (e::es)=ou e.2:=rfl;rw[hh];unfold ou;cases hd:gJ e.2 with
 | error k=>
  rw[hd]at hQ
  obtain⟨rfl,rfl⟩:=hQ;(try simp only[app]at hS);refine Gp ?_
  have hk:k≠0:=by
   intro hk;rw[Ht]at hd
   split at hd
   ·cases hd
   rename_i h0;cases hd;exact h0 hk
  refine za (λ_=>?_) (λh=>absurd hk h);exact⟨_,⟨rfl,rfl⟩,lj hS⟩
 | ok l=>
  rw[hd]at hQ
  obtain⟨y,rfl,rfl⟩:=hQ;(try simp only[app]at hS);refine Gp ?_
  refine Χ ?_;refine zy hS (t:=70) (sz:=3) (n:=l.length) (cells:=(l.map fo).flatten) Xh ?_;refine bj (λh1=>?_) (λh1=>?_)
  ·have:EM l=none:=by
    match l,h1 with
    | [],_=>rfl
    | [x],h1=>simp at h1
    | _::_::_,_=>rfl
   simp only[this];exact⟨_,⟨rfl,rfl⟩,lj (k:=f) (aR hS)⟩
  obtain⟨x,rfl⟩:∃x,l=[x]:=List.length_eq_one_iff.1 (by omega);have hx:EM [x]=if x.kind=1/\1<=x.n/\x.n<=1099511627776 then some x.n else none:=rfl
  simp only[hx];refine yw (j:=0) (i:=0) (x:=x) (xs:=[x]) hS (t:=70) (sz:=3) (n:=1) Xh B7 rfl (by omega) (u:=Γ x.kind) rfl ?_;refine bj (λh2=>?_) (λh2=>?_)
  ·rw[zzb (by omega)];exact⟨_,⟨rfl,rfl⟩,lj (k:=f) (aR hS)⟩
  refine yw (j:=0) (i:=1) (x:=x) (xs:=[x]) hS (t:=70) (sz:=3) (n:=1) Xh B7 rfl (by omega) (u:=Γ x.n) rfl ?_;refine bj (λh3=>?_) (λh3=>?_)
  ·rw[zzb (by omega)];exact⟨_,⟨rfl,rfl⟩,lj (k:=f) (aR hS)⟩
  refine yw (j:=0) (i:=1) (x:=x) (xs:=[x]) hS (t:=70) (sz:=3) (n:=1) Xh B7 rfl (by omega) (u:=Γ x.n) rfl ?_;refine bj (λh4=>?_) (λh4=>?_)
  ·rw[zzb (by omega)];exact⟨_,⟨rfl,rfl⟩,lj (k:=f) (aR hS)⟩
  rw[zzc ⟨by omega,by omega,by omega⟩];refine yw (j:=0) (i:=1) (x:=x) (xs:=[x]) hS (t:=70) (sz:=3) (n:=1) Xh B7 rfl (by omega) (u:=Γ x.n) rfl ?_;refine Gn λw hS=>?_;exact⟨_,⟨rfl,rfl⟩,lj (k:=x.n) (aR hS)⟩
def DL(X:Μ)(q:Φ)(r:Ε)(post:Β):Prop:=match gA q with
 | none=>r= .tuple #[Γ 0,Θ,Γ 0,Γ 3]/\post=[X]
 | some (f,l,n)=>∃(u:Ε) (es:List ng),nW es=l/\r= .tuple #[Γ f,u,Γ (n:Nat),Γ 0]/\post=[.ob (cz u 28 1 es.length (fF es)),.ob (zg fP es),X]
def bu7(es:List ng)(n:Nat):Option (Int × List Φ × Nat):=match es with
 | []=>none
 | e::iS=>(ou e.2).map λk=>(k,nW iS,n)
def bwa{q:Φ}{es:List ng}(he:nW es=(iE q).1):gA q=bu7 es (iE q).2:=by
 unfold gA;rw[<- he];cases es with
 | nil=>rfl
 | cons e es=>rfl
def qc(X:Μ)(v:Ε)(q:Φ)(hq:cK X v q)(hN:q.length<=10000000000):SP 226 [v] [X] (DL X q):=by
 refine Enzz λW F w hS=>?_;apply bFl;delta bh bg bk bJ ai bc;refine Cc (bx8 X v q hq hN) ?_;clear hS;rintro r post ⟨u,es,he,rfl,rfl⟩ w hS;(try simp only[app]at hS);have s3:=hS.p6 .hd;obtain⟨au,cu,eu,_⟩:=bd.at hS .hd;subst eu;refine Gp ?_;refine⟨_,rfl,zD hS ?_⟩;clear hS;intro rp w hS;have hS:SL W (.pt rp [.slice au es.length cu,Γ ((iE q).2:Nat),Γ 0] 397::.ob (bd (.slice au es.length cu) 28 1 es.length (fF es))::.ob (zg fP es)::X::F) w:=hS;refine Cc (Yf rp (.slice au es.length cu) ((iE q).2:Nat) 0 es) ?_;clear hS;rintro v post ⟨rfl,rfl⟩ w hS;(try simp only[app]at hS);refine z7 ?_;have hr:=bwa he;cases hd:o8 es with
 | none=>
  refine zu ?_;refine⟨[X],?_,aR hS⟩;unfold DL;have:gA q=none:=by
   rw[hr];cases es with
   | nil=>rfl
   | cons e es=>have hd:ou e.2=none:=hd;show (ou e.2).map _=none;rw[hd];rfl
  rw[this];exact⟨rfl,rfl⟩
 | some k=>
  refine zq ?_;cases es with
  | nil=>cases hd
  | cons e es=>
   have hd:ou e.2=some k:=hd;have hr:gA q=some (k,nW es,(iE q).2):=by
    rw[hr];show (ou e.2).map _=_;rw[hd];rfl
   rw[show (o8 (e::es)).getD 0=k by show (ou e.2).getD 0=k;rw[hd];rfl]at hS
   refine Gn λw hS=>?_;have hS:=zg.take (t:=0) (x:=e) (SL.bo hS (t:=.ob (zg fP (e::es))::.pt rp [.slice au (e::es).length cu,Γ ((iE q).2:Nat),Γ k] 397::.ob (bd (.slice au (e::es).length cu) 28 1 (e::es).length (fF (e::es)))::X::F) Xi) rfl;have hS:=cz.of (SL.bo hS (t:=.ob (bd (.slice au (e::es).length cu) 28 1 (e::es).length (fF (e::es)))::.pt rp [.slice au (e::es).length cu,Γ ((iE q).2:Nat),Γ k] 397::.ob (zg fP ((e::es).eraseIdx 0))::X::F) Xi);refine Yd (k:=1) hS (by simp) ?_;clear hS;intro y hS;have e1:(e::es).length-1=es.length:=by simp
   have e2:(fF (e::es)).drop (1*1)=fF es:=rfl;have e3:(e::es).eraseIdx 0=es:=rfl;rw[e1,e2,e3]at hS
   refine Gp ?_;refine⟨[.ob (cz y 28 1 es.length (fF es)),.ob (zg fP es),X],?_,aR hS⟩;unfold DL;rw[hr];exact⟨y,es,rfl,rfl,rfl⟩
section
variable {W w:Ζ} {l:Β} {X:Μ} {v:Ε} {sz n:Nat}
end
abbrev gD(u:Ε)(L:List cA):Μ:=.ob (bd u 70 3 L.length (L.map fo).flatten)
def bfg(L:List cA):∀v∈(L.map fo).flatten,v.oneCell'=true:=tc Si L
def zE{W w:Ζ}{l F:Β}{x y:Ε}{L M:List cA}{K:Ε->Ζ->Prop}(hS:SL W l w)(hr:eW (gD x L) l F)(gK:jw w 3 y M.length (M.map fo).flatten)(hb:L.length+M.length<=1000000)
  (h:∀v' w',SL W (gD v' (L++M)::F) w'->K v' w'):zt 3 32 [Γ 0,Γ 0,.string ⟨#[]⟩] 70 x y w K:=
 zL hS hr gK (n_ HL M) rfl (bfg M) (by omega) (by omega) λv' w' hS=>h v' w' (by
  have e:((L++M).map fo).flatten=(L.map fo).flatten++(M.map fo).flatten:=by simp
  show SL W (.ob (bd v' 70 3 (L++M).length ((L++M).map fo).flatten)::F) w';rw[e,zza];exact hS)
def Ba{W w:Ζ}{l:Β}{b:Nat}{x:cA}(hS:SL W l w)(m:Has (.pt b (fo x) 70) l):jw w 3 (.slice (some ⟨b,0,none⟩) 1 1) [x].length ([x].map fo).flatten:=by
 simpa using jx (m:=1) (sz:=3) (cap:=1) hS m rfl
section
variable (b:Nat) (x1 x2 x3 x4 x5 x6 x7:Int) (t:Ι)
def rY:SP 13 [.slice (some ⟨b,0,none⟩) 1 1] [.pt b [Γ x1] t] (λu post=>post=[gD u [iF x1]]):=yG b [x1] t (by simp)
def Jk:SP 13 [.slice (some ⟨b,0,none⟩) 2 2] [.pt b [Γ x1,Γ x2] t] (λu post=>post=[gD u [iF x1,iF x2]]):=yG b [x1,x2] t (by simp)
def UT:SP 13 [.slice (some ⟨b,0,none⟩) 4 4] [.pt b [Γ x1,Γ x2,Γ x3,Γ x4] t] (λu post=>post=[gD u [iF x1,iF x2,iF x3,iF x4]]):=yG b [x1,x2,x3,x4] t (by simp)
def bmo:SP 13 [.slice (some ⟨b,0,none⟩) 7 7] [.pt b [Γ x1,Γ x2,Γ x3,Γ x4,Γ x5,Γ x6,Γ x7] t] (λu post=>post=[gD u [iF x1,iF x2,iF x3,iF x4,iF x5,iF x6,iF x7]]):=yG b [x1,x2,x3,x4,x5,x6,x7] t (by simp)
end
def Bo(H:a_)(t:bB)(u:Ε)(post:Β):Prop:=match tG t with
 | .error e=>u= .tuple #[Θ,Γ e]/\post=[.mem H]
 | .ok b=>∃v,u= .tuple #[v,Γ 0]/\post=[.ob (bd v 5 1 b.length (b.map bU)),.mem H]
def oU(t:bB)(i:Nat):List cA:=[iF t.aw,iF t.ops.length]++((t.ops.take i).map oW).flatten
def pK(t:bB)(i:Nat):List cA:=oU t t.ops.length++[iF t.notes.length]++((t.notes.take i).map oV).flatten
def bd4{t:bB}{i:Nat}(h:i<t.ops.length):oU t (i+1)=oU t i++oW t.ops[i]:=by
 unfold oU;rw[zze h,zzr,yyq,xxk,wwa,zzg]
def bd7{t:bB}{i:Nat}(h:i<t.notes.length):pK t (i+1)=pK t i++oV t.notes[i]:=by
 unfold pK;rw[zze h,zzr,yyq,xxk,wwa,<- zzg]
def bd5(t:bB):pK t t.notes.length=j9 t:=by
 unfold pK oU j9;simp
def Ag{α β:Type}{f:α->List β}{n:Nat}(hn:∀x,(f x).length=n)(xs:List α):((xs.map f).flatten).length=xs.length*n:=by
 induction xs with
 | nil=>simp
 | cons x xs ih=>simp[hn,ih,yyv];omega
def Sx(t:bB)(i:Nat):(oU t i).length<=2+5*i:=by
 unfold oU;rw[zza,Ag (n:=5) (λ_=>rfl),zzf];simp;omega
def bd6(t:bB)(i:Nat):(pK t i).length<=3+5*t.ops.length+7*i:=by
 have:=Sx t t.ops.length;unfold pK;rw[zza,zza,Ag (n:=7) (λ_=>rfl),zzf];simp;omega
def YL(H:a_)(x:gO)(t:bB)(hx:gn H x t):SP 190 [agg (dD x)] [.mem H] (Bo H t):=by
 refine Enzz λW F w hS=>?_;apply bEr;delta aI aW bg bJ ai bK bc;refine zx hS λxb w hS=>?_;refine Gp ?_;refine Cg (zW H x t hx) λw hS=>?_;refine zw (λh=>?_) (λhm=>?_)
 ·exact⟨[.mem H],by unfold Bo tG;rw[h];exact⟨rfl,rfl⟩,aR hS⟩
 have hb:=(nN.1 hm).1;unfold dD at hS;rw[hx.aw]at hS
 refine Gp ?_;refine zn hx.ops ?_;refine Gm λb w hS=>?_;refine Cc (Jk b t.aw t.ops.length 2) ?_;clear hS;rintro u post rfl w hS;(try simp only[app]at hS);refine Gp ?_
 refine zn hx.ops ?_;have hS:SL W (gD u (oU t 0)::_) _:=hS;refine⟨λvs w=>∃(i:Nat) (u:Ε),vs=[u,Γ i]/\i<=t.ops.length/\SL W (gD u (oU t i)::.pt xb [Γ t.aw,x.ov,x.nv] 236::.mem H::F) w,
  λvs _=>match vs with|[_,.int _ i]=>(t.ops.length-i).toNat|_=>0,⟨0,_,rfl,by omega,aR hS⟩,?_⟩
 clear hS;rintro u v3 w ⟨i,_,dq,hi,hS⟩;cases dq;have oe:=Sx t i;refine bj (λh=>?_) (λh=>?_)
 ·have bn:i<t.ops.length:=by omega
  have hs:=bd4 bn;refine zB hS Xh wx hx.ops (x:=t.ops[i]) (by simp[bn]) bn ?_;generalize t.ops[i]=o at *
  obtain⟨ol,ot,ok,og,ov⟩:=o;refine Gm λb w hS=>?_;unfold iR at hS;refine Cg (y2 og) λw hS=>?_;refine Gm λb w hS=>?_;refine Cc (UT b ol ot ok (fV og) 2) ?_;clear hS;rintro u2 post rfl w hS;try simp only[app]at hS
  refine zE (L:=oU t i) hS Xr (jh hS Xh) (by simp;omega) λu3 w hS=>?_;refine Gp ?_;refine Cg (yj ov) λw hS=>?_;refine Gm λb w hS=>?_;refine zE (M:=[tF ov]) hS Xr (Ba hS Xh) (by simp;omega) λu4 w hS=>?_;refine Gp ?_;refine⟨⟨i+1,_,rfl,by omega,?_⟩,by dsimp only;omega⟩;rw[hs];simp only[zzg]at hS;have hS:SL W (gD _ (oU t i++oW ⟨ol,ot,ok,og,ov⟩)::_) _:=hS;exact aR hS
 have gh:i=t.ops.length:=by omega
 subst gh;refine Gp ?_;refine zn hx.g_ ?_;refine Gm λb w hS=>?_;refine Cc (rY b t.notes.length 2) ?_;clear hS;rintro u2 post rfl w hS;try simp only[app]at hS
 refine zE (L:=oU t t.ops.length) hS Xr (jh hS Xh) (by simp;omega) λu3 w hS=>?_;refine Gp ?_;refine zn hx.g_ ?_;refine⟨λvs w=>∃(i:Nat) (u:Ε),vs=[u,Γ i]/\i<=t.notes.length/\SL W (gD u (pK t i)::.pt xb [Γ t.aw,x.ov,x.nv] 236::.mem H::F) w,
  λvs _=>match vs with|[_,.int _ i]=>(t.notes.length-i).toNat|_=>0,⟨0,u3,rfl,by omega,?_⟩,?_⟩
 ·rw[show pK t 0=oU t t.ops.length++[iF t.notes.length] by unfold pK;simp];exact aR hS
 clear hS;rintro u v3 w ⟨i,_,dq,hi,hS⟩;cases dq;have Ak:=bd6 t i;refine bj (λh=>?_) (λh=>?_)
 ·have bn:i<t.notes.length:=by omega
  have hs:=bd7 bn;refine zB hS Xh wu hx.g_ (x:=t.notes[i]) (by simp[bn]) bn ?_;generalize t.notes[i]=o at *
  obtain⟨n1,n2,n3,n4,n5,n6,n7⟩:=o;refine Gm λb w hS=>?_;unfold jP at hS;refine Cg (y2 n7) λw hS=>?_;refine Gm λb w hS=>?_;refine Cc (bmo b n1 n2 n3 n4 n5 n6 (fV n7) 2) ?_;clear hS;rintro u2 post rfl w hS;try simp only[app]at hS
  refine zE (L:=pK t i) hS Xr (jh hS Xh) (by simp;omega) λu3 w hS=>?_;refine Gp ?_;refine⟨⟨i+1,_,rfl,by omega,?_⟩,by dsimp only;omega⟩;rw[hs];have hS:SL W (gD _ (pK t i++oV ⟨n1,n2,n3,n4,n5,n6,n7⟩)::_) _:=hS;exact aR hS
 have gh:i=t.notes.length:=by omega
 subst gh;rw[bd5]at hS Ak
 refine Cc (yr (gD u (j9 t)) u (j9 t) px.own (by omega)) ?_;clear hS;rintro r post hq w hS;try simp only[app]at hS
 unfold pq at hq;unfold Bo tG;rw[hm,zzc rfl];cases he:lJ (j9 t) with
 | error e=>
  rw[he]at hq
  obtain⟨rfl,rfl⟩:=hq;(try simp only[app]at hS);refine Gp ?_
  exact bw hS
 | ok bs=>
  rw[he]at hq
  obtain⟨v,rfl,rfl⟩:=hq;(try simp only[app]at hS);refine Gp ?_
  exact⟨_,⟨v,rfl,rfl⟩,aR hS⟩
section
variable (a b c d e f g:cA)
end
def jr(c:da):List cA:=[iF c.table,iF c.key,iF (fV c.gone),tF c.val]
section
variable {α β γ:Type}
def jY(p:bP->α × bP)(f:α->bP->β × bP)(r:bP):(α × β) × bP:=(((p r).1,(f (p r).1 (p r).2).1),(f (p r).1 (p r).2).2)
def lx(g:α->β)(p:bP->α × bP)(r:bP):β × bP:=(g (p r).1,(p r).2)
end
def q'{m:Int}(hm:0<=m)(r:bP):0<=(bN m r).1/\(bN m r).1<=m:=by
 unfold bN;split
 ·exact⟨yyj _,hm⟩
 omega
def boa{α:Type}(one:bP->α × bP){i:Nat}{r:bP}(h:i=0\/r.bad=true):gj one i r=([],r):=by
 cases i with
 | zero=>rfl
 | succ i=>unfold gj;rw[zzc (by rcases h with h|h;cases h;exact h)]
def bn9{α:Type}(one:bP->α × bP){i:Nat}{r:bP}(h:r.bad=false):gj one (i+1) r=((one r).1::(gj one i (one r).2).1,(gj one i (one r).2).2):=by
 conv=>lhs;unfold gj
 rw[zzb (by rw[h];decide)]
structure ni{α:Type}(one:bP->α × bP)(n:Nat)(r0:bP)(xs:List α)(k:Nat)(r:bP):Prop where
 eq:gj one n r0=(xs++(gj one k r).1,(gj one k r).2)
 le:xs.length+k<=n
def ni.start{α:Type}(one:bP->α × bP)(n:Nat)(r:bP):ni one n r [] n r:=⟨rfl,by simp⟩
def ni.step{α:Type}{one:bP->α × bP}{n:Nat}{r0:bP}{xs:List α}{k:Nat}{r:bP}(h:ni one n r0 xs (k+1) r)(hb:r.bad=false):ni one n r0 (xs++[(one r).1]) k (one r).2:=
 ⟨by rw[h.eq,bn9 one hb];simp,by have:=h.le;rw[zza,yyb];omega⟩
def ni.stop{α:Type}{one:bP->α × bP}{n:Nat}{r0:bP}{xs:List α}{k:Nat}{r:bP}(h:ni one n r0 xs k r)(hb:k=0\/r.bad=true):gj one n r0=(xs,r):=by
 rw[h.eq,boa one hb,zz3]
def bth(rp:Nat)(r:bP):SP 229 [Δ rp] [.ob (dc rp r)] (bA (agg (iR (m_ r).1)) [.ob (dc rp (m_ r).2)]):=by
 refine Enzz λW F w hS=>?_;apply bFo;delta ai bK;refine Gm λb w hS=>?_;refine Cg (zG rp r) λw hS=>?_;refine Cg (zp rp (dM r).2 8) λw hS=>?_;refine Cg (zG rp _) λw hS=>?_;refine Cg (yP rp _) λw hS=>?_;refine Cg (zZ rp _) λw hS=>?_;simp only[m_];exact bw hS
def QO(rp:Nat)(r:bP):SP 230 [Δ rp] [.ob (dc rp r)] (bA (agg (jP (oD r).1)) [.ob (dc rp (oD r).2)]):=by
 refine Enzz λW F w hS=>?_;apply bFq;delta ai;refine Gm λb w hS=>?_;refine Cg (zp rp r 2) λw hS=>?_;refine Cg (zp rp _ 64) λw hS=>?_;refine Cg (zp rp _ 8) λw hS=>?_;refine Cg (zp rp _ 8) λw hS=>?_;refine Cg (zG rp _) λw hS=>?_;refine Cg (zG rp _) λw hS=>?_;refine Cg (yP rp _) λw hS=>?_;simp only[oD];exact bw hS
def vS(X:Μ)(H:a_)(b:Φ)(u:Ε)(post:Β):Prop:=match mO b with
 | .error e=>e≠0/\∃H',H.le H'/\u= .tuple #[agg (dD ⟨0,Θ,Θ⟩),Γ e]/\post=[X,.mem H']
 | .ok t=>∃x H',H.le H'/\u= .tuple #[agg (dD x),Γ 0]/\gn H' x t/\post=[X,.mem H']
def a_1{b:Φ}{e:Int}(h:gJ b= .error e):mO b= .error e:=by unfold mO;rw[h]
def a_3{b:Φ}{l:List cA}(h:gJ b= .ok l)(h2:¬((mY ⟨l,false⟩).2.bad=false/\(mY ⟨l,false⟩).2.l=[]/\du (mY ⟨l,false⟩).1=true)):mO b= .error 3:=by
 unfold mO x8;rw[h];simp only;rw[zzb h2]
def a_2{b:Φ}{l:List cA}(h:gJ b= .ok l)(h2:(mY ⟨l,false⟩).2.bad=false/\(mY ⟨l,false⟩).2.l=[]/\du (mY ⟨l,false⟩).1=true):mO b= .ok (mY ⟨l,false⟩).1:=by
 unfold mO x8;rw[h];simp only;rw[zzc h2]
def D_{b:Φ}{e:Int}(h:gJ b= .error e):e≠0:=by
 rw[Ht]at h
 split at h
 ·cases h
 rename_i h2;cases h;exact h2
abbrev mH(v:Ε)(l:List fB):Μ:=.ob (bd v 354 5 l.length (l.map iR).flatten)
abbrev mG(v:Ε)(l:List gF):Μ:=.ob (bd v 357 7 l.length (l.map jP).flatten)
structure Gx(l:List cA)(aw:Int)(r1:bP):Prop where
 aw:(mY ⟨l,false⟩).1.aw=aw
 ops:(mY ⟨l,false⟩).1.ops=(gj m_ (bN 4096 r1).1.toNat (bN 4096 r1).2).1
 g_:∀r2,(gj m_ (bN 4096 r1).1.toNat (bN 4096 r1).2).2=r2->(mY ⟨l,false⟩).1.notes=(gj oD (bN 256 r2).1.toNat (bN 256 r2).2).1/\(mY ⟨l,false⟩).2=(gj oD (bN 256 r2).1.toNat (bN 256 r2).2).2
def Gx.is(l:List cA):Gx l (dM ⟨l,false⟩).1 (dM ⟨l,false⟩).2:=⟨rfl,rfl,λr2 h=>by subst h;exact⟨rfl,rfl⟩⟩
def YK(X:Μ)(H:a_)(v:Ε)(bs:Φ)(hv:cK X v bs):SP 163 [v] [X,.mem H] (vS X H bs):=by
 refine Enzz λW F w hS=>?_;apply bDz;delta aI bg bJ ai bK bc;refine Gb λzb w hS=>?_;refine Cc (yq X v bs hv) ?_;clear hS;rintro r post hq w hS;unfold uH at hq;cases hd:gJ bs with
 | error e=>
  rw[hd]at hq
  obtain⟨rfl,rfl⟩:=hq;have he:=D_ hd;(try simp only[app]at hS);refine Gp ?_
  refine za (λ_=>?_) (λh=>absurd he h);refine Gn λw hS=>?_;exact⟨[X,.mem H],by unfold vS;rw[a_1 hd];exact⟨he,H,a_.le_refl H,rfl,rfl⟩,aR hS⟩
 | ok l=>
  rw[hd]at hq
  obtain⟨lv,rfl,rfl⟩:=hq;(try simp only[app]at hS);refine Gp ?_
  refine Χ ?_;refine Cc (yQ lv l) ?_;clear hS;rintro _ post ⟨rp,rfl,rfl⟩ w hS;try simp only[app]at hS
  refine Cc (zG rp ⟨l,false⟩) ?_;clear hS;rintro v1 post ⟨rfl,rfl⟩ w hS;try simp only[app]at hS
  have hI:=Gx.is l;generalize (dM ⟨l,false⟩).1=aw at *
  generalize (dM ⟨l,false⟩).2=r1 at *
  have kG:=q' (m:=4096) (by decide) r1;refine Gp ?_;refine Gb λxb w hS=>?_;have hS:SL W (mH Θ []::_) _:=bd.nil hS;have hS:SL W (mG Θ []::_) _:=bd.nil hS;refine⟨λus w=>us=[]/\∃ov,SL W (mH ov (gj m_ (bN 4096 r1).1.toNat (bN 4096 r1).2).1::.ob (dc rp (gj m_ (bN 4096 r1).1.toNat (bN 4096 r1).2).2)::mG Θ []::.pt xb [Γ aw,ov,Θ] 236::.pt zb [Γ 0,Θ,Θ] 236::X::.mem H::F) w,?_,?_⟩
  ·refine Cc (zp rp r1 4096) ?_;clear hS;rintro v1 post ⟨rfl,rfl⟩ w hS;try simp only[app]at hS
   generalize (bN 4096 r1).1=n1 at *
   generalize (bN 4096 r1).2=r2 at *
   refine⟨λus w=>∃(k:Nat) (ops:List fB) (r:bP) (ov:Ε),us=[Γ k]/\ni m_ n1.toNat r2 ops k r/\SL W (mH ov ops::.ob (dc rp r)::mG Θ []::.pt xb [Γ aw,ov,Θ] 236::.pt zb [Γ 0,Θ,Θ] 236::X::.mem H::F) w,
    λus _=>match us with|[.int _ i]=>i.toNat|_=>0,⟨n1.toNat,[],r2,Θ,by rw[show ((n1.toNat:Nat):Int)=n1 by omega],ni.start _ _ _,aR hS⟩,?_⟩
   clear hS;rintro v8 w ⟨k,ops,r,ov,bM,hM,hS⟩;cases bM;have hle:=hM.le;refine bj (λh=>?_) (λh=>?_)
   ·refine Cg (yO rp r) λw hS=>?_;refine zw (λhb=>?_) (λhb=>?_)
    ·obtain⟨k,rfl⟩:∃j,k=j+1:=⟨k-1,by omega⟩;have hM:=hM.step hb;refine Gn λw hS=>?_;refine Cg (bth rp r) λw hS=>?_;refine Gm λb w hS=>?_;refine yf (n:=ops.length) (xs:=ops) (y:=(m_ r).1) (enc:=iR) hS Xr Xh wx (λx=>B4 x) rfl (by omega) (by omega) λu w hS=>?_;have h1:=bd.one hS;refine Gn λw hS=>?_;refine⟨⟨k,_,_,u,by rw[show ((k+1:Nat):Int)-1=(k:Int) by omega],hM,?_⟩,by dsimp only;omega⟩;have hS:=hS.nf (x:=(m_ r).1);exact aR hS
    refine⟨rfl,ov,?_⟩;rw[hM.stop (.inr hb)];exact aR hS
   refine⟨rfl,ov,?_⟩;rw[hM.stop (.inl (by omega))];exact aR hS
  clear hS;rintro w ⟨_,ov,hS⟩;have cZ:=hI.ops;obtain⟨bjx,cJ⟩:=hI.g_ _ rfl;generalize (gj m_ (bN 4096 r1).1.toNat (bN 4096 r1).2).1=ops at *
  generalize (gj m_ (bN 4096 r1).1.toNat (bN 4096 r1).2).2=r3 at *
  have rV:=q' (m:=256) (by decide) r3;refine⟨λus w=>us=[]/\∃nv,SL W (mG nv (gj oD (bN 256 r3).1.toNat (bN 256 r3).2).1::.ob (dc rp (gj oD (bN 256 r3).1.toNat (bN 256 r3).2).2)::mH ov ops::.pt xb [Γ aw,ov,nv] 236::.pt zb [Γ 0,Θ,Θ] 236::X::.mem H::F) w,?_,?_⟩
  ·refine Cc (zp rp r3 256) ?_;clear hS;rintro v1 post ⟨rfl,rfl⟩ w hS;try simp only[app]at hS
   generalize (bN 256 r3).1=n1 at *
   generalize (bN 256 r3).2=r2 at *
   refine⟨λus w=>∃(k:Nat) (g_:List gF) (r:bP) (nv:Ε),us=[Γ k]/\ni oD n1.toNat r2 g_ k r/\SL W (mG nv g_::.ob (dc rp r)::mH ov ops::.pt xb [Γ aw,ov,nv] 236::.pt zb [Γ 0,Θ,Θ] 236::X::.mem H::F) w,
    λus _=>match us with|[.int _ i]=>i.toNat|_=>0,⟨n1.toNat,[],r2,Θ,by rw[show ((n1.toNat:Nat):Int)=n1 by omega],ni.start _ _ _,aR hS⟩,?_⟩
   clear hS;rintro v8 w ⟨k,g_,r,nv,bM,hM,hS⟩;cases bM;have hle:=hM.le;refine bj (λh=>?_) (λh=>?_)
   ·refine Cg (yO rp r) λw hS=>?_;refine zw (λhb=>?_) (λhb=>?_)
    ·obtain⟨k,rfl⟩:∃j,k=j+1:=⟨k-1,by omega⟩;have hM:=hM.step hb;refine Gn λw hS=>?_;refine Cg (QO rp r) λw hS=>?_;refine Gm λb w hS=>?_;refine yf (n:=g_.length) (xs:=g_) (y:=(oD r).1) (enc:=jP) hS Xr Xh wu HG rfl (by omega) (by omega) λu w hS=>?_;have h1:=bd.one hS;refine Gn λw hS=>?_;refine⟨⟨k,_,_,u,by rw[show ((k+1:Nat):Int)-1=(k:Int) by omega],hM,?_⟩,by dsimp only;omega⟩;have hS:=hS.nf (x:=(oD r).1);exact aR hS
    refine⟨rfl,nv,?_⟩;rw[hM.stop (.inr hb)];exact aR hS
   refine⟨rfl,nv,?_⟩;rw[hM.stop (.inl (by omega))];exact aR hS
  clear hS;rintro w ⟨_,nv,hS⟩;rw[<- bjx,<- cJ,<- cZ]at hS
  have kF:=hI.aw;generalize ht:(mY ⟨l,false⟩).1=t at *
  generalize hr:(mY ⟨l,false⟩).2=r at *
  obtain⟨H1,bX,hO,hS⟩:=bd.freeze (SL.bo hS (t:=.mem H::mH ov t.ops::mG nv t.notes::.ob (dc rp r)::.pt xb [Γ aw,ov,nv] 236::.pt zb [Γ 0,Θ,Θ] 236::X::F) Xi);obtain⟨H2,cF,hN,hS⟩:=bd.freeze hS;have hx:gn H2 ⟨aw,ov,nv⟩ t:=⟨kF.symm,hO.mono cF,hN⟩;have dW:=a_.le_trans bX cF;refine Cg (yN rp r) λw hS=>?_;have dX:¬(r.bad=false/\r.l=[]/\du t=true)->∀{w:Ζ},SL W (X::.mem H2::F) w->∃post,vS X H bs (.tuple #[agg (dD ⟨0,Θ,Θ⟩),Γ 3]) post/\SL W (app post F) w:=λh w hS=>⟨[X,.mem H2],by unfold vS;rw[a_3 hd (by rw[ht,hr];exact h)];exact⟨by decide,H2,dW,rfl,rfl⟩,hS⟩;refine zw (λhb=>?_) (λhb=>?_)
  ·have hb:=yyu hb;refine Gn λw hS=>?_;exact dX (λh=>hb ⟨h.1,h.2.1⟩) (aR hS)
  have hb:=zzt hb;refine Gp ?_;refine Cg (zW H2 ⟨aw,ov,nv⟩ t hx) λw hS=>?_;refine zw (λhm=>?_) (λhm=>?_)
  ·refine Gn λw hS=>?_;exact dX (λh=>by rw[h.2.2]at hm;cases hm) (aR hS)
  have h1:=lK hx;refine zz hS Xh rfl ?_;refine zr hS Xu rfl rfl h1 λw hS=>?_;refine Gp ?_;exact⟨[X,.mem H2],by unfold vS;rw[a_2 hd (by rw[ht,hr];exact⟨hb.1,hb.2,hm⟩),ht];exact⟨⟨aw,ov,nv⟩,H2,dW,rfl,hx,rfl⟩,aR hS⟩
def c_(t:bD):Bool:=decide (1<=t.aw/\t.aw<=1099511627776) &&
 (if t.kind=1 then decide (t.mark=0/\t.changes.length<=16/\t.signals.length<=2) && t.changes.all (λc=>kN c 8) && t.signals.all (λs=>decide (s.size<=40))
  else decide ((t.kind=2\/t.kind=3)/\1<=t.mark/\t.mark<=1099511627776/\t.changes=[]/\t.signals=[]))
def uq{c:da}{k:Int}:kN c k=true↔0<=c.table/\c.table<k/\1<=c.key/\c.key<=1099511627776/\c.val.size<=32/\(c.gone=true->c.val=emp):=by unfold kN;rw[zz1]
def ur{t:bD}:c_ t=true↔(1<=t.aw/\t.aw<=1099511627776) /\
  ((t.kind=1/\t.mark=0/\t.changes.length<=16/\t.signals.length<=2/\(∀c∈t.changes,kN c 8=true)/\∀s∈t.signals,s.size<=40) \/
   ((t.kind=2\/t.kind=3)/\1<=t.mark/\t.mark<=1099511627776/\t.changes=[]/\t.signals=[])):=by
 unfold c_
 grind
def kr{t:bD}(h:c_ t=true):(1<=t.aw/\t.aw<=1099511627776)/\(1<=t.kind/\t.kind<=3)/\(0<=t.mark/\t.mark<=1099511627776)/\t.changes.length<=16/\t.signals.length<=2/\(∀c∈t.changes,kN c 8=true)/\∀s∈t.signals,s.size<=40:=by
 obtain⟨h1,h2⟩:=ur.1 h
 grind
def j_(t:bD):List cA:=[iF t.aw,iF t.kind,iF t.mark,iF t.changes.length]++(t.changes.map jr).flatten++([iF t.signals.length]++t.signals.map tF)
def uW(t:bD):Except Int Φ:=if c_ t=true then lJ (j_ t) else .error 1
def bff(t:bD):(j_ t).length=5+t.changes.length*4+t.signals.length:=by
 unfold j_;simp only[zza,zzi,yyw,zzv];rw[Ah (f:=jr) (k:=4) (λ_=>rfl)];omega
theorem SA{t:bD}(h:c_ t=true):∀f∈j_ t,nL f:=by
 obtain⟨h1,h2,h3,h4,h5,h6,h7⟩:=kr h;intro f hf;unfold j_ at hf;simp only[zz4,yya,wwi,zz5,yy5,vvb]at hf;rcases hf with ((rfl|rfl|rfl|rfl)|⟨l,⟨c,hc,rfl⟩,hf⟩)|rfl|⟨s,hs,rfl⟩
 ·grind [kI]
 ·grind [kI]
 ·grind [kI]
 ·grind [kI]
 ·have h8:=uq.1 (h6 c hc);have hb:=D5 c.gone;unfold jr at hf;simp only[yya,yy5,vvb]at hf;rcases hf with rfl|rfl|rfl|rfl
  ·grind [kI]
  ·grind [kI]
  ·grind [kI]
  exact .inr ⟨rfl,rfl,by show c.val.size<=4096;omega⟩
 ·grind [kI]
 have:=h7 s hs;exact .inr ⟨rfl,rfl,by show s.size<=4096;omega⟩
def Sl{t:bD}(h:c_ t=true):uW t= .ok (cR (j_ t).length 2++((j_ t).map cQ).flatten)/\gJ (cR (j_ t).length 2++((j_ t).map cQ).flatten)= .ok (j_ t):=by
 have hl:=bff t;obtain⟨_,_,_,h4,h5,_,_⟩:=kr h
 grind [BZ,SA,uW]
def gM{α:Type}(one:bP->α × bP):Nat->bP->List α × bP
 | 0,r=>([],r)
 | i+1,r=>((one r).1::(gM one i (one r).2).1,(gM one i (one r).2).2)
def kE(r:bP):da × bP:=
 let b:=bN 8 r;let c:=dM b.2;let d:=rA c.2;let e:=j6 d.2
 (⟨b.1,c.1,d.1,e.1⟩,e.2)
def VL(x:Int × Int × Int × (Int × List da) × (Int × Ψ)):bD:=⟨x.1,x.2.1,x.2.2.2.1.2,x.2.2.2.2.2,x.2.2.1⟩
def k9{α:Type}(i:bP->Int × bP)(m:Nat->bP->List α × bP):bP->(Int × List α) × bP:=jY i λn=>m n.toNat
def kB:bP->bD × bP:=lx VL (jY dM λ_=>jY (bN 3) λ_=>jY dM λ_=>jY (k9 (bN 16) (gM kE)) λ_=>k9 (bN 2) (gM j6))
def B1(l:List cA):Option bD:=
 let x:=kB ⟨l,false⟩
 if x.2.bad=false/\x.2.l=[]/\c_ x.1=true then some x.1 else none
def jO(b:Φ):Except Int bD:=match gJ b with
 | .error e=>.error e
 | .ok l=>match B1 l with
  | some t=>.ok t
  | none=>.error 3
def xk{α:Type}{one:bP->α × bP}{f:α->List cA}:∀(xs:List α) (l:List cA),(∀x∈xs,∀l,one ⟨f x++l,false⟩=(x,⟨l,false⟩))->gM one xs.length ⟨(xs.map f).flatten++l,false⟩=(xs,⟨l,false⟩)
 | [],l,_=>rfl
 | x::xs,l,h=>by
  have ih:=xk xs l λy hy=>h y (.tail _ hy)
  grind [gM]
def Ru{c:da}{l:List cA}(h:0<=c.table/\c.table<=8):kE ⟨jr c++l,false⟩=(c,⟨l,false⟩):=by
 unfold kE jr;have e2:bN 8 ⟨[iF c.table,iF c.key,iF (fV c.gone),tF c.val]++l,false⟩=(c.table,⟨[iF c.key,iF (fV c.gone),tF c.val]++l,false⟩):=nR h;have e3:dM ⟨[iF c.key,iF (fV c.gone),tF c.val]++l,false⟩=(c.key,⟨[iF (fV c.gone),tF c.val]++l,false⟩):=rfl;have e4:rA ⟨[iF (fV c.gone),tF c.val]++l,false⟩=(c.gone,⟨[tF c.val]++l,false⟩):=Hi;have e5:j6 ⟨[tF c.val]++l,false⟩=(c.val,⟨l,false⟩):=rfl;simp only[e2,e3,e4,e5]
theorem bBv{t:bD}(h:c_ t=true):kB ⟨j_ t,false⟩=(t,⟨[],false⟩):=by
 obtain⟨h1,h2,h3,h4,h5,h6,h7⟩:=kr h;have e0:j_ t=iF t.aw::(iF t.kind::(iF t.mark::(iF t.changes.length::((t.changes.map jr).flatten++(iF t.signals.length::((t.signals.map λs=>[tF s]).flatten++[])))))):=by
  unfold j_;have:∀l:Ψ,l.map tF=(l.map λs=>[tF s]).flatten:=λl=>by induction l with
   | nil=>rfl
   | cons x l ih=>rw[zzp,zzp,zz2,ih];rfl
  rw[this];simp
 rw[e0];have e1:∀n l,dM ⟨iF n::l,false⟩=(n,⟨l,false⟩):=λn l=>rfl;have e2:∀l,bN 3 ⟨iF t.kind::l,false⟩=(t.kind,⟨l,false⟩):=λl=>nR (by omega);have e3:∀l,bN 16 ⟨iF t.changes.length::l,false⟩=((t.changes.length:Int),⟨l,false⟩):=λl=>nR (by omega);have e4:∀l,gM kE t.changes.length ⟨(t.changes.map jr).flatten++l,false⟩=(t.changes,⟨l,false⟩):=λl=>xk t.changes l λc hc l=>Ru (by have:=uq.1 (h6 c hc);omega);have e5:∀l,bN 2 ⟨iF t.signals.length::l,false⟩=((t.signals.length:Int),⟨l,false⟩):=λl=>nR (by omega);have e6:∀l,gM j6 t.signals.length ⟨(t.signals.map λs=>[tF s]).flatten++l,false⟩=(t.signals,⟨l,false⟩):=λl=>xk t.signals l λs hs l=>rfl;unfold kB k9 lx jY VL;simp only[e1,e2,e3,e4,e5,e6,zzw]
theorem RW{t:bD}(h:c_ t=true):∃b,uW t= .ok b/\jO b= .ok t:=by
 obtain⟨e1,e2⟩:=Sl h
 grind [jO,B1,bBv]
def a_9{b:Φ}{t:bD}(h:jO b= .ok t):c_ t=true:=by
 grind [jO,B1]
def mN(t:bD):Φ:=match uW t with
 | .ok b=>b
 | .error _=>[]
theorem Rl{t:bD}(h:c_ t=true):jO (mN t)= .ok t:=by
 grind [RW,mN]
def Rm{t:bD}(h:c_ t=true):uW t= .ok (mN t):=by
 grind [RW,mN]
def Hj{t:bD}(h:c_ t=true):(mN t).length<=1200:=by
 obtain⟨h1,h2,h3,h4,h5,h6,h7⟩:=kr h;unfold mN;rw[(Sl h).1];simp only;rw[zza,ie];unfold j_;simp only[zzr,zzp,yy6,yyq,zz2,wwj,zza,zz3,uU];rw[B3,xxh,xxh];have hT:∀s:Η,(cQ (tF s)).length=3+s.size:=λs=>by
  show (fx 2::(cR (s.size:Nat) 2++s.data.toList)).length=_;rw[zzi,zza,ie];have:s.data.toList.length=s.size:=rfl;omega
 have k1:=tK (f:=(λx=>(x.map cQ).flatten)∘jr) (k:=62) t.changes λc hc=>by
  have:=(uq.1 (h6 c hc)).2.2.2.2.1
  grind [jr,cQ,uU]
 have k2:=tK (f:=cQ∘tF) (k:=43) t.signals λs hs=>by
  grind
 omega
def vF(i:Nat)(r:Rq):Prop:=r.id=(i:Int)+1/\0<=r.table/\r.table<8/\1<=r.weight/\r.weight<=8/\1<=r.at_/\r.at_<=1099511627776/\0<=r.cG/\r.cG<=1099511627776/\0<=r.chunks/\r.chunks<=1099511627776
def DJ(L:List Rq)(i:Nat):Prop:=∀h:i<L.length,vF i L[i]/\(∀h0:0<i,L[i-1].at_<=L[i].at_)/\∀k (hk:k<i),¬(L[k].table=L[i].table/\L[k].done=false)
def fq(L:List Rq):Prop:=L.length<=64/\∀i,DJ L i
instance (i:Nat) (r:Rq):Decidable (vF i r):=by unfold vF;infer_instance
def fq.fin{L:List Rq}:fq L↔L.length<=64/\∀i:Fin L.length,vF i.1 L[i.1]/\(0<i.1->(L[i.1-1]'(by omega)).at_<=L[i.1].at_)/\∀k:Fin i.1,¬((L[k.1]'(by omega)).table=L[i.1].table/\(L[k.1]'(by omega)).done=false):=
 ⟨λh=>⟨h.1,λi=>⟨(h.2 i.1 i.2).1,(h.2 i.1 i.2).2.1,λk=>(h.2 i.1 i.2).2.2 k.1 k.2⟩⟩,
  λh=>⟨h.1,λi hi=>⟨(h.2 ⟨i,hi⟩).1,(h.2 ⟨i,hi⟩).2.1,λk hk=>(h.2 ⟨i,hi⟩).2.2 ⟨k,hk⟩⟩⟩⟩
instance (L:List Rq):Decidable (fq L):=decidable_of_iff _ fq.fin.symm
def bwr(L:List Rq):∀v∈(L.map gS).flatten,v.oneCell'=true:=tc Eg L
def xu(L:List Rq)(t w a:Int):Rq:=⟨((L.length+1:Nat):Int),t,w,a,0,0,false⟩
def oO(L:List Rq)(t w a:Int):Option (List Rq):=if fq L/\fq (L++[xu L t w a]) then some (L++[xu L t w a]) else none
def lG(L:List Rq)(id c:Int)(dn:Bool):Option (List Rq):=
 if fq L/\1<=id/\id<=L.length then match L[(id-1).toNat]? with
  | some r=>if r.done=true\/c<r.cG\/1099511627776<c\/1099511627776<=r.chunks then none else some (L.set (id-1).toNat {r with cG:=c,chunks:=r.chunks+1,done:=dn})
  | none=>none
 else none
def aWr{L:List Rq}(hM:fq L){j:Nat}(hj:j<L.length)(c:Int)(dn:Bool):lG L ((j+1:Nat):Int) c dn =
  if L[j].done=true\/c<L[j].cG\/1099511627776<c\/1099511627776<=L[j].chunks then none else some (L.set j {L[j] with cG:=c,chunks:=L[j].chunks+1,done:=dn}):=by
 unfold lG;have e:(((j+1:Nat):Int)-1).toNat=j:=by omega
 rw[zzc ⟨hM,by omega,by omega⟩,e,zzd hj]
def aWt{L:List Rq}{id c:Int}{dn:Bool}(h:¬(fq L/\1<=id/\id<=L.length)):lG L id c dn=none:=zzb h
theorem BL{L L':List Rq}{t w a:Int}(h:oO L t w a=some L'):fq L':=by
 unfold oO at h;split at h
 ·rename_i hm;cases h;exact hm.2
 cases h
theorem D6{L L':List Rq}{id c:Int}{dn:Bool}(h:lG L id c dn=some L'):fq L':=by
 unfold lG at h;split at h
 ·rename_i hm;obtain⟨hM,h1,h2⟩:=hm;split at h
  ·rename_i r hr;split at h
   ·cases h
   rename_i hc;cases h;generalize (id-1).toNat=j at *
   obtain⟨hj,hr⟩:=zzh.1 hr;refine⟨by rw[yyl];exact hM.1,λi hi=>?_⟩;rw[yyl]at hi
   have gx:∀k (hk:k<L.length),((L.set j {r with cG:=c,chunks:=r.chunks+1,done:=dn})[k]'(by rw[yyl];exact hk)).at_=L[k].at_/\((L.set j {r with cG:=c,chunks:=r.chunks+1,done:=dn})[k]'(by rw[yyl];exact hk)).table=L[k].table:=λk hk=>by
    rw[xx8];split
    ·rename_i e;subst e;rw[hr];exact⟨rfl,rfl⟩
    exact⟨rfl,rfl⟩
   obtain⟨k1,k2,k3⟩:=hM.2 i hi;refine⟨?_,λh0=>?_,λk hk=>?_⟩
   ·rw[xx8];split
    ·rename_i e;subst e;rw[hr]at k1
     unfold vF at k1 ⊢;simp only;omega
    exact k1
   ·rw[(gx (i-1) (by omega)).1,(gx i hi).1];exact k2 h0
   rw[(gx k (by omega)).2,(gx i hi).2];rintro ⟨e1,e2⟩;rw[xx8]at e2
   split at e2
   ·rename_i e;subst e;refine k3 j hk ⟨e1,?_⟩;rw[hr];cases hd:r.done with
    | false=>rfl
    | true=>exact absurd (.inl hd) hc
   exact k3 k hk ⟨e1,e2⟩
  cases h
 cases h
structure b6 where
 file:Int
 first:Int
 size:Nat
 l:List Φ
structure xL where
 file:Int
 nG:Int
 fresh:Bool
structure bV where
 bf:List b6
 base:Int
 size:Int
 cC:Option xL
def b6.next(s:b6):Int:=s.first+s.l.length
def bH(L:List b6):Int:=match L.getLast? with
 | none=>0
 | some s=>s.next-1
def dH(L:List b6):Int:=match L with
 | []=>1
 | s::_=>s.first
def lY:List b6->Int->Option Φ
 | [],_=>none
 | s::r,n=>if s.first<=n/\n<s.next then s.l[(n-s.first).toNat]? else lY r n
structure gq where
 file:Int
 fresh:Bool
 b:Φ
def mi(g:bV)(f:Int)(p:Φ):Except Int gq:=
 if g.base+4096<=f then .error 7 else .ok ⟨f,true,bY (cW (bH g.bf+1).toNat)++bY p⟩
def dE(g:bV)(off:Bool)(p:Φ):Except Int gq:=
 if 1048576<p.length then .error 1
 else if off=true then .error 8
 else if 1099511627776<=bH g.bf then .error 7
 else match g.bf.getLast? with
  | none=>mi g g.base p
  | some s=>if s.l.length=0\/(s.size:Int)+(bY p).length<=g.size then .ok ⟨s.file,false,bY p⟩ else mi g (s.file+1) p
def cw(g:bV)(d:DS):(bV × DS) × Int:=match g.cC with
 | none=>((g,d),0)
 | some x=>(({g with cC:=if (if x.fresh=true then d.remove x.file else d.cut x.file x.nG).2=0 then none else some x},(if x.fresh=true then d.remove x.file else d.cut x.file x.nG).1),(if x.fresh=true then d.remove x.file else d.cut x.file x.nG).2)
def iU(L:List b6)(x:gq)(p:Φ):List b6:=
 let L:=if x.fresh=true then L++[⟨x.file,bH L+1,0,[]⟩] else L
 L.dropLast++L.getLast?.toList.map λs=>{s with size:=s.size+x.b.length,l:=s.l++[p]}
def d_(g:bV)(d:DS)(p:Φ):(bV × DS) × (Int × Int):=match dE g d.off p with
 | .error e=>((g,d),(0,e))
 | .ok x=>
  let m:=cw g d
  if m.2≠0 then (m.1,(0,m.2)) else
  let a:=m.1.2.append x.file x.b
  if a.2≠0 then ((m.1.1,a.1),(0,a.2)) else
  let s:=a.1.sync x.file
  if s.2≠0 then ((m.1.1,s.1),(0,s.2)) else
  (({m.1.1 with bf:=iU m.1.1.bf x p},s.1),(bH (iU m.1.1.bf x p),0))
def lT(L:List b6):Int:=match L.getLast? with
 | none=>0
 | some s=>s.size
def fA(g:bV)(d:DS)(p:Φ)(k:Int):(bV × DS) × Int:=
 if k<0 then ((g,d),1) else match dE g d.off p with
 | .error e=>((g,d),e)
 | .ok x=>
  let m:=cw g d
  if m.2≠0 then (m.1,m.2) else
  let a:=m.1.2.append x.file (x.b.take (k.toNat % x.b.length))
  if a.2≠0 then ((m.1.1,a.1),a.2) else
  (({m.1.1 with cC:=some ⟨x.file,if x.fresh=true then 0 else lT m.1.1.bf,x.fresh⟩},a.1),0)
def gm:List b6->DS->Int->(List b6 × DS) × Int
 | s::t::r,d,n=>if s.next-1<=n then (if (d.remove s.file).2≠0 then ((s::t::r,(d.remove s.file).1),(d.remove s.file).2) else gm (t::r) (d.remove s.file).1 n) else ((s::t::r,d),0)
 | L,d,_=>((L,d),0)
def gl(g:bV)(d:DS)(n:Int):(bV × DS) × Int:=
 if d.off=true then ((g,d),8) else (({g with bf:=(gm g.bf d n).1.1},(gm g.bf d n).1.2),(gm g.bf d n).2)
def eS(base:Int)(R:List PF):Ω:=(R.map PF.id).filter λf=>decide (base<=f/\f<base+4096)
def iu(L:List b6)(R:List PF)(f:Int)(last:Bool):(Bool × Bool) × List b6:=
 let b:=((cP PF.id R f).map PF.b).getD []
 match gA b with
 | none=>((false,last),L)
 | some (first,l,n)=>
  if (last=false/\(n≠b.length\/l.length=0))\/(0<L.length/\first≠bH L+1)\/1099511627776<first+l.length-1 then ((true,false),L)
  else ((true,true),L++[⟨f,first,n,l⟩])
def kM(R:List PF):Ω->Option Int->List b6->Bool->Option (List b6 × Bool)
 | [],_,L,whole=>some (L,whole)
 | f::r,prev,L,whole=>
  let x:=iu L R f r.isEmpty
  if x.1.2=false then none else if (match prev with|none=>false|some g=>decide (f≠g+1))=true then none else kM R r (some f) x.2 x.1.1
def iQ(L:List b6)(d:DS)(ids:Ω)(whole:Bool):DS × Int:=match ids.getLast? with
 | none=>(d,0)
 | some f=>if whole=false then d.remove f else if lT L<gi d.R f then d.cut f (lT L) else (d,0)
def dN(d:DS)(base size:Int):DS × Except Int bV:=
 if base<0\/12288<base\/size<64\/65536<size then (d,.error 1)
 else if d.off=true then (d,.error 8)
 else match kM d.R (eS base d.R) none [] true with
  | none=>(d,.error 3)
  | some (L,whole)=>if (iQ L d (eS base d.R) whole).2≠0 then ((iQ L d (eS base d.R) whole).1,.error (iQ L d (eS base d.R) whole).2) else ((iQ L d (eS base d.R) whole).1,.ok ⟨L,base,size,none⟩)
structure j7(s:b6)(N:Nat):Prop where
 f0:0<=s.file
 f1:s.file<=100000
 n0:1<=s.first
 n1:s.first<=1099511627776
 sz:s.size<=N
 ln:s.l.length<=N
 bl:∀b∈s.l,b.length<=1048576
structure bV.Ok(g:bV)(N:Nat):Prop where
 bf:∀s∈g.bf,j7 s N
 b0:0<=g.base
 b1:g.base<=12288
 s0:64<=g.size
 s1:g.size<=65536
 ln:g.bf.length<=N
def sW{L:List b6}{N:Nat}(h:∀s∈L,j7 s N):0<=bH L/\bH L<=1099511627776+N:=by
 unfold bH;split
 ·omega
 rename_i s hs;have:=h s (wwl hs);have h1:=this.n0;have h2:=this.n1;have h3:=this.ln;simp only[b6.next];omega
section
variable {A:List PF} {x:PF}
theorem RD(hs:eJ PF.id (A++[x])):eE PF.id (A++[x]) x.id=A.length:=BV hs (j:=A.length) (by simp) (by simp)
theorem Fv(hs:eJ PF.id (A++[x])):ic PF.id (A++[x]) x.id=true:=(xf hs).2 ⟨x,by simp,rfl⟩
theorem Cd(hs:eJ PF.id (A++[x])):cP PF.id (A++[x]) x.id=some x:=sO hs (by simp)
theorem Wt(hs:eJ PF.id (A++[x])){y:PF}(hy:y.id=x.id):fm PF.id (A++[x]) y=A++[y]:=by
 grind [ic,FW,RD]
def Kz(hs:eJ PF.id (A++[x]))(g:PF->PF):jz (A++[x]) x.id g=A++[{g x with id:=x.id}]:=by
 grind [jz,Cd,Wt]
theorem R0(hs:eJ PF.id (A++[x])):jb PF.id (A++[x]) x.id=A:=by
 rw[jb,zzc (Fv hs),RD hs];simp[List.eraseIdx_append_of_length_le]
theorem bch(hs:eJ PF.id (x::A)):jb PF.id (x::A) x.id=A:=by
 grind [xf,eE,BV,jb]
def aIh(hs:eJ PF.id (A++[x]))(b:Φ):jM (A++[x]) x.id b=A++[⟨x.id,x.safe,x.b++b⟩]:=by
 grind [jM,Cd,Wt]
def aIj(hs:eJ PF.id A){f:Int}(h:∀y∈A,y.id<f)(b:Φ):jM A f b=A++[⟨f,0,b⟩]:=by
 have h1:cP PF.id A f=none:=(HY hs).2 λy hy=>by have:=h y hy;omega
 have h2:ic PF.id A f=false:=by
  grind [xf]
 have h3:eE PF.id A f=A.length:=by
  unfold eE;rw[yyy.2 λy hy=>by simpa using h y hy]
 grind [jM,fm,xt]
end
def oJ(f:Int)(R:List PF):Prop:=∀i (h:i<R.length),R[i].id=f+i
def oJ.sorted{f:Int}{R:List PF}(h:oJ f R):eJ PF.id R:=by
 unfold eJ;rw[xxv];intro i j hi hj wM;rw[h i hi,h j hj];omega
def oJ.mem{f:Int}{R:List PF}(h:oJ f R){x:PF}(hx:x∈R):f<=x.id/\x.id<f+R.length:=by
 obtain⟨i,hi,rfl⟩:=xxc.1 hx;rw[h i hi];omega
def oJ.snoc{f:Int}{R:List PF}(h:oJ f R){x:PF}(hx:x.id=f+R.length):oJ f (R++[x]):=by
 intro i hi;by_cases hl:i<R.length
 ·rw[yy2 hl];exact h i hl
 grind
def gk(s:b6):Φ:=df (cW s.first.toNat::s.l)
def dy(s:b6):PF:=⟨s.file,(gk s).length,gk s⟩
def fQ:Int->Int->List b6->Prop
 | _,_,[]=>True
 | f,n,s::r=>s.file=f/\s.first=n/\s.size=(gk s).length/\(∀p∈s.l,p.length<=1048576)/\(r≠[]->s.l≠[])/\fQ (f+1) (n+s.l.length) r
def bR(L:List b6):List Φ:=(L.map b6.l).flatten
theorem pH(s:b6)(L:List b6):bR (s::L)=s.l++bR L:=by simp[bR]
def Ae(A B:List b6):bR (A++B)=bR A++bR B:=by simp[bR]
def fQ.app:∀{f n:Int} {A B:List b6},fQ f n (A++B)↔fQ f n A/\(B≠[]->∀s∈A,s.l≠[])/\fQ (f+A.length) (n+(bR A).length) B
 | f,n,[],B=>by simp[fQ,bR]
 | f,n,s::A,B=>by
  have ih:=fQ.app (f:=f+1) (n:=n+s.l.length) (A:=A) (B:=B);have e1:f+1+(A.length:Int)=f+((s::A).length:Int):=by simp;omega
  have e2:n+(s.l.length:Int)+((bR A).length:Int)=n+((bR (s::A)).length:Int):=by rw[pH,zza];omega
  rw[e1,e2]at ih
  rw[zzn];simp only[fQ,ih];constructor
  ·rintro ⟨h1,h2,h3,h4,h5,h6,h7,h8⟩;refine⟨⟨h1,h2,h3,h4,λhA=>h5 (by simp[hA]),h6⟩,λhB t ht=>?_,h8⟩;rcases yya.1 ht with rfl|ht
   ·exact h5 (by simp[hB])
   grind
  grind
def fQ.sG:∀{f n:Int} {L:List b6},fQ f n L->oJ f (L.map dy)
 | f,n,[],_=>λi h=>by simp at h
 | f,n,s::L,h=>by
  obtain⟨h1,_,_,_,_,h6⟩:=h;have ih:=h6.sG;intro i hi;cases i with
  | zero=>simpa [dy] using h1
  | succ i=>
   have:=ih i (by simpa using hi)
   grind
def fQ.head{f n:Int}{L:List b6}(h:fQ f n L)(hL:L≠[]):bH L=n+(bR L).length-1:=by
 obtain⟨A,s,rfl⟩:∃A s,L=A++[s]:=⟨L.dropLast,L.getLast hL,(List.dropLast_concat_getLast hL).symm⟩;obtain⟨_,_,h3⟩:=fQ.app.1 h;obtain⟨_,h4,_⟩:=h3
 grind [bH,b6.next,bR]
def fQ.low{f n:Int}{L:List b6}(h:fQ f n L)(hL:L≠[]):dH L=n:=by
 cases L with
 | nil=>exact absurd rfl hL
 | cons s L=>exact h.2.1
def fQ.read:∀{f n:Int} {L:List b6},fQ f n L->∀i,lY L i=if n<=i then (bR L)[(i-n).toNat]? else none
 | f,n,[],_,i=>by simp[lY,bR]
 | f,n,s::L,h,i=>by
  obtain⟨_,h2,_,_,_,h6⟩:=h;have ih:=h6.read i;subst h2;rw[lY,ih,pH];have oA:s.next=s.first+s.l.length:=rfl
  grind
def fQ.bl:∀{f n:Int} {L:List b6},fQ f n L->∀s∈L,s.size=(gk s).length/\∀p∈s.l,p.length<=1048576
 | f,n,[],_,s,hs=>by cases hs
 | f,n,t::L,h,s,hs=>by
  obtain⟨_,_,h3,h4,_,h6⟩:=h;rcases yya.1 hs with rfl|hs
  ·exact⟨h3,h4⟩
  exact h6.bl s hs
def Tw(n:Nat):(cW n).length<=1048576:=by rw[Ap];omega
def WZ:∀(ps:List Φ) (k:Nat),(∀p∈ps,p.length<=1048576)->∃j,j<=ps.length/\(∀i,i<=ps.length->((df (ps.take i)).length<=k↔i<=j))/\iE ((df ps).take k)=(ps.take j,(df (ps.take j)).length)
 | [],k,_=>⟨0,zzj _,λi hi=>by simp at hi;subst hi;simp[df],by
   rw[show (df []).take k=[] by simp[df],Du Xz];rfl⟩
 | p::ps,k,hp=>by
  have vr:=hp p (.head _);by_cases hk:k<(bY p).length
  ·refine⟨0,zz6 _,λi hi=>?_,?_⟩
   ·cases i with
    | zero=>simp[df]
    | succ i=>
     grind [p9]
   obtain⟨e,he,_⟩:=Xx vr (k:=k) (by rw[<- jX];exact hk);rw[p9,yy4 (by omega),Du he];rfl
  obtain⟨j,h1,h2,h5⟩:=WZ ps (k-(bY p).length) (λq hq=>hp q (.tail _ hq));refine⟨j+1,by simpa using h1,λi hi=>?_,?_⟩
  ·cases i with
   | zero=>simp[df]
   | succ i=>
    grind [p9]
  have e:(df (p::ps)).take k=bY p++(df ps).take (k-(bY p).length):=by
   rw[p9,List.take_append,zzz (by omega)]
  rw[e,F8 (Kx vr),<- jX,wwv,h5,vvg,p9,zza]
theorem bwb{n:Nat}{l:List Φ}(h1:1<=n)(h2:n<=1099511627776)(hl:∀p∈l,p.length<=1048576):gA (df (cW n::l))=some ((n:Int),l,(df (cW n::l)).length):=by
 have:=bx7 (cW n::l) [] (λp hp=>by rcases yya.1 hp with rfl|hp;exact Tw n;exact hl p hp) ⟨2,Xz⟩
 grind [gA,Tx]
def bu9{n:Nat}{l:List Φ}(k:Nat)(h1:1<=n)(h2:n<=1099511627776)(hl:∀p∈l,p.length<=1048576):
  (gA ((df (cW n::l)).take k)=none/\k<(df [cW n]).length)\/∃j,j<=l.length/\(∀i,i<=l.length->((df (cW n::l.take i)).length<=k↔i<=j))/\gA ((df (cW n::l)).take k)=some ((n:Int),l.take j,(df (cW n::l.take j)).length):=by
 obtain⟨j,h3,h4,h5⟩:=WZ (cW n::l) k (λp hp=>by rcases yya.1 hp with rfl|hp;exact Tw n;exact hl p hp);cases j with
 | zero=>
  grind [gA]
 | succ j=>
  right;refine⟨j,by simpa using h3,λi hi=>?_,?_⟩
  ·have:=h4 (i+1) (by simpa using hi)
   grind
  grind [gA,Tx]
def bnx{R:List PF}{L0:List b6}{f n:Int}{s:b6}{last:Bool}{x:PF}(hx:cP PF.id R f=some x)(hb:x.b=gk s)(h1:s.file=f)(h2:s.first=n)(h3:s.size=(gk s).length)(h4:∀p∈s.l,p.length<=1048576)
  (n1:1<=n) (n2:n+s.l.length<=1099511627776) (hl:last=false->s.l≠[]) (h0:L0=[]\/bH L0+1=n):iu L0 R f last=((true,true),L0++[s]):=by
 unfold iu;rw[hx];simp only[yyo,xxq,hb];have hr:gA (gk s)=some (s.first,s.l,(gk s).length):=by
  grind [bwb,gk]
 rw[hr];have hs:(⟨f,s.first,(gk s).length,s.l⟩:b6)=s:=by
  obtain⟨a,b,c,d⟩:=s
  grind
 grind
def wC(prev:Option Int)(f:Int):Bool:=match prev with
 | none=>false
 | some g=>decide (f≠g+1)
def AS(R:List PF)(f:Int)(r:Ω)(prev:Option Int)(L:List b6)(wh:Bool):kM R (f::r) prev L wh =
  if (iu L R f r.isEmpty).1.2=false then none else if wC prev f=true then none else kM R r (some f) (iu L R f r.isEmpty).2 (iu L R f r.isEmpty).1.1:=rfl
def Jw(R:List PF):∀(r:List b6) (f n:Int) (L0:List b6) (prev:Option Int) (ids:Ω) (wh:Bool),fQ f n r->(∀s∈r,∃x,cP PF.id R s.file=some x/\x.b=gk s)->(L0=[]\/bH L0+1=n)->(prev=none\/prev=some (f-1))->1<=n->n+(bR r).length<=1099511627776->(ids≠[]->∀s∈r,s.l≠[]) ->
  kM R (r.map b6.file++ids) prev L0 wh=kM R ids (if r=[] then prev else some (f+r.length-1)) (L0++r) (if r=[] then wh else true)
 | [],f,n,L0,prev,ids,wh,_,_,_,_,_,_,_=>by simp
 | s::r,f,n,L0,prev,ids,wh,hc,hg,h0,hp,n1,n2,hi=>by
  obtain⟨h1,h2,h3,h4,h5,h6⟩:=hc;obtain⟨x,hx,hb⟩:=hg s (.head _);rw[pH,zza]at n2
  have mo:iu L0 R s.file (r.map b6.file++ids).isEmpty=((true,true),L0++[s]):=by
   refine bnx hx hb rfl h2 h3 h4 n1 (by omega) (λhl=>?_) h0;by_cases hr:r=[]
   ·subst hr;refine hi (λe=>?_) s (.head _)
    grind
   exact h5 hr
  rw[zzp,zzn,AS];simp only[mo];rw[zzb (by simp),zzb ?_]
  ·rw[Jw R r (f+1) (n+s.l.length) (L0++[s]) (some s.file) ids true h6 (λt ht=>hg t (.tail _ ht)) (.inr ?_) (.inr (by rw[h1];congr 1;omega)) (by omega) (by omega) (λhd t ht=>hi hd t (.tail _ ht))]
   ·grind
   grind [bH,b6.next]
  grind [wC]
theorem UF{R:List PF}{f base:Int}(h:oJ f R)(h1:base<=f)(h2:f+R.length<=base+4096):eS base R=R.map PF.id:=by
 unfold eS;rw[yyy];intro a ha;obtain⟨x,hx,rfl⟩:=zz5.1 ha;have:=h.mem hx
 grind
def SU{f n:Int}{L:List b6}{R:List PF}(hR:oJ f R)(hs:∀s∈L,dy s∈R):∀s∈L,∃x,cP PF.id R s.file=some x/\x.b=gk s:=λs h=>⟨dy s,sO hR.sorted (hs s h),rfl⟩
theorem Vn(L:List b6):(L.map dy).map PF.id=L.map b6.file:=by rw[xxh];rfl
def JW{d:DS}{L:List b6}{f n base size:Int}(hc:fQ f n L)(hR:d.R=L.map dy)(jF:d.off=false)(b0:0<=base)(b1:base<=12288)(s0:64<=size)(s1:size<=65536)(hf:base<=f)(Ar:f+L.length<=base+4096)
  (n1:1<=n) (n2:n+(bR L).length<=1099511627776):dN d base size=(d,.ok ⟨L,base,size,none⟩):=by
 have oq:=hc.sG;have wL:eS base d.R=L.map b6.file:=by
  grind [UF,Vn]
 have hl:=Jw d.R L f n [] none [] true hc (SU (f:=f) (n:=n) (by rw[hR];exact oq) (λs hs=>by rw[hR];exact zz5.2 ⟨s,hs,rfl⟩)) (.inl rfl) (.inl rfl) n1 n2 (λh=>absurd rfl h);rw[zz3]at hl
 unfold dN;rw[zzb (by omega),zzb (by simp[jF]),wL,hl];simp only[kM,zzo];have hb:iQ L d (L.map b6.file) (if L=[] then true else true)=(d,0):=by
  unfold iQ;rcases List.eq_nil_or_concat L with rfl|⟨A,s,rfl⟩
  ·rfl
  simp only[List.concat_eq_append,zzr,zzp,yy6,wwm];rw[zzb (by simp),zzb];have fw:=(hc.bl s (by simp)).1;have:cP PF.id d.R s.file=some (dy s):=by
   rw[hR];exact sO (x:=dy s) oq.sorted (by simp)
  grind [gi,lT,dy]
 rw[hb];simp
def brt{d:DS}{A:List b6}{l:List Φ}{f n base size:Int}{k:Nat}{x:PF}(hc:fQ f n A)(hA:∀s∈A,s.l≠[])(hl:∀p∈l,p.length<=1048576)(hR:d.R=A.map dy++[x])(hid:x.id=f+A.length)(ug:x.safe=x.b.length)
  (hb:x.b=(df (cW (n+(bR A).length).toNat::l)).take k) (jF:d.off=false) (rO:d.arm=0) (b0:0<=base) (b1:base<=12288) (s0:64<=size) (s1:size<=65536) (hf:base<=f) (Ar:f+A.length+1<=base+4096)
  (n1:1<=n) (n2:n+(bR A).length+l.length<=1099511627776) :
  ∃L j d',j<=l.length/\(∀i,i<=l.length->(df (cW (n+(bR A).length).toNat::l.take i)).length<=k->i<=j)/\(∀i,i<=l.length->k<(df (cW (n+(bR A).length).toNat::l.take i)).length->j<i\/j=0) /\
   dN d base size=(d',.ok ⟨L,base,size,none⟩)/\fQ f n L/\bR L=bR A++l.take j/\d'.R=L.map dy/\d'.off=false/\d'.arm=0/\d'.ops<=d.ops+1/\L.length<=A.length+1/\A.length<=L.length/\(A=[]->j=0->L=[]\/(L.length=1/\(df [cW (n+(bR A).length).toNat]).length<=k))/\((df [cW (n+(bR A).length).toNat]).length<=k->L≠[]):=by
 have oq:oJ f d.R:=by rw[hR];exact hc.sG.snoc (by simpa using hid)
 have xa:=oq.sorted;have wL:eS base d.R=A.map b6.file++[x.id]:=by
  grind [UF,Vn]
 have mo:=Jw d.R A f n [] none [x.id] true hc (SU (f:=f) (n:=n) oq (λs hs=>by rw[hR];exact yyr _ (zz5.2 ⟨s,hs,rfl⟩))) (.inl rfl) (.inl rfl) n1 (by omega) (λ_=>hA);have Cx:cP PF.id d.R x.id=some x:=by
  grind [Cd]
 have Uc:∀b:Bool,wC (if A=[] then (none:Option Int) else some (f+A.length-1)) x.id=false:=by
  grind [wC]
 have bLg:jb PF.id d.R x.id=A.map dy:=by
  grind [R0]
 have lP:may d x.id=0:=by
  grind [may]
 have bLl:ic PF.id d.R x.id=true:=by
  grind [Fv]
 have tU:d.find x.id=0:=by
  grind [DS.find]
 have Cq:d.bG.off=false:=by simp[DS.bG,rO]
 have Tl:d.bG.arm=0:=by simp[DS.bG,rO]
 have hh:A≠[]->bH ([]++A)+1=n+(bR A).length:=λh=>by rw[zzo,hc.head h];omega
 have pT:((n+(bR A).length).toNat:Int)=n+(bR A).length:=by omega
 have hbound:¬(base<0\/12288<base\/size<64\/65536<size):=by omega
 rcases bu9 (n:=(n+(bR A).length).toNat) (l:=l) k (by omega) (by omega) hl with ⟨h1,h2⟩|⟨j,h1,h2,h3⟩
 ·have vo:iu ([]++A) d.R x.id true=((false,true),A):=by
   grind [iu]
  have mn:kM d.R [x.id] (if A=[] then none else some (f+A.length-1)) ([]++A) (if A=[] then true else true)=some (A,false):=by
   rw[AS];simp only[uu2,vo];rw[Uc true];rfl
  rw[mn]at mo
  refine⟨A,0,{d.bG with R:=A.map dy},zz6 _,λi hi hk=>?_,λi _ _=>.inr rfl,?_,hc,by simp,rfl,Cq,Tl,by simp[DS.bG],by omega,zzj _,λh _=>.inl h,λhk=>?_⟩
  ·grind [df]
  ·grind [iQ,DS.remove,dN]
  grind
 let s:b6:=⟨x.id,n+(bR A).length,(df (cW (n+(bR A).length).toNat::l.take j)).length,l.take j⟩
 have vo:iu ([]++A) d.R x.id true=((true,true),A++[s]):=by
  unfold iu;rw[Cx];simp only[yyo,xxq,hb,h3];rw[zzb,pT]
  ·rfl
  rintro (⟨e1,e2⟩|⟨e1,e2⟩|e)
  ·cases e1
  ·by_cases Ew:A=[]
   ·subst Ew;simp at e1
   have:=hh Ew;omega
  rw[zzf]at e;omega
 have mn:kM d.R [x.id] (if A=[] then none else some (f+A.length-1)) ([]++A) (if A=[] then true else true)=some (A++[s],true):=by
  rw[AS];simp only[uu2,vo];rw[Uc true];rfl
 rw[mn]at mo
 have Uk:gk s=df (cW (n+(bR A).length).toNat::l.take j):=rfl;have gU:fQ f n (A++[s]):=fQ.app.2 ⟨hc,λ_=>hA,hid,rfl,rfl,λp hp=>hl p (yyg hp),λh=>absurd rfl h,trivial⟩;have fw:lT (A++[s])=(gk s).length:=by unfold lT;rw[wwm];rfl
 have wN:(gk s).length<=k:=by
  have:=(h2 j h1).2 (zzj _);rw[Uk];exact this
 have vx:(df (cW (n+(bR A).length).toNat::l)).take (gk s).length=gk s:=by
  have:df (cW (n+(bR A).length).toNat::l)=gk s++df (l.drop j):=by
   rw[Uk,p9,p9,zzg,<- bwc,yyf]
  rw[this,wwg]
 have hlen:(gk s).length<=(df (cW (n+(bR A).length).toNat::l)).length:=by
  rw[<- vx,zzf];omega
 have iL:(gk s).length<=x.b.length:=by rw[hb,zzf];omega
 have Uy:x.b.take (gk s).length=gk s:=by rw[hb,uut,xxd wN,vx]
 have TU:gi d.R x.id=x.b.length:=by unfold gi;rw[Cx]
 have CT:∃d',iQ (A++[s]) d (A.map b6.file++[x.id]) true=(d',0)/\d'.R=(A++[s]).map dy/\d'.off=false/\d'.arm=0/\d'.ops<=d.ops+1:=by
  unfold iQ;rw[wwm];simp only[TU,fw];rw[zzb (by simp)];by_cases b9:((gk s).length:Int)<x.b.length
  ·rw[zzc b9];unfold DS.cut;rw[zzb (by simp[tU]),zzb (by rw[TU];omega),zzb (by simp[Cq])];refine⟨_,rfl,?_,Cq,Tl,by simp[DS.bG]⟩;show jz d.R x.id (iB (((gk s).length:Nat):Int).toNat)=_;rw[hR,Kz (by rw[<- hR];exact xa),zzw,zzr];congr 1;simp only[iB,Uy,ug,zzp,yy6,dy];rw[Nat.min_eq_right iL]
  rw[zzb b9];refine⟨d,rfl,?_,jF,rO,by omega⟩;rw[hR,zzr];congr 1;have:x.b=gk s:=by rw[<- Uy,zzz (by omega)]
  obtain⟨xi,xs,xb⟩:=x;simp only at this ug;simp only[zzp,yy6,dy];rw[ug,this]
 obtain⟨d',bhh,r1,r2,r3,r4⟩:=CT;refine⟨A++[s],j,d',h1,λi hi hk=>(h2 i hi).1 hk,λi hi hk=>.inl ?_,?_,gU,by rw[Ae];simp[bR,s],r1,r2,r3,r4,by simp,by simp,λh _=>.inr ⟨by simp[h],?_⟩,λ_=>by simp⟩
 ·rcases xxz j i with h|h
  ·exact h
  have:=(h2 i hi).2 h;omega
 ·unfold dN;rw[zzb hbound,zzb (by simp[jF]),wL,mo];simp only[bhh];rfl
 have:=(h2 0 (zz6 _)).2 (zz6 _)
 rwa [uu8]at this
def fQ.sa:∀{f n:Int} {L:List b6},fQ f n L->L.length<=(bR L).length+1
 | f,n,[],_=>by simp
 | f,n,[s],_=>by simp
 | f,n,s::t::L,h=>by
  obtain⟨_,_,_,_,h5,h6⟩:=h;have:=h6.sa;have h0:s.l.length≠0:=λe=>h5 (by simp) (zzl e);rw[pH,zza,zzi];omega
structure fJ(g:bV)(d:DS)(f n:Int)(es:List Φ):Prop where
 chain:fQ f n g.bf
 fG:bR g.bf=es
 files:d.R=g.bf.map dy
 nil:g.bf=[]->f=g.base/\n=1
 base:g.base<=f
 b0:0<=g.base
 b1:g.base<=12288
 s0:64<=g.size
 s1:g.size<=65536
 n1:1<=n
 fi:f+es.length+2<=g.base+4096
 off:d.off=false
 cC:g.cC=none
def fJ.head{g:bV}{d:DS}{f n:Int}{es:List Φ}(h:fJ g d f n es):bH g.bf=n+es.length-1:=by
 by_cases hL:g.bf=[]
 ·have:=h.nil hL;have e:=h.fG;rw[hL]at e ⊢
  rw[<- e,this.2];rfl
 rw[h.chain.head hL,h.fG]
structure vW(g:bV)(f n:Int)(es:List Φ)(p:Φ)(x:gq)(A:List b6)(l0:List Φ)(pre:Φ):Prop where
 chain:fQ f n A
 full:∀s∈A,s.l≠[]
 file:x.file=f+A.length
 fG:bR A++l0=es
 bl:∀q∈l0,q.length<=1048576
 all:pre++x.b=df (cW (n+(bR A).length).toNat::(l0++[p]))
 bti:l0=[]\/pre=df (cW (n+(bR A).length).toNat::l0)
 app:∀t,jM (g.bf.map dy) x.file t=A.map dy++[⟨x.file,pre.length,pre++t⟩]
 put:fQ f n (iU g.bf x p)
 Wm:bR (iU g.bf x p)=es++[p]
 btp:(iU g.bf x p).map dy=A.map dy++[⟨x.file,(pre++x.b).length,pre++x.b⟩]
 dI:iU g.bf x p≠[]
 btl:∀s∈iU g.bf x p,s.l≠[]
 pos:0<x.b.length
 len:x.b.length<=27+p.length
 fresh:x.fresh=true->g.bf=A/\pre=[]
 mZ:x.fresh=false->g.bf.map dy=A.map dy++[⟨x.file,pre.length,pre⟩]/\lT g.bf=pre.length
def FU{g:bV}{d:DS}{f n:Int}{es:List Φ}(h:fJ g d f n es){p:Φ}(hp:p.length<=1048576)(hn:n+es.length<=100000):∃x A l0 pre,dE g false p= .ok x/\vW g f n es p x A l0 pre:=by
 have hh:=h.head;have hc:=h.chain;have hle:=hc.sa;rw[h.fG]at hle
 have tT:=h.fi;have kG:=h.n1;have xa:=hc.sG.sorted;have TG:∀F:Int,F=f+g.bf.length->(∀s∈g.bf,s.l≠[])->∃x A l0 pre,mi g F p= .ok x/\vW g f n es p x A l0 pre:=by
  intro F hF As;have e1:(bH g.bf+1).toNat=(n+(bR g.bf).length).toNat:=by rw[hh,h.fG];congr 1;omega
  have jG:iU g.bf ⟨F,true,bY (cW (bH g.bf+1).toNat)++bY p⟩ p=g.bf++[⟨F,bH g.bf+1,(bY (cW (bH g.bf+1).toNat)++bY p).length,[p]⟩]:=by
   unfold iU;simp
  have dh:bY (cW (bH g.bf+1).toNat)++bY p=df (cW (n+(bR g.bf).length).toNat::[p]):=by rw[e1,p9,p9];simp[df]
  refine⟨⟨F,true,bY (cW (bH g.bf+1).toNat)++bY p⟩,g.bf,[],[],?_,hc,As,hF,by rw[zz3];exact h.fG,by simp,?_,.inl rfl,λt=>?_,?_,?_,?_,?_,?_,?_,?_,λ_=>⟨rfl,rfl⟩,λe=>by cases e⟩
  ·unfold mi;rw[zzb (by omega)]
  ·exact dh
  ·refine aIj xa (λy hy=>?_) t;have:=hc.sG.mem hy;rw[zzv]at this
   show y.id<F;omega
  ·rw[jG];refine fQ.app.2 ⟨hc,λ_=>As,hF,?_,?_,by simpa using hp,λh=>absurd rfl h,trivial⟩
   ·show bH g.bf+1=_;rw[hh,h.fG];omega
   show (bY (cW (bH g.bf+1).toNat)++bY p).length=(gk _).length;unfold gk;rw[dh,e1]
  ·rw[jG,Ae,h.fG];simp[bR]
  ·rw[jG,zzr,zzo];congr 1;simp only[zzp,yy6,dy,gk];rw[dh,e1]
  ·rw[jG];simp
  ·rw[jG];intro s hs;rcases zz4.1 hs with hs|hs
   ·exact As s hs
   rw[zz8.1 hs];simp
  ·show 0<(bY (cW (bH g.bf+1).toNat)++bY p).length;rw[zza,jX];omega
  show (bY (cW (bH g.bf+1).toNat)++bY p).length<=_;rw[zza,jX,jX,Ap];omega
 unfold dE;rw[zzb (by omega),zzb (by simp),zzb (by omega)];rcases List.eq_nil_or_concat g.bf with hL|⟨A,s,hL⟩
 ·have IN:=h.nil hL;rw[hL];simp only[List.getLast?_nil];exact TG g.base (by rw[hL];simp;omega) (by rw[hL];simp)
 rw[List.concat_eq_append]at hL
 have hLg:g.bf.getLast?=some s:=by rw[hL,wwm]
 rw[hLg];simp only;rw[hL]at hc
 obtain⟨h1,h2,c1,c2,c3,c4,c5,c6⟩:=fQ.app.1 hc;have ES:=h2 (by simp);by_cases Iq:s.l.length=0\/(s.size:Int)+(bY p).length<=g.size
 ·rw[zzc Iq];have jG:iU g.bf ⟨s.file,false,bY p⟩ p=A++[{s with size:=s.size+(bY p).length,l:=s.l++[p]}]:=by
   unfold iU;rw[zzb (by simp)];simp only[hL,List.dropLast_concat,wwm];rfl
  have dh:gk s++bY p=df (cW (n+(bR A).length).toNat::(s.l++[p])):=by
   unfold gk;rw[c2,<- zzn,Wz]
  have S5:gk {s with size:=s.size+(bY p).length,l:=s.l++[p]}=gk s++bY p:=by
   unfold gk;rw[<- zzn,Wz]
  refine⟨⟨s.file,false,bY p⟩,A,s.l,gk s,rfl,h1,ES,c1,?_,c4,dh,.inr (by unfold gk;rw[c2]),λt=>?_,?_,?_,?_,?_,?_,?_,?_,λe=>(by cases e),λ_=>⟨?_,?_⟩⟩
  ·rw[<- h.fG,hL,Ae];simp[bR]
  ·rw[hL,zzr]at xa ⊢
   exact aIh (x:=dy s) xa t
  ·rw[jG];refine fQ.app.2 ⟨h1,λ_=>ES,c1,c2,?_,λq hq=>?_,λh=>absurd rfl h,trivial⟩
   ·rw[S5,zza,<- c3]
   rcases zz4.1 hq with hq|hq
   ·exact c4 q hq
   rw[zz8.1 hq];exact hp
  ·rw[jG,Ae,<- h.fG,hL,Ae];simp[bR]
  ·rw[jG,zzr];simp only[zzp,yy6,dy,S5]
  ·rw[jG];simp
  ·rw[jG];intro t ht;rcases zz4.1 ht with ht|ht
   ·exact ES t ht
   rw[zz8.1 ht];simp
  ·show 0<(bY p).length;rw[jX];omega
  ·show (bY p).length<=_;rw[jX];omega
  ·rw[hL,zzr];rfl
  unfold lT;rw[hL,wwm];show ((s.size:Nat):Int)=_;rw[c3]
 rw[zzb Iq];refine TG (s.file+1) (by rw[hL,c1];simp;omega) (by
  intro t ht;rw[hL]at ht
  rcases zz4.1 ht with ht|ht
  ·exact ES t ht
  rw[zz8.1 ht];intro e;exact Iq (.inl (by rw[e];rfl)))
def nU(d:DS)(f n:Int)(es:List Φ)(p:Φ)(whole:Bool):Prop:=∃A l0 pre k,
 fQ f n A/\(∀s∈A,s.l≠[])/\bR A++l0=es/\(∀q∈l0++[p],q.length<=1048576)/\(l0=[]\/pre=(df (cW (n+(bR A).length).toNat::l0)).length)/\pre<=k/\k<=(df (cW (n+(bR A).length).toNat::(l0++[p]))).length /\
 (whole=false->k<(df (cW (n+(bR A).length).toNat::(l0++[p]))).length)/\d.R=A.map dy++[⟨f+A.length,pre,(df (cW (n+(bR A).length).toNat::(l0++[p]))).take k⟩]
def vW.cC{g:bV}{f n:Int}{es:List Φ}{p:Φ}{x:gq}{A:List b6}{l0:List Φ}{pre:Φ}(h:vW g f n es p x A l0 pre)(hp:p.length<=1048576){d:DS}{m:Nat}{whole:Bool}(hm:m<=x.b.length)(hw:whole=false->m<x.b.length)
  (hR:d.R=jM (g.bf.map dy) x.file (x.b.take m)):nU d f n es p whole:=by
 have dh:=h.all;have hl:(df (cW (n+(bR A).length).toNat::(l0++[p]))).length=pre.length+x.b.length:=by rw[<- dh,zza]
 refine⟨A,l0,pre.length,pre.length+m,h.chain,h.full,h.fG,λq hq=>?_,?_,by omega,by omega,λe=>by have:=hw e;omega,?_⟩
 ·rcases zz4.1 hq with hq|hq
  ·exact h.bl q hq
  rw[zz8.1 hq];exact hp
 ·rcases h.bti with h1|h1
  ·exact .inl h1
  exact .inr (by rw[h1])
 rw[hR,h.app,<- dh,yy9,h.file]
def Hr(A B:List PF)(keep:Ω):∀hA:(∀x∈A,x.safe=x.b.length),dU (A++B) keep=A++B.mapIdx λi=>iA keep (A.length+i):=by
 intro hA;unfold dU;rw[List.mapIdx_append];congr 1
 ·refine xx2 (by simp) λi h1 h2=>?_;rw[List.getElem_mapIdx];have hx:=hA A[i] (zzk h2);have hm:jd keep i A[i]=0:=by
   have:=xq (keep:=keep) (i:=i) (x:=A[i]) (by omega);omega
  unfold iA;rw[hm,hx,xxy,Nat.min_self,zz0,<- hx]
 congr 1
 funext i
 rw[uu3]
def W3(A:List b6):∀x∈A.map dy,x.safe=x.b.length:=λx hx=>by
 obtain⟨s,_,rfl⟩:=zz5.1 hx;rfl
def RI{L:List b6}(keep:Ω):dU (L.map dy) keep=L.map dy:=by
 have:=Hr (L.map dy) [] keep (W3 L);simpa using this
def XB{d:DS}{f n:Int}{es:List Φ}{p:Φ}{whole:Bool}(h:nU d f n es p whole)(keep:Ω){base size:Int}(b0:0<=base)(b1:base<=12288)(s0:64<=size)(s1:size<=65536)(hf:base<=f)(Ar:f+es.length+4<=base+4096)
  (n1:1<=n) (n2:n+es.length+1<=100000) (hn:es=[]->(f=base/\n=1)\/∀y∈d.R,(df [cW n.toNat]).length<=y.safe) :
  ∃g d' iS,dN (d.dB keep) base size=(d',.ok g)/\fJ g d' f n iS/\d'.arm=0/\d'.ops<=d.ops+1/\g.base=base/\g.size=size/\(iS=es\/(whole=true/\iS=es++[p])):=by
 obtain⟨A,l0,pre,k,hA,As,It,o7,pU,o_,gV,hw,hR⟩:=h;have oe:=hA.sa;have hl:(bR A).length+l0.length=es.length:=by rw[<- It,zza]
 let T:=df (cW (n+(bR A).length).toNat::(l0++[p]))
 have Td:(T.take k).length=k:=by rw[zzf];exact xxd gV
 let y:=iA keep (A.map dy).length ⟨f+A.length,pre,T.take k⟩
 have lN:(d.dB keep).R=A.map dy++[y]:=by
  show dU d.R keep=_;rw[hR,Hr _ _ _ (W3 A)];rfl
 have ug:pre<=(T.take k).length:=by rw[Td];exact o_
 have uj:y.b.length=pre+jd keep (A.map dy).length ⟨f+A.length,pre,T.take k⟩:=BX (x:=⟨f+A.length,pre,T.take k⟩) ug;have hy2:y.safe=pre+jd keep (A.map dy).length ⟨f+A.length,pre,T.take k⟩:=D' (x:=⟨f+A.length,pre,T.take k⟩) ug;have mU:pre+jd keep (A.map dy).length ⟨f+A.length,pre,T.take k⟩<=k:=by
  have:=xq (keep:=keep) (i:=(A.map dy).length) (x:=⟨f+A.length,pre,T.take k⟩) ug;simpa [Td] using this
 have hyb:y.b=T.take (pre+jd keep (A.map dy).length ⟨f+A.length,pre,T.take k⟩):=by
  show (T.take k).take _=_;rw[uut,xxd mU]
 generalize hm:pre+jd keep (A.map dy).length ⟨f+A.length,pre,T.take k⟩=m at *
 obtain⟨L,j,d',j1,j2,j3,ho,hc,he,hR',IP,rN,cZ,_,_,_,bg8⟩:=brt (d:=d.dB keep) (A:=A) (l:=l0++[p]) (f:=f) (n:=n) (base:=base) (size:=size) (k:=m) (x:=y) hA As o7 lN rfl (by rw[uj,hy2]) hyb rfl rfl b0 b1 s0 s1 hf (by omega) n1 (by simp;omega);have sY:l0.length<=j:=by
  rcases pU with rfl|pU
  ·simp
  refine j2 l0.length (by simp) ?_;rw[wwg,<- pU];omega
 have Cz:j<=l0.length+1:=by simpa using j1
 refine⟨⟨L,base,size,none⟩,d',bR L,ho,⟨hc,rfl,hR',λhL=>?_,hf,b0,b1,s0,s1,n1,?_,IP,rfl⟩,rN,cZ,rfl,rfl,?_⟩
 ·have hL:L=[]:=hL;have h0:(bR L).length=0:=by rw[hL];rfl
  rw[he,zza,zzf,zza]at h0
  simp only[zzi,yyw]at h0;rcases hn (zzl (by omega)) with hn|hn
  ·exact hn
  have Ew:A=[]:=by
   cases A with
   | nil=>rfl
   | cons s r=>
    have h1:=As s (.head _);have h2:0<s.l.length:=wwz.2 h1;rw[pH,zza]at h0
    omega
  have hs:=hn ⟨f+A.length,pre,(df (cW (n+(bR A).length).toNat::(l0++[p]))).take k⟩ (by rw[hR];simp);refine absurd hL (bg8 ?_);have hs:(df [cW n.toNat]).length<=pre:=hs;subst Ew;show (df [cW (n+((bR []).length:Nat)).toNat]).length<=m;rw[show n+((bR ([]:List b6)).length:Int)=n by show n+((0:Nat):Int)=n;omega];omega
 ·show f+((bR L).length:Int)+2<=base+4096;rw[he,zza,zzf];simp;omega
 rw[he];rcases xxz l0.length j with hj|hj
 ·right;have:j=l0.length+1:=by omega
  subst this;refine⟨?_,by rw[zzz (by simp),<- zzg,It]⟩;cases whole with
  | true=>rfl
  | false=>
   have h1:=hw rfl;rcases j3 (l0.length+1) (by simp) (by rw[zzz (by simp)];exact Nat.lt_of_le_of_lt mU h1) with h2|h2<;>omega
 left;have:j=l0.length:=by omega
 subst this;rw[wwg,It]
def bBi{d:DS}{f n:Int}{es:List Φ}{p:Φ}{whole:Bool}(h:nU d f n es p whole)(keep:Ω){base size:Int}(b0:0<=base)(b1:base<=12288)(s0:64<=size)(s1:size<=65536)(hf:base<=f)(Ar:f+es.length+4<=base+4096)
  (n1:1<=n) (n2:n+es.length+1<=100000) (hn:f=base/\n=1) :
  ∃g d' iS,dN (d.dB keep) base size=(d',.ok g)/\fJ g d' f n iS/\d'.arm=0/\d'.ops<=d.ops+1/\g.base=base/\g.size=size/\(iS=es\/(whole=true/\iS=es++[p])):=
 XB h keep b0 b1 s0 s1 hf Ar n1 n2 λ_=>.inl hn
def vW.may{g:bV}{d:DS}{f n:Int}{es:List Φ}{p:Φ}{x:gq}{A:List b6}{l0:List Φ}{pre:Φ}(h:vW g f n es p x A l0 pre)(hi:fJ g d f n es){d':DS}(ho:d'.off=false):may d' x.file=0/\0<=x.file/\x.file<16384:=by
 have h1:=h.chain.sa;have h2:(bR A).length+l0.length=es.length:=by rw[<- h.fG,zza]
 have:=hi.fi;have:=hi.base;have:=hi.b0;have:=hi.b1;have h3:=h.file;refine⟨?_,by omega,by omega⟩;unfold Go.Proofs.YthohmpdacdmclaaGreatDoor.may
 grind
def Hb{g:bV}{d a s:DS}{p:Φ}{x:gq}{e1 e2:Int}(hp:dE g d.off p= .ok x)(hm:cw g d=((g,d),0))(ha:d.append x.file x.b=(a,e1))(hs:a.sync x.file=(s,e2)):
  d_ g d p=if e1≠0 then ((g,a),(0,e1)) else if e2≠0 then ((g,s),(0,e2)) else (({g with bf:=iU g.bf x p},s),(bH (iU g.bf x p),0)):=by
 grind [d_]
theorem bA1{g:bV}{d a:DS}{p:Φ}{k:Int}{x:gq}(hk:0<=k)(hp:dE g d.off p= .ok x)(hm:cw g d=((g,d),0))(ha:d.append x.file (x.b.take (k.toNat % x.b.length))=(a,0)):
  fA g d p k=(({g with cC:=some ⟨x.file,if x.fresh=true then 0 else lT g.bf,x.fresh⟩},a),0):=by
 grind [fA]
theorem append_eq{d:DS}{f:Int}{b:Φ}(hm:may d f=0):d.append f b=({d.bG with R:=jM d.R f b},d.bG.err):=by
 grind [DS.append]
def aIq{g:bV}{d:DS}{f n:Int}{es:List Φ}(h:fJ g d f n es){p:Φ}{x:gq}{A:List b6}{l0:List Φ}{pre:Φ}(hx:dE g false p= .ok x)(hr:vW g f n es p x A l0 pre)(he:es=[])(hs:g.bf≠[]):(df [cW n.toNat]).length<=pre.length:=by
 have h1:=hr.fG;rw[he]at h1
 obtain⟨wF,pR⟩:=vvl.1 h1;have hA:A=[]:=by
  cases A with
  | nil=>rfl
  | cons s r=>rw[pH]at wF;exact absurd (vvl.1 wF).1 (hr.full s (.head _))
 subst hA pR;have dh:=hr.all;have hb:x.b=bY p:=by
  unfold dE at hx;split at hx
  ·cases hx
  rw[zzb (by decide)]at hx
  split at hx
  ·cases hx
  cases hg:g.bf.getLast? with
  | none=>exact absurd (List.getLast?_eq_none_iff.1 hg) hs
  | some s=>
   rw[hg]at hx
   simp only at hx;have Un:s.l=[]:=by
    have h2:=h.fG;rw[he]at h2
    have hm:=wwl hg;unfold bR at h2;exact List.flatten_eq_nil_iff.1 h2 _ (vvx hm)
   grind
 rw[hb,zzo,p9,show df [p]=bY p by simp[df]]at dh
 have:=yyp List.length dh
 grind [df]
theorem P5{g:bV}{d:DS}{f n:Int}{es:List Φ}(h:fJ g d f n es){p:Φ}(hp:p.length<=1048576)(hn:n+es.length<=100000)(tT:f+es.length+3<=g.base+4096)(ha:0<=d.arm):
  (∃g' d',d_ g d p=((g',d'),(n+es.length,0))/\fJ g' d' f n (es++[p])/\d'.ops=d.ops+2/\0<=d'.arm/\(d.arm=0->d'.arm=0)/\g'.base=g.base/\g'.size=g.size/\(∀s∈g'.bf,s.l≠[])/\d.arm≠1/\d.arm≠2) \/
  (∃d',d_ g d p=((g,d'),(0,8))/\nU d' f n es p true/\d'.off=true/\d'.ops<=d.ops+2/\d.arm≠0/\(es=[]->g.bf≠[]->∀y∈d'.R,(df [cW n.toNat]).length<=y.safe)):=by
 obtain⟨x,A,l0,pre,dm,hr⟩:=FU h hp hn;have vm:∀R:List PF,R=jM d.R x.file x.b->es=[]->g.bf≠[]->∀y∈R,(df [cW n.toNat]).length<=y.safe:=λR hR he hs y hy=>by
  have h1:=aIq h dm hr he hs;have h2:=hr.fG;rw[he]at h2
  have hA:A=[]:=by
   cases A with
   | nil=>rfl
   | cons s r=>rw[pH,zzg]at h2;exact absurd (vvl.1 h2).1 (hr.full s (.head _))
  have vf:=hr.app x.b;rw[<- h.files,hA]at vf
  grind
 have jF:=h.off;have hm:cw g d=((g,d),0):=by unfold cw;rw[h.cC]
 obtain⟨lP,f0,f1⟩:=hr.may h jF;have sU:=append_eq (b:=x.b) lP;by_cases h1:d.arm=1
 ·right;have e:d.bG.off=true:=by simp[DS.bG,h1]
  refine⟨{d.bG with R:=jM d.R x.file x.b},?_,hr.cC hp (m:=x.b.length) (zzj _) (λe=>by cases e) (by rw[zz0,h.files]),e,by simp[DS.bG],by omega,vm _ rfl⟩;have e2:d.bG.err=8:=by unfold DS.err;rw[e];rfl
  rw[Hb (by rw[jF];exact dm) hm sU rfl,e2];rfl
 have e:d.bG.off=false:=by simp[DS.bG,h1]
 have e2:d.bG.err=0:=by unfold DS.err;rw[e];rfl
 have vf:=hr.app x.b;rw[<- h.files]at vf
 let d1:DS:={d.bG with R:=jM d.R x.file x.b}
 have oq:oJ f (A.map dy++[⟨x.file,pre.length,pre++x.b⟩]):=hr.chain.sG.snoc (by rw[zzv];exact hr.file);have jt:d1.R=A.map dy++[⟨x.file,pre.length,pre++x.b⟩]:=vf;have tU:d1.find x.file=0:=by
  unfold DS.find;rw[zzb (by rw[(hr.may h (d':=d1) e).1];simp)];have hs:=oq.sorted
  grind [Fv]
 rw[e2]at sU
 by_cases h2:d.arm=2
 ·right;have e3:d1.bG.off=true:=by simp[DS.bG,d1,h2]
  have I4:d1.sync x.file=(d1.bG,8):=by
   grind [DS.sync]
  rw[Hb (by rw[jF];exact dm) hm sU I4];refine⟨d1.bG,rfl,hr.cC hp (m:=x.b.length) (zzj _) (λe=>by cases e) (by rw[zz0,<- h.files];rfl),e3,by simp[DS.bG,d1],by omega,vm _ rfl⟩
 left;have Th:d1.arm=if 0<d.arm then d.arm-1 else d.arm:=rfl
 have e3:d1.bG.off=false:=zzx (by rw[Th];split<;>omega);have Ck:0<=d1.arm:=by rw[Th];split<;>omega
 have I4:d1.sync x.file=({d1.bG with R:=jz d1.R x.file λy=>{y with safe:=y.b.length}},0):=by
  grind [DS.sync]
 rw[Hb (by rw[jF];exact dm) hm sU I4];have ll:=hr.put;have hup:jz d1.R x.file (λy=>{y with safe:=y.b.length})=(iU g.bf x p).map dy:=by
  rw[jt,Kz (x:=⟨x.file,pre.length,pre++x.b⟩) oq.sorted,hr.btp]
 refine⟨{g with bf:=iU g.bf x p},{d1.bG with R:=jz d1.R x.file λy=>{y with safe:=y.b.length}},?_,⟨ll,hr.Wm,hup,λe=>absurd e hr.dI,h.base,h.b0,h.b1,h.s0,h.s1,h.n1,?_,e3,h.cC⟩,by simp[DS.bG,d1],?_,λh0=>by simp[DS.bG,d1,h0],rfl,rfl,hr.btl,h1,h2⟩
 ·have:bH (iU g.bf x p)=n+es.length:=by
   rw[ll.head hr.dI,hr.Wm,zza];simp;omega
  grind
 ·grind
 show 0<=if 0<d1.arm then d1.arm-1 else d1.arm
 split<;>omega
def aIr{g:bV}{d:DS}{f n:Int}{es:List Φ}(h:fJ g d f n es){p:Φ}(hp:p.length<=1048576)(hn:n+es.length<=100000)(tT:f+es.length+3<=g.base+4096)(ha:0<=d.arm):
  (∃g' d',d_ g d p=((g',d'),(n+es.length,0))/\fJ g' d' f n (es++[p])/\d'.ops=d.ops+2/\0<=d'.arm/\(d.arm=0->d'.arm=0)/\g'.base=g.base/\g'.size=g.size/\(∀s∈g'.bf,s.l≠[])/\d.arm≠1/\d.arm≠2) \/
  (∃d',d_ g d p=((g,d'),(0,8))/\nU d' f n es p true/\d'.off=true/\d'.ops<=d.ops+2/\d.arm≠0):=by
 grind [P5]
def nU.sw{d d':DS}{f n:Int}{es:List Φ}{p:Φ}{whole:Bool}(h:nU d f n es p whole)(hR:d'.R=d.R):nU d' f n es p whole:=by
 obtain⟨A,l0,pre,k,h⟩:=h;exact⟨A,l0,pre,k,by rw[hR];exact h⟩
def aIt{g g1:bV}{d d1:DS}{p:Φ}(hm:cw g d=((g1,d1),0))(hs:g1.bf=g.bf)(hb:g1.base=g.base)(hz:g1.size=g.size)(ho:d.off=false)(CJ:d1.off=false)(ht:g1.cC=none){x:gq}(hx:dE g1 false p= .ok x):d_ g d p=d_ g1 d1 p:=by
 have hp:dE g false p=dE g1 false p:=by
  grind [dE,mi]
 grind [cw,d_]
def J5{g:bV}{off:Bool}{p:Φ}{x:gq}(h:dE g off p= .ok x):x.b.length<=27+p.length:=by
 grind [mi,jX,Ap,dE]
def FJ{g:bV}{d:DS}{N:Nat}(h:d.Ok N):(cw g d).1.2.Ok N:=by
 unfold cw;split
 ·exact h
 simp only;split
 ·exact h.remove _
 exact h.cut _ _
def P4{g:bV}{d:DS}{N:Nat}(h:d.Ok N)(p:Φ):(d_ g d p).1.2.Ok (N+(27+p.length)):=by
 unfold d_;split
 ·exact h.mono (by omega)
 rename_i x hx;have hl:=J5 hx;have hm:=FJ (g:=g) h;simp only;split
 ·exact hm.mono (by omega)
 have ha:=(hm.append x.file x.b).mono (M:=N+(27+p.length)) (by omega);split
 ·exact ha
 have hs:=ha.sync x.file
 grind
def bA5{g:bV}{d:DS}{N:Nat}(h:d.Ok N)(p:Φ)(k:Int):(fA g d p k).1.2.Ok (N+(27+p.length)):=by
 unfold fA;split
 ·exact h.mono (by omega)
 split
 ·exact h.mono (by omega)
 rename_i x hx;have hl:=J5 hx;have hm:=FJ (g:=g) h;simp only;split
 ·exact hm.mono (by omega)
 have ha:=(hm.append x.file (x.b.take (k.toNat % x.b.length))).mono (M:=N+(27+p.length)) (by rw[zzf];omega)
 grind
theorem XF{N:Nat}(k:Int):∀(L:List b6) (d:DS),d.Ok N->(gm L d k).1.2.Ok N
 | [],d,h=>h
 | [s],d,h=>h
 | s::t::L,d,h=>by
  rw[gm];split
  ·split
   ·exact h.remove _
   exact XF k (t::L) _ (h.remove _)
  exact h
def bBm{g:bV}{d:DS}{N:Nat}(h:d.Ok N)(k:Int):(gl g d k).1.2.Ok N:=by
 grind [gl,XF]
theorem P_{L:List b6}{d:DS}{ids:Ω}{wh:Bool}{N:Nat}(h:d.Ok N):(iQ L d ids wh).1.Ok N:=by
 unfold iQ;split
 ·exact h
 split
 ·exact h.remove _
 split
 ·exact h.cut _ _
 exact h
def FO{d:DS}{base size:Int}{N:Nat}(h:d.Ok N):(dN d base size).1.Ok N:=by
 grind [dN,P_]
def j7.mono{s:b6}{N M:Nat}(h:j7 s N)(hm:N<=M):j7 s M:=⟨h.f0,h.f1,h.n0,h.n1,yy1 h.sz hm,yy1 h.ln hm,h.bl⟩
def bV.Ok.mono{g:bV}{N M:Nat}(h:g.Ok N)(hm:N<=M):g.Ok M:=⟨λs hs=>(h.bf s hs).mono hm,h.b0,h.b1,h.s0,h.s1,yy1 h.ln hm⟩
def bV.Ok.congr{g g':bV}{N:Nat}(h:g.Ok N)(h1:g'.bf=g.bf)(h2:g'.base=g.base)(h3:g'.size=g.size):g'.Ok N:=
 ⟨by rw[h1];exact h.bf,by rw[h2];exact h.b0,by rw[h2];exact h.b1,by rw[h3];exact h.s0,by rw[h3];exact h.s1,by rw[h1];exact h.ln⟩
def s9(g:bV)(d:DS):(cw g d).1.1.bf=g.bf/\(cw g d).1.1.base=g.base/\(cw g d).1.1.size=g.size:=by
 unfold cw;split<;>exact⟨rfl,rfl,rfl⟩
def JE{g:bV}{d:DS}{N:Nat}(h:g.Ok N):(cw g d).1.1.Ok N:=let ⟨a,b,c⟩:=s9 g d;h.congr a b c
structure xP(g:bV)(p:Φ)(x:gq):Prop where
 pl:p.length<=1048576
 hd:bH g.bf<1099511627776
 mZ:x.fresh=false->∃s,g.bf.getLast?=some s/\x.file=s.file
 f0:x.fresh=true->0<=x.file/\x.file<=100000
 bl:x.b.length<=27+p.length
 pos:8<=x.b.length
def FT{g:bV}{N:Nat}(h:g.Ok N){off:Bool}{p:Φ}{x:gq}(hx:dE g off p= .ok x):xP g p x:=by
 have hb:=J5 hx;have h0:=h.b0;have h1:=h.b1;have hp:p.length<=1048576:=by
  unfold dE at hx;split at hx
  ·cases hx
  omega
 have tV:∀F,0<=F->bH g.bf<1099511627776->mi g F p= .ok x->xP g p x:=λF hF hd hx=>by
  unfold mi at hx;split at hx
  ·cases hx
  cases hx;exact⟨hp,hd,λe=>(by cases e),λ_=>⟨hF,by show F<=100000;omega⟩,hb,by show 8<=(bY _++bY p).length;rw[zza,jX];omega⟩
 unfold dE at hx;rw[zzb (by omega)]at hx
 split at hx
 ·cases hx
 split at hx
 ·cases hx
 rename_i hd;have hd:bH g.bf<1099511627776:=by omega
 split at hx
 ·exact tV _ h0 hd hx
 rename_i s hs;split at hx
 ·cases hx;exact⟨hp,hd,λ_=>⟨s,hs,rfl⟩,λe=>(by cases e),hb,by show 8<=(bY p).length;rw[jX];omega⟩
 have:=(h.bf s (wwl hs)).f0;exact tV _ (by omega) hd hx
def s_(L:List b6)(x:gq):List b6:=if x.fresh=true then L++[⟨x.file,bH L+1,0,[]⟩] else L
def xU(s:b6)(n:Nat)(p:Φ):b6:={s with size:=s.size+n,l:=s.l++[p]}
def FV(L:List b6)(x:gq)(p:Φ){A:List b6}{s:b6}(h:s_ L x=A++[s]):iU L x p=A++[xU s x.b.length p]:=by
 unfold iU;have:(if x.fresh=true then L++[⟨x.file,bH L+1,0,[]⟩] else L)=A++[s]:=h;rw[this];simp only[List.dropLast_concat,wwm];rfl
def JG{g:bV}{p:Φ}{x:gq}(h:xP g p x):∃A s,s_ g.bf x=A++[s]:=by
 unfold s_;cases hf:x.fresh with
 | true=>exact⟨_,_,rfl⟩
 | false=>
  obtain⟨s,hs,_⟩:=h.mZ hf;obtain⟨A,hA⟩:=List.getLast?_eq_some_iff.1 hs;exact⟨A,s,by rw[zzb (by decide)];exact hA⟩
def VN{g:bV}{N:Nat}(hg:g.Ok N){p:Φ}{x:gq}(h:xP g p x):∀s∈s_ g.bf x,j7 s N:=by
 intro s hs;unfold s_ at hs;split at hs
 ·rename_i hf;rcases zz4.1 hs with hs|hs
  ·exact hg.bf s hs
  rw[zz8.1 hs];have:=sW hg.bf;have:=h.hd;exact⟨(h.f0 hf).1,(h.f0 hf).2,by show 1<=bH g.bf+1;omega,by show bH g.bf+1<=_;omega,zz6 _,zz6 _,λb hb=>by cases hb⟩
 exact hg.bf s hs
def bqd(L:List b6)(x:gq):(s_ L x).length<=L.length+1:=by
 unfold s_;split<;>simp
def Wn{g:bV}{N:Nat}(hg:g.Ok N){p:Φ}{x:gq}(h:xP g p x):(∀s∈iU g.bf x p,j7 s (N+(28+p.length)))/\(iU g.bf x p).length<=N+1:=by
 obtain⟨A,s,hA⟩:=JG h;have bC:=VN hg h;have hl:=bqd g.bf x;have hn:=hg.ln;rw[FV _ _ _ hA];rw[hA]at bC hl
 refine⟨λt ht=>?_,by simp at hl ⊢;omega⟩;rcases zz4.1 ht with ht|ht
 ·exact (bC t (yyr _ ht)).mono (by omega)
 rw[zz8.1 ht];have hs:=bC s (by simp);have:=hs.sz;have:=hs.ln;have:=h.bl;refine⟨hs.f0,hs.f1,hs.n0,hs.n1,by show s.size+x.b.length<=_;omega,by show (s.l++[p]).length<=_;simp;omega,λb hb=>?_⟩;rcases zz4.1 hb with hb|hb
 ·exact hs.bl b hb
 rw[zz8.1 hb];exact h.pl
def Ky(n:Int):∀(L:List b6) (d:DS),(∀s∈(gm L d n).1.1,s∈L)/\(gm L d n).1.1.length<=L.length
 | [],d=>⟨λs hs=>hs,zzj _⟩
 | [t],d=>⟨λs hs=>hs,zzj _⟩
 | t::u::L,d=>by
  rw[gm];split
  ·split
   ·exact⟨λs hs=>hs,zzj _⟩
   obtain⟨h1,h2⟩:=Ky n (u::L) (d.remove t.file).1;exact⟨λs hs=>.tail _ (h1 s hs),by simp at h2 ⊢;omega⟩
  exact⟨λs hs=>hs,zzj _⟩
def bBl{g:bV}{d:DS}{N:Nat}(h:g.Ok N)(n:Int):(gl g d n).1.1.Ok N:=by
 unfold gl;split
 ·exact h
 obtain⟨h1,h2⟩:=Ky n g.bf d;exact⟨λs hs=>h.bf s (h1 s hs),h.b0,h.b1,h.s0,h.s1,yy1 h2 h.ln⟩
def hY:List b6->Prop
 | []=>True
 | [_]=>True
 | s::t::r=>t.first=s.next/\hY (t::r)
def hY.tail{s:b6}{L:List b6}(h:hY (s::L)):hY L:=by
 cases L with
 | nil=>trivial
 | cons t r=>exact h.2
def hY.drop{L:List b6}(h:hY L):∀i,hY (L.drop i)
 | 0=>h
 | i+1=>by
  cases L with
  | nil=>exact trivial
  | cons s L=>exact hY.drop h.tail i
def hY.snoc:∀{L:List b6} {x:b6},hY L->(L≠[]->x.first=bH L+1)->hY (L++[x])
 | [],x,_,_=>trivial
 | [s],x,_,h=>⟨by have:=h (by simp);simp only[bH,List.getLast?_singleton]at this;omega,trivial⟩
 | s::t::r,x,h,hx=>by
  refine⟨h.1,?_⟩;refine hY.snoc (L:=t::r) h.2 λ_=>?_
  grind [bH]
def hY.last:∀{A:List b6} {s t:b6},hY (A++[s])->t.first=s.first->hY (A++[t])
 | [],s,t,_,_=>trivial
 | [a],s,t,h,e=>⟨by rw[e];exact h.1,trivial⟩
 | a::b::r,s,t,h,e=>⟨h.1,hY.last (A:=b::r) h.2 e⟩
def TOk(g:bV):Prop:=∀x,g.cC=some x->0<=x.file/\x.file<=100000/\(x.fresh=false->∃s,g.bf.getLast?=some s/\s.file=x.file/\x.nG=s.size)/\(x.fresh=true->∀s,g.bf.getLast?=some s->s.file≠x.file)
structure gX(g:bV)(M:Nat):Prop where
 ok:g.Ok M
 seq:hY g.bf
 hd:bH g.bf<=1099511627776
 cC:TOk g
def gX.mono{g:bV}{N M:Nat}(h:gX g N)(hm:N<=M):gX g M:=⟨h.ok.mono hm,h.seq,h.hd,h.cC⟩
def VD(g:bV)(d:DS):(cw g d).1.1.cC=if (cw g d).2=0 then none else g.cC:=by
 grind [cw]
def VB{g:bV}{d:DS}{M:Nat}(h:gX g M):gX (cw g d).1.1 M:=by
 obtain⟨h1,h2,h3⟩:=s9 g d;refine⟨JE h.ok,by rw[h1];exact h.seq,by rw[h1];exact h.hd,λx hx=>?_⟩;rw[VD]at hx
 split at hx
 ·cases hx
 rw[h1];exact h.cC x hx
theorem bhw(A:List b6)(s:b6):bH (A++[s])=s.next-1:=by
 grind [bH]
def btq{g:bV}{M:Nat}(h:gX g M){p:Φ}{x:gq}(hw:xP g p x)(ht:g.cC=none):gX {g with bf:=iU g.bf x p} (M+(28+p.length)):=by
 obtain⟨k1,k2⟩:=Wn h.ok hw;have hb:=h.ok;have vm:=hw.hd;obtain⟨A,s,hA⟩:=JG hw;have I3:hY (A++[s])/\s.next-1<=bH g.bf:=by
  rw[<- hA];unfold s_ at hA ⊢;split
  ·rename_i hf;rw[zzc hf]at hA
   have hs:=List.append_inj' hA rfl;have e:s=⟨x.file,bH g.bf+1,0,[]⟩:=by simpa using hs.2.symm
   refine⟨h.seq.snoc λ_=>rfl,?_⟩
   grind [b6.next]
  rename_i hf;rw[zzb hf]at hA
  refine⟨h.seq,?_⟩
  grind [bhw]
 rw[FV _ _ _ hA]at k1 k2 ⊢
 refine⟨⟨k1,hb.b0,hb.b1,hb.s0,hb.s1,by show (A++[xU s x.b.length p]).length<=_;omega⟩,I3.1.last rfl,?_,λy hy=>?_⟩
 ·grind [bH,xU,b6.next]
 grind
def P3{g:bV}{d:DS}{M:Nat}(h:gX g M)(p:Φ):gX (d_ g d p).1.1 (M+(28+p.length)):=by
 unfold d_;split
 ·exact h.mono (by omega)
 rename_i x hx;have hw:=FT h.ok hx;have hm:=VB (d:=d) h;obtain⟨m1,_,_⟩:=s9 g d;have mt:=VD g d;simp only;split
 ·exact hm.mono (by omega)
 rename_i h0;have h0:(cw g d).2=0:=by simpa using h0
 rw[zzc h0]at mt
 split
 ·exact hm.mono (by omega)
 split
 ·exact hm.mono (by omega)
 refine btq hm ⟨hw.pl,by rw[m1];exact hw.hd,by rw[m1];exact hw.mZ,hw.f0,hw.bl,hw.pos⟩ mt
def btd{g:bV}{M:Nat}(h:g.Ok M){off:Bool}{p:Φ}{x:gq}(hx:dE g off p= .ok x):0<=x.file/\x.file<=100000/\(x.fresh=false->∃s,g.bf.getLast?=some s/\s.file=x.file)/\(x.fresh=true->∀s,g.bf.getLast?=some s->s.file≠x.file):=by
 have hw:=FT h hx;cases hf:x.fresh with
 | false=>
  obtain⟨s,h1,h2⟩:=hw.mZ hf;have:=h.bf s (wwl h1);exact⟨by rw[h2];exact this.f0,by rw[h2];exact this.f1,λ_=>⟨s,h1,h2.symm⟩,λe=>by cases e⟩
 | true=>
  obtain⟨f0,f1⟩:=hw.f0 hf
  grind [dE,mi]
def bAz{g:bV}{d:DS}{M:Nat}(h:gX g M)(p:Φ)(k:Int):gX (fA g d p k).1.1 M:=by
 unfold fA;split
 ·exact h
 split
 ·exact h
 rename_i x hx;have hm:=VB (d:=d) h;obtain⟨m1,m2,m3⟩:=s9 g d;obtain⟨f0,f1,f2,f3⟩:=btd h.ok hx;simp only;split
 ·exact hm
 split
 ·exact hm
 refine⟨hm.ok.congr rfl rfl rfl,hm.seq,hm.hd,λy hy=>?_⟩
 grind [lT]
def XD(n:Int):∀(L:List b6) (d:DS),∃i,(gm L d n).1.1=L.drop i/\(i=0\/i<L.length)
 | [],d=>⟨0,rfl,.inl rfl⟩
 | [t],d=>⟨0,rfl,.inl rfl⟩
 | t::u::L,d=>by
  rw[gm];split
  ·split
   ·grind
   obtain⟨i,h1,h2⟩:=XD n (u::L) (d.remove t.file).1;exact⟨i+1,by rw[h1];rfl,.inr (by simp at h2 ⊢;omega)⟩
  grind
def bcw{α:Type}{L:List α}{i:Nat}(h:i=0\/i<L.length):(L.drop i).getLast?=L.getLast?:=by
 grind
def bBk{g:bV}{d:DS}{M:Nat}(h:gX g M)(n:Int):gX (gl g d n).1.1 M:=by
 have hk:=bBl (d:=d) h.ok n;unfold gl at hk ⊢;split
 ·exact h
 rename_i ho;rw[zzb ho]at hk
 obtain⟨i,h1,h2⟩:=XD n g.bf d;have hl:(gm g.bf d n).1.1.getLast?=g.bf.getLast?:=by rw[h1];exact bcw h2
 refine⟨hk,by show hY (gm g.bf d n).1.1;rw[h1];exact h.seq.drop i,?_,λx hx=>?_⟩
 ·show bH (gm g.bf d n).1.1<=_;unfold bH;rw[hl];exact h.hd
 show _/\_/\(_->∃s,(gm g.bf d n).1.1.getLast?=some s/\_)/\(_->∀s,(gm g.bf d n).1.1.getLast?=some s->_);rw[hl];exact h.cC x hx
def bny{L:List b6}{R:List PF}{f:Int}{last:Bool}(h:hY L)(hh:bH L<=1099511627776):hY (iu L R f last).2/\bH (iu L R f last).2<=1099511627776:=by
 unfold iu;simp only;split
 ·exact⟨h,hh⟩
 split
 ·exact⟨h,hh⟩
 rename_i k l n hr hc;refine⟨h.snoc λhL=>?_,?_⟩
 ·grind
 grind [bH,b6.next]
def Ve{R:List PF}:∀(ids:Ω) (prev:Option Int) (L:List b6) (wh:Bool),hY L->bH L<=1099511627776->∀{L' xC},kM R ids prev L wh=some (L',xC)->hY L'/\bH L'<=1099511627776
 | [],prev,L,wh,h,hh,L',xC,e=>by cases e;exact⟨h,hh⟩
 | f::r,prev,L,wh,h,hh,L',xC,e=>by
  rw[AS]at e
  obtain⟨k1,k2⟩:=bny (R:=R) (f:=f) (last:=r.isEmpty) h hh;split at e
  ·cases e
  split at e
  ·cases e
  exact Ve r _ _ _ k1 k2 e
structure eK where
 kind:Int
 keep:Int
def eY(f:eK):Ξ:=[Γ f.kind,Γ f.keep]
def HD(f:eK):(eY f).length=2:=rfl
def bdd(f:eK):∀v∈eY f,v.oneCell'=true:=by simp[eY,Value.oneCell']
def fI(f:eK):Bool:=decide (((f.kind=1\/f.kind=3)/\f.keep=0)\/(f.kind=2/\0<=f.keep))
def lX(p:List eK):List eK->List eK
 | []=>p
 | f::l=>lX (if fI f=true/\p.length<1024 then p++[f] else p) l
structure bO where
 g:bV
 d:DS
 ts:List (List Cell)
 plan:List eK
 aw:Int
 reqs:List Rq
def nO(L:List Rq)(n:gF):Option (List Rq):=
 if n.kind=2 then lG L n.id n.cG n.done
 else match oO L n.table n.weight n.at_ with
  | some L'=>if n.id=L'.length then some L' else none
  | none=>none
def fE:List Rq->List gF->Option (List Rq)
 | L,[]=>some L
 | L,n::r=>match nO L n with
  | some L'=>fE L' r
  | none=>none
def sr(k:Nat)(x:bB):Bool:=x.ops.all λo=>decide (o.table<k)
def fj(k:Nat)(L:List Rq)(x:bB):Option (List Rq):=if du x=true/\sr k x=true then fE L x.notes else none
def bO.x'(k:bO)(x:bB)(L:List Rq):bO:={k with ts:=(ep k.ts x.ops).1,reqs:=L,aw:=x.aw}
def fr(x:bB):Φ:=match tG x with
 | .ok b=>b
 | .error _=>[]
def bO.ga(k:bO)(x:bB)(L:List Rq):bO × Int:=
 let r:=d_ k.g k.d (fr x)
 if r.2.2=0 then (bO.x' {k with g:=r.1.1,d:=r.1.2} x L,0) else ({k with g:=r.1.1,d:=r.1.2},r.2.2)
def bO.jI(k:bO)(x:bB)(n:Int):bO × Int:=
 let r:=fA k.g k.d (fr x) n
 ({k with g:=r.1.1,d:=r.1.2},r.2)
def bO.eX(k:bO)(x:bB):bO × Int:=
 if du x=false\/(k.aw<x.aw/\fj k.ts.length k.reqs x=none) then (k,1)
 else if k.d.off=true then (k,8)
 else
  let L:=(fj k.ts.length k.reqs x).getD []
  match k.plan with
  | []=>if k.aw<x.aw then k.ga x L else (k,0)
  | f::r=>
   let k':bO:={k with plan:=r}
   if f.kind=3 then (if k.aw<x.aw then ((k'.ga x L).1,if (k'.ga x L).2=0 then 9 else (k'.ga x L).2) else (k',9))
   else if f.kind=2/\k.aw<x.aw then ((k'.jI x f.keep).1,if (k'.jI x f.keep).2=0 then 9 else (k'.jI x f.keep).2)
   else (k',9)
abbrev Tr:=List (List Cell) × List Rq × Int
def stepT(bL:Nat)(t:Tr)(x:bB):Option Tr:=match fj bL t.2.1 x with
 | some L=>if t.2.2<x.aw then some ((ep t.1 x.ops).1,L,x.aw) else none
 | none=>none
def tf(bL:Nat):List (Φ)->Tr->Option Tr
 | [],t=>some t
 | b::r,t=>match mO b with
  | .ok x=>match stepT bL t x with
   | some t'=>tf bL r t'
   | none=>none
  | .error _=>none
def re(bL:Nat):Tr:=(List.replicate bL [],[],0)
def bO.tr(k:bO):Tr:=(k.ts,k.reqs,k.aw)
def jH(d:DS)(bL size:Int):DS × Except Int bO:=
 if bL<1\/8<bL then (d,.error 1)
 else match dN d 8192 size with
  | (d',.error e)=>(d',.error e)
  | (d',.ok g)=>
   if dH g.bf≠1/\dH g.bf<=bH g.bf then (d',.error 3)
   else match tf bL.toNat (bR g.bf) (re bL.toNat) with
    | none=>(d',.error 3)
    | some t=>(d',.ok ⟨g,d',t.1,[],t.2.2,t.2.1⟩)
structure cx where
 kind:Int
 n:Int
 sg:Ψ
 l:List da
 ft:eK
 keep:Ω
instance (a b:eK):Decidable (a=b):=decidable_of_iff (a.kind=b.kind/\a.keep=b.keep) (by obtain⟨a1,a2⟩:=a;obtain⟨b1,b2⟩:=b;simp)
theorem FM{α β:Type}(f:α->β):∀l:List α,(l.map λs=>[f s]).flatten=l.map f
 | []=>rfl
 | a::l=>by rw[zzp,zz2,FM f l];rfl
def fH:eK:=⟨0,0⟩
def q_(k:Int):cx:=⟨k,0,[],[],fH,[]⟩
structure gr where
 kind:Int
 n:Int
 sv:Ε
 cv:Ε
 ft:eK
 kv:Ε
def dF(x:gr):Ξ:=[Γ x.kind,Γ x.n,x.sv,x.cv,Γ x.ft.kind,Γ x.ft.keep,x.kv]
def pG(x:gr):(dF x).length=7:=rfl
structure gH(H:a_)(x:gr)(s:cx):Prop where
 kind:x.kind=s.kind
 n:x.n=s.n
 ft:x.ft=s.ft
 sv:cn H 1 x.sv s.sg.length (s.sg.map Value.string)
 cv:cn H 4 x.cv s.l.length (s.l.map eM).flatten
 kv:cn H 1 x.kv s.keep.length (s.keep.map (Value.int .i64))
def gH.mono{H H':a_}(hh:H.le H'){x:gr}{s:cx}(h:gH H x s):gH H' x s:=⟨h.kind,h.n,h.ft,h.sv.mono hh,h.cv.mono hh,h.kv.mono hh⟩
def oK(H:a_)(v:Ε)(l:List cx):Prop:=∃xs:List gr,xs.length=l.length/\cn H 7 v l.length (xs.map dF).flatten/\∀i (h:i<l.length) (h':i<xs.length),gH H xs[i] l[i]
def Fx(l:Ω):Bool:=l.all λk=>decide (0<=k/\k<=2147483647)
def ix(s:cx):Bool:=
 decide ((1<=s.kind/\s.kind<=8)/\(0<=s.n/\s.n<=1125899906842624)/\(s.n=0\/s.kind=2\/s.kind=4\/s.kind=5\/s.kind=7)/\(s.ft=fH\/s.kind=3)/\(s.sg.length=0\/s.kind=1)/\(s.l.length=0\/s.kind=1)/\(s.keep.length=0\/s.kind=8)/\(s.kind=3->fI s.ft=true/\s.ft.keep<=2147483647)/\s.keep.length<=64) && c_ ⟨1,1,s.l,s.sg,0⟩ && Fx s.keep
def s8{s:cx}:ix s=true↔((1<=s.kind/\s.kind<=8)/\(0<=s.n/\s.n<=1125899906842624)/\(s.n=0\/s.kind=2\/s.kind=4\/s.kind=5\/s.kind=7)/\(s.ft=fH\/s.kind=3)/\(s.sg.length=0\/s.kind=1)/\(s.l.length=0\/s.kind=1)/\(s.keep.length=0\/s.kind=8)/\(s.kind=3->fI s.ft=true/\s.ft.keep<=2147483647)/\s.keep.length<=64)/\c_ ⟨1,1,s.l,s.sg,0⟩=true/\∀k∈s.keep,0<=k/\k<=2147483647:=by
 grind [ix,Fx]
def oC(l:List cx):Bool:=l.all ix && decide (l.length<=1000)
def vA{l:List cx}:oC l=true↔(∀s∈l,ix s=true)/\l.length<=1000:=by
 grind [oC]
def tH(s:cx):List cA:=[iF s.sg.length]++s.sg.map tF++([iF s.l.length]++(s.l.map jr).flatten)
def sL(s:cx):List cA:=
 if s.kind=1 then tH s else if s.kind=3 then [iF s.ft.kind,iF s.ft.keep] else if s.kind=6 then [] else if s.kind=8 then [iF s.keep.length]++s.keep.map iF else [iF s.n]
def jE(s:cx):List cA:=[iF s.kind]++sL s
def pL(l:List cx):List cA:=[iF l.length]++(l.map jE).flatten
def z_(l:List cx):Except Int Φ:=if oC l=true then lJ (pL l) else .error 1
def VG(k:Int)(x:(Int × Ψ) × (Int × List da)):cx:={q_ k with sg:=x.1.2,l:=x.2.2}
def VH(k:Int)(x:Int × Int):cx:={q_ k with ft:=⟨x.1,x.2⟩}
def JF(k:Int)(x:Int × Ω):cx:={q_ k with keep:=x.2}
def VK(k:Int)(x:Int):cx:={q_ k with n:=x}
def mM(k:Int):bP->cx × bP:=
 if k=1 then lx (VG k) (jY (k9 (bN 2) (gM j6)) λ_=>k9 (bN 16) (gM kE))
 else if k=3 then lx (VH k) (jY (bN 3) λ_=>bN 2147483647)
 else if k=6 then λr=>(q_ k,r)
 else if k=8 then lx (JF k) (k9 (bN 64) (gM (bN 2147483647)))
 else lx (VK k) dM
def my:bP->cx × bP:=lx Prod.snd (jY (bN 8) mM)
def vL:bP->(Int × List cx) × bP:=k9 (bN 1000) (gj my)
def A'(x:(Int × List cx) × bP):Prop:=(x.2.bad=false/\x.2.l=[])/\oC x.1.2=true
instance (x:(Int × List cx) × bP):Decidable (A' x):=by unfold A';infer_instance
def nA(b:Φ):Except Int (List cx):=match gJ b with
 | .error e=>.error e
 | .ok l=>if A' (vL ⟨l,false⟩) then .ok (vL ⟨l,false⟩).1.2 else .error 3
theorem vN{m n:Int}{l:List cA}(h:0<=n/\n<=m):bN m ⟨iF n::l,false⟩=(n,⟨l,false⟩):=nR h
theorem aRr{s:cx}(h:ix s=true)(l:List cA):mM s.kind ⟨sL s++l,false⟩=(s,⟨l,false⟩):=by
 obtain⟨⟨h1,h2,h3,h4,h5,h6,h7,h8,h9⟩,sP,vd⟩:=s8.1 h;obtain⟨_,_,_,t4,t5,t6,t7⟩:=kr sP;have t4:s.l.length<=16:=t4;have t5:s.sg.length<=2:=t5;obtain⟨k,n,sg,cl,ft,kp⟩:=s;simp only at *
 have e0:∀{α:Type} {l:List α},l.length=0\/k=1->k≠1->l=[]:=λh hk=>yys.1 (h.resolve_right hk);unfold mM sL;simp only;by_cases k1:k=1
 ·subst k1;rw[zzc rfl,zzc rfl];have hn:n=0:=by omega
  have hf:ft=fH:=by rcases h4 with h|h;exact h;omega
  have hk:kp=[]:=yys.1 (by omega);subst hn hf hk;unfold tH lx jY k9 jY;have e1:bN 2 ⟨[iF (sg.length:Int)]++sg.map tF++([iF (cl.length:Int)]++(cl.map jr).flatten)++l,false⟩=((sg.length:Int),⟨sg.map tF++([iF (cl.length:Int)]++(cl.map jr).flatten++l),false⟩):=by
   grind [vN]
  have e2:gM j6 sg.length ⟨sg.map tF++([iF (cl.length:Int)]++(cl.map jr).flatten++l),false⟩=(sg,⟨[iF (cl.length:Int)]++(cl.map jr).flatten++l,false⟩):=by
   have:=xk (one:=j6) (f:=λs=>[tF s]) sg ([iF (cl.length:Int)]++(cl.map jr).flatten++l) λx _ l=>rfl
   grind [FM]
  have e3:bN 16 ⟨[iF (cl.length:Int)]++(cl.map jr).flatten++l,false⟩=((cl.length:Int),⟨(cl.map jr).flatten++l,false⟩):=vN ⟨xx5 _,by omega⟩;have e4:gM kE cl.length ⟨(cl.map jr).flatten++l,false⟩=(cl,⟨l,false⟩):=xk cl l λc hc l=>Ru (by have:=uq.1 (t6 c hc);omega);simp only[e1,zzw,e2,e3,e4];rfl
 have CW:=yys.1 (h5.resolve_right k1);have mR:=yys.1 (h6.resolve_right k1);subst CW mR;rw[zzb k1,zzb k1];by_cases k3:k=3
 ·subst k3;have hn:n=0:=by omega
  have hk:kp=[]:=yys.1 (by omega);subst hn hk;obtain⟨h8,H_⟩:=h8 rfl;unfold fI at h8;rw[zz1]at h8
  rw[zzc rfl,zzc rfl];obtain⟨fk,fp⟩:=ft;simp only at h8 H_;unfold lx jY;have e1:bN 3 ⟨[iF fk,iF fp]++l,false⟩=(fk,⟨iF fp::l,false⟩):=vN (by omega);have e2:bN 2147483647 ⟨iF fp::l,false⟩=(fp,⟨l,false⟩):=vN (by omega);simp only[e1,e2];rfl
 have hf:=h4.resolve_right k3;subst hf;rw[zzb k3,zzb k3];by_cases k6:k=6
 ·subst k6;have hn:n=0:=by omega
  have hk:kp=[]:=yys.1 (by omega);subst hn hk;rw[zzc rfl,zzc rfl];rfl
 rw[zzb k6,zzb k6];by_cases k8:k=8
 ·subst k8;have hn:n=0:=by omega
  subst hn;rw[zzc rfl,zzc rfl];unfold lx k9 jY;have e1:bN 64 ⟨[iF (kp.length:Int)]++kp.map iF++l,false⟩=((kp.length:Int),⟨kp.map iF++l,false⟩):=vN ⟨xx5 _,by omega⟩;have e2:gM (bN 2147483647) kp.length ⟨kp.map iF++l,false⟩=(kp,⟨l,false⟩):=by
   have:=xk (one:=bN 2147483647) (f:=λs=>[iF s]) kp l λx hx l=>vN (vd x hx)
   grind [FM]
  simp only[e1,zzw,e2];rfl
 have hk:=yys.1 (h7.resolve_right k8);subst hk;rw[zzb k8,zzb k8];rfl
def bz0{s:cx}(h:ix s=true)(l:List cA):my ⟨jE s++l,false⟩=(s,⟨l,false⟩):=by
 obtain⟨⟨h1,_⟩,_⟩:=s8.1 h;unfold my lx jY jE
 grind [vN,aRr]
def Vl{α:Type}{one:bP->α × bP}{f:α->List cA}:∀(xs:List α) (l:List cA),(∀x∈xs,∀l,one ⟨f x++l,false⟩=(x,⟨l,false⟩))->gj one xs.length ⟨(xs.map f).flatten++l,false⟩=(xs,⟨l,false⟩)
 | [],l,_=>rfl
 | x::xs,l,h=>by
  have ih:=Vl xs l λy hy=>h y (.tail _ hy)
  grind [gj]
theorem bx9{l:List cx}(h:oC l=true):vL ⟨pL l,false⟩=(((l.length:Int),l),⟨[],false⟩):=by
 obtain⟨h1,h2⟩:=vA.1 h;unfold vL k9 jY pL;have e1:bN 1000 ⟨[iF (l.length:Int)]++(l.map jE).flatten,false⟩=((l.length:Int),⟨(l.map jE).flatten++[],false⟩):=by
  grind [vN]
 have e2:=Vl l [] (one:=my) (f:=jE) λs hs l'=>bz0 (h1 s hs) l'
 grind
def HC{n:Int}(h0:0<=n)(h1:n<1152921504606846976):cQ ⟨1,n,emp⟩=fx 1::cR n 8:=by
 show fx 1::cR (n % 18446744073709551616) 8=_;rw[show n % 18446744073709551616=n by omega]
def Hw:∀(l acc:List cA) (y:Φ),(∀x∈l,nL x)->lH acc l.length ⟨(l.map cQ).flatten++y,0⟩=lH (acc++l) 0 ⟨y,0⟩
 | [],acc,y,_=>by rw[yy6,wwj,zzo,zz3];rfl
 | x::l,acc,y,h=>by
  have hx:=h x (.head _);have ih:=Hw l (acc++[x]) y λz hz=>h z (.tail _ hz);rw[zzg]at ih
  obtain⟨kind,n,s⟩:=x;rw[zzp,zz2,zzi,zzg];rcases hx with ⟨h1,h2,h3,h4⟩|⟨h1,h2,h3⟩
  ·have h1:kind=1:=h1;have h4:s=emp:=h4;subst h1 h4;have e:=HC h2 h3;obtain⟨m,rfl⟩:=xxs h2;have hm:m<1152921504606846976:=by have h3:(m:Int)<1152921504606846976:=h3;omega
   have hl:=ie (m:Int) 8;rw[e,zzn,Ea (by decide),zzb (by rw[zza,hl];omega),xxp hl,xx0 hl,FK hm,sig,zzc (by omega)];exact ih
  have h1:kind=2:=h1;have h2:n=0:=h2;have h3:s.size<=4096:=h3;subst h1 h2;have e:cQ ⟨2,0,s⟩=fx 2::(cR (s.size:Nat) 2++s.data.toList):=rfl;have hl:=ie (s.size:Int) 2;have hs:s.data.toList.length=s.size:=rfl;rw[e,zzn,zzg,Eb (by decide),zzb (by rw[zza,hl];omega),xxp hl,xx0 hl,AX (by omega),zzb (by omega),
   zzb (by rw[zza,zza,hl];omega),xxp hs,xx0 hs]
  exact ih
def RO:∀(l acc:List cA) (k:Nat),(∀x∈l,nL x)->k<(l.map cQ).flatten.length->lH acc l.length ⟨((l.map cQ).flatten).take k,0⟩= .error 2
 | [],acc,k,_,hk=>by simp at hk
 | x::l,acc,k,h,hk=>by
  have hx:=h x (.head _);rw[zzp,zz2,zzi]at *
  rw[zza]at hk
  by_cases hc:(cQ x).length<=k
  ·obtain⟨j,rfl⟩:∃j,k=(cQ x).length+j:=⟨k-(cQ x).length,by omega⟩;rw[yy9];have ih:=RO l (acc++[x]) j (λz hz=>h z (.tail _ hz)) (by omega);have e:=Hw [x] acc (((l.map cQ).flatten).take j) λz hz=>by rw[zz8.1 hz];exact hx
   generalize ((l.map cQ).flatten).take j=y at *
   obtain⟨kind,n,s⟩:=x;rcases hx with ⟨h1,h2,h3,h4⟩|⟨h1,h2,h3⟩
   ·have h1:kind=1:=h1;have h4:s=emp:=h4;subst h1 h4;have e:=HC h2 h3;obtain⟨m,rfl⟩:=xxs h2;have hm:m<1152921504606846976:=by have h3:(m:Int)<1152921504606846976:=h3;omega
    have hl:=ie (m:Int) 8;rw[e,zzn,Ea (by decide),zzb (by rw[zza,hl];omega),xxp hl,xx0 hl,FK hm,sig,zzc (by omega)];exact ih
   have h1:kind=2:=h1;have h2:n=0:=h2;have h3:s.size<=4096:=h3;subst h1 h2;have e:cQ ⟨2,0,s⟩=fx 2::(cR (s.size:Nat) 2++s.data.toList):=rfl;have hl:=ie (s.size:Int) 2;have hs:s.data.toList.length=s.size:=rfl;rw[e,zzn,zzg,Eb (by decide),zzb (by rw[zza,hl];omega),xxp hl,xx0 hl,AX (by omega),zzb (by omega),
    zzb (by rw[zza,zza,hl];omega),xxp hs,xx0 hs]
   exact ih
  rw[yy4 (by omega)];cases k with
  | zero=>rw[uu8,a_y]
  | succ k=>
   obtain⟨kind,n,s⟩:=x;rcases hx with ⟨h1,h2,h3,h4⟩|⟨h1,h2,h3⟩
   ·have h1:kind=1:=h1;have h4:s=emp:=h4;subst h1 h4;have e:=HC h2 h3;have hl:=ie n 8;rw[e,zzi,hl]at hc
    rw[e,vvg,Ea (by decide),zzc (by rw[zzf,hl];omega)]
   have h1:kind=2:=h1;have h2:n=0:=h2;have h3:s.size<=4096:=h3;subst h1 h2;have e:cQ ⟨2,0,s⟩=fx 2::(cR (s.size:Nat) 2++s.data.toList):=rfl;have hl:=ie (s.size:Int) 2;have hs:s.data.toList.length=s.size:=rfl;rw[e,zzi,zza,hl,hs]at hc
   rw[e,vvg,Eb (by decide)];by_cases k2:k<2
   ·rw[zzc (by rw[zzf];omega)]
   obtain⟨j,rfl⟩:∃j,k=2+j:=⟨k-2,by omega⟩;have e2:(cR (s.size:Int) 2++s.data.toList).take (2+j)=cR (s.size:Int) 2++s.data.toList.take j:=by
    rw[show 2+j=(cR (s.size:Int) 2).length+j by rw[hl],yy9]
   rw[e2,zzb (by rw[zza,hl];omega),xxp hl,AX (by omega),zzb (by omega),zzc (by rw[zza,hl,zzf];omega)]
def a_w{l:List cA}(hl:l.length<=32767)(cY:l≠[])(h:∀x∈l,nL x){b:Φ}(hb:lJ l= .ok b):gJ (b.take (b.length-1))= .error 2/\∀y,gJ (b++[y])= .error 3:=by
 obtain⟨e1,_⟩:=BZ hl h;rw[e1]at hb
 cases hb;have h2:=ie (l.length:Int) 2;have Cn:=AX (n:=l.length) (by omega);have vt:0<(l.map cQ).flatten.length:=by
  cases l with
  | nil=>exact absurd rfl cY
  | cons x l=>
   rw[zzp,zz2,zza];unfold cQ;split<;>rw[zzi]<;>omega
 refine⟨?_,λy=>?_⟩
 ·obtain⟨j,hj⟩:∃j,(l.map cQ).flatten.length=j+1:=⟨(l.map cQ).flatten.length-1,by omega⟩;have e:(cR (l.length:Int) 2++(l.map cQ).flatten).take ((cR (l.length:Int) 2++(l.map cQ).flatten).length-1)=cR (l.length:Int) 2++((l.map cQ).flatten).take j:=by
   rw[zza,hj,show (cR (l.length:Int) 2).length+(j+1)-1=(cR (l.length:Int) 2).length+j by omega,yy9]
  have ht:(cR (l.length:Int) 2++((l.map cQ).flatten).take j).take 2=cR l.length 2:=xxp h2;have hd:(cR (l.length:Int) 2++((l.map cQ).flatten).take j).drop 2=((l.map cQ).flatten).take j:=xx0 h2;rw[e,Hu (by rw[zza,h2];omega) (by rw[ht,Cn];omega),ht,hd,Cn,RO l [] j h (by omega)]
 rw[zzg];have ht:(cR (l.length:Int) 2++((l.map cQ).flatten++[y])).take 2=cR l.length 2:=xxp h2;have hd:(cR (l.length:Int) 2++((l.map cQ).flatten++[y])).drop 2=(l.map cQ).flatten++[y]:=xx0 h2;rw[Hu (by rw[zza,h2];omega) (by rw[ht,Cn];omega),ht,hd,Cn,Hw l [] _ h,RQ,zzc (by simp)]
def i_(s:cx):cx:=⟨s.kind,if s.kind=2\/s.kind=4\/s.kind=5\/s.kind=7 then s.n else 0,if s.kind=1 then s.sg else [],if s.kind=1 then s.l else [],if s.kind=3 then s.ft else fH,if s.kind=8 then s.keep else []⟩
def Vq{s:cx}:ix s=true↔(1<=s.kind/\s.kind<=8)/\s.n=(i_ s).n/\s.ft=(i_ s).ft/\s.sg.length=(i_ s).sg.length/\s.l.length=(i_ s).l.length/\s.keep.length=(i_ s).keep.length/\(s.kind=3->fI s.ft=true/\s.ft.keep<=2147483647)/\(0<=s.n/\s.n<=1125899906842624)/\c_ ⟨1,1,s.l,s.sg,0⟩=true/\(∀k∈s.keep,0<=k/\k<=2147483647)/\s.keep.length<=64:=by
 rw[s8];unfold i_
 grind
def bop{s:cx}(h:¬((1<=s.kind/\s.kind<=8)/\s.n=(i_ s).n/\s.ft=(i_ s).ft/\s.sg.length=(i_ s).sg.length/\s.l.length=(i_ s).l.length/\s.keep.length=(i_ s).keep.length/\(s.kind=3->fI s.ft=true/\s.ft.keep<=2147483647)/\(0<=s.n/\s.n<=1125899906842624)/\c_ ⟨1,1,s.l,s.sg,0⟩=true/\(∀k∈s.keep,0<=k/\k<=2147483647)/\s.keep.length<=64)):ix s=false:=by
 cases hm:ix s with
 | false=>rfl
 | true=>exact absurd (Vq.1 hm) h
def xh(l:Ω):Bool:=Fx l && decide (l.length<=64)
def Jq{l:Ω}:xh l=true↔(∀k∈l,0<=k/\k<=2147483647)/\l.length<=64:=by
 grind [xh,Fx]
def pI(s:cx)(i:Nat):List cA:=[iF s.sg.length]++(s.sg.take i).map tF
def pJ(s:cx)(i:Nat):List cA:=pI s s.sg.length++[iF s.l.length]++((s.l.take i).map jr).flatten
def bds{s:cx}{i:Nat}(h:i<s.sg.length):pI s (i+1)=pI s i++[tF s.sg[i]]:=by
 unfold pI;rw[zze h,zzr,xxk,<- zzg]
def bdt{s:cx}{i:Nat}(h:i<s.l.length):pJ s (i+1)=pJ s i++jr s.l[i]:=by
 unfold pJ;rw[zze h,zzr,yyq,xxk,wwa];simp only[zzg]
theorem HJ(s:cx):pJ s s.l.length=tH s:=by
 unfold pJ pI tH;simp
def Sp(s:cx)(i:Nat):(pI s i).length<=1+i:=by
 grind [pI]
theorem HK(s:cx)(i:Nat):(pJ s i).length<=2+s.sg.length+4*i:=by
 have:=Sp s s.sg.length;unfold pJ;rw[zza,zza,Ag (n:=4) (λ_=>rfl),zzf];simp;omega
def rJ(s:cx)(i:Nat):List cA:=[iF s.kind]++[iF s.keep.length]++(s.keep.take i).map iF
def bdz{s:cx}{i:Nat}(h:i<s.keep.length):rJ s (i+1)=rJ s i++[iF s.keep[i]]:=by
 unfold rJ;rw[zze h,zzr,xxk,<- zzg]
def bdy(s:cx)(i:Nat):(rJ s i).length<=2+i:=by
 grind [rJ]
def oS(l:List cx)(i:Nat):List cA:=[iF l.length]++((l.take i).map jE).flatten
theorem Su{l:List cx}{i:Nat}(h:i<l.length):oS l (i+1)=oS l i++jE l[i]:=by
 unfold oS;rw[zze h,zzr,yyq,xxk,wwa,zzg]
theorem Sr(l:List cx):oS l l.length=pL l:=by
 grind [oS,pL]
theorem Sy{s:cx}(h:ix s=true):(jE s).length<=69:=by
 obtain⟨⟨_,_,_,_,_,_,_,_,hk⟩,ht,_⟩:=s8.1 h;have hb:=kr ht
 grind [HK,HJ,jE,sL]
def Ss{l:List cx}(h:∀s∈l,ix s=true)(i:Nat):(oS l i).length<=1+69*i:=by
 induction i with
 | zero=>unfold oS;simp
 | succ i ih=>
  by_cases hi:i<l.length
  ·grind [Su,Sy]
  have e:oS l (i+1)=oS l i:=by
   unfold oS;rw[zzz (by omega),zzz (by omega)]
  rw[e];omega
theorem UE{n:Int}(h:0<=n/\n<=1125899906842624):nL (iF n):=.inl ⟨rfl,h.1,by show n<_;omega,rfl⟩
theorem bd8(s:cx):∀f∈tH s,f∈j_ ⟨1,1,s.l,s.sg,0⟩:=by
 grind [tH,j_]
theorem bfd{s:cx}(h:ix s=true):∀f∈jE s,nL f:=by
 obtain⟨⟨h1,h2,_,_,_,_,_,h8,h9⟩,ht,hk⟩:=s8.1 h;intro f hf;unfold jE sL at hf
 grind [UE,SA,bd8,fI]
def bfe{l:List cx}(h:oC l=true):∀f∈pL l,nL f:=by
 obtain⟨h1,h2⟩:=vA.1 h
 grind [pL,UE,bfd]
def F_{l:List cx}(h:oC l=true)(hl:l.length<=400):∃b,z_ l= .ok b/\nA b= .ok l/\0<b.length/\b.length<=1000000000/\nA (b.take (b.length-1))= .error 2/\∀y,nA (b++[y])= .error 3:=by
 have hn:(pL l).length<=32767:=by
  have:=Ss (vA.1 h).1 l.length
  grind [Sr]
 have jR:=bfe h;obtain⟨e1,e2⟩:=BZ hn jR;obtain⟨c1,c2⟩:=a_w hn (by unfold pL;simp) jR e1;refine⟨_,by unfold z_;rw[zzc h];exact e1,?_,?_,?_,?_,λy=>?_⟩
 ·grind [nA,A',bx9]
 ·grind
 ·have:∀L:List cA,(∀x∈L,nL x)->(L.map cQ).flatten.length<=5000*L.length:=by
   intro L hL;induction L with
   | nil=>simp
   | cons x L ih=>
    have h1:=ih λy hy=>hL y (.tail _ hy);have h2:(cQ x).length<=5000:=by
     unfold cQ;rcases hL x (.head _) with ⟨a,_,_,_⟩|⟨a,_,b⟩
     ·grind [ie]
     rw[zzb (by omega),zzi,zza,ie,show x.s.data.toList.length=x.s.size from rfl];omega
    grind
  grind [ie]
 ·grind [nA]
 grind [nA]
def qG(c:da)(k:Int):SP 171 [agg (eM c),Γ k] [] (bA (.bool (kN c k)) []):=by
 refine Enzz λW F w hS=>?_;apply bD8;delta aI aW bJ br ai;refine zx hS λb w hS=>?_;unfold eM at hS;have hF:∀{w:Ζ},¬(0<=c.table/\c.table<k/\1<=c.key/\c.key<=1099511627776/\c.val.size<=32)->SL W (.pt b [Γ c.table,Γ c.key,.bool c.gone,.string c.val] 118::F) w ->
   ∃post,bA (.bool (kN c k)) [] (.bool false) post/\SL W (app post F) w:=λh hS=>⟨_,⟨by rw[show kN c k=false by unfold kN;rw[xxr];exact λk=>h ⟨k.1,k.2.1,k.2.2.1,k.2.2.2.1,k.2.2.2.2.1⟩],rfl⟩,aR hS⟩
 refine Gp ?_;refine za (λ_=>hF (by omega) hS) (λ_=>?_);refine Gp ?_;refine za (λ_=>hF (by omega) hS) (λ_=>?_);refine Gp ?_;refine za (λ_=>hF (by omega) hS) (λ_=>?_);refine Gp ?_;refine za (λ_=>hF (by omega) hS) (λ_=>?_);(repeat (first|refine Gp ?_|refine Gw λw hS=>?_|refine za (λ_=>hF (by omega) hS) (λ_=>?_)|refine za (λ_=>?_) (λ_=>hF (by omega) hS)))
 have e:kN c k=decide (c.gone=true->c.val=emp):=by
  unfold kN;rw[yye];exact⟨λh=>h.2.2.2.2.2,λh=>⟨by omega,by omega,by omega,by omega,by omega,h⟩⟩
 rw[e];refine zw (λh=>?_) (λh=>?_)
 ·rw[h,zzm (by simp)];(exact bw hS)
 refine Gp ?_;rw[h];have e2:decide (true=true->c.val=emp)=decide (c.val={data:=#[]}):=by rw[yye];exact⟨λh=>h rfl,λh _=>h⟩
 rw[e2];(exact bw hS)
def Vs{t:bD}(h:¬(1<=t.aw/\t.aw<=1099511627776)):c_ t=false:=by
 unfold c_;rw[zzx h];rfl
def JA{t:bD}(hk:t.kind=1)(h:¬(t.mark=0/\t.changes.length<=16/\t.signals.length<=2)):c_ t=false:=by
 unfold c_;rw[zzc hk,zzx h];simp
def bor{t:bD}{i:Nat}(hk:t.kind=1)(hi:i<t.changes.length)(h:kN t.changes[i] 8=false):c_ t=false:=by
 cases hm:c_ t with
 | false=>rfl
 | true=>
  rw[(kr hm).2.2.2.2.2.1 _ (zzk hi)]at h;cases h
def bos{t:bD}{i:Nat}(hk:t.kind=1)(hi:i<t.signals.length)(h:¬t.signals[i].size<=40):c_ t=false:=by
 cases hm:c_ t with
 | false=>rfl
 | true=>exact absurd ((kr hm).2.2.2.2.2.2 _ (zzk hi)) h
def bow{t:bD}(hl:1<=t.aw/\t.aw<=1099511627776)(hk:t.kind=1)(h:t.mark=0/\t.changes.length<=16/\t.signals.length<=2)(h1:∀j (hj:j<t.changes.length),kN t.changes[j] 8=true)(h2:∀j (hj:j<t.signals.length),t.signals[j].size<=40):c_ t=true:=by
 refine ur.2 ⟨hl,.inl ⟨hk,h.1,h.2.1,h.2.2,λc hc=>?_,λs hs=>?_⟩⟩
 ·obtain⟨j,hj,rfl⟩:=yyh hc;exact h1 j hj
 obtain⟨j,hj,rfl⟩:=yyh hs;exact h2 j hj
def bou{t:bD}(hl:1<=t.aw/\t.aw<=1099511627776)(hk:t.kind=2\/t.kind=3):c_ t=decide (1<=t.mark/\t.mark<=1099511627776/\t.changes.length=0/\t.signals.length=0):=by
 rw[ww9,ur,zz1];simp only[yys];constructor
 ·rintro ⟨_,h|h⟩
  ·omega
  exact h.2
 exact λh=>⟨hl,.inr ⟨hk,h⟩⟩
def bov{t:bD}(h:¬(1<=t.kind/\t.kind<=3)):c_ t=false:=by
 cases hm:c_ t with
 | false=>rfl
 | true=>exact absurd (kr hm).2.1 h
abbrev tq(b:Nat)(x:l_)(t:bD):Μ:=.pt b [Γ t.aw,Γ t.kind,x.cv,x.sv,Γ t.mark] 151
def qH(H:a_)(x:l_)(t:bD)(hx:lE H x t)(hl:1<=t.aw/\t.aw<=1099511627776)(hk:t.kind=1):SP 118 [agg (eb x)] [.mem H] (bA (.bool (c_ t)) [.mem H]):=by
 refine Enzz λW F w hS=>?_;apply bCr;delta aI aW bJ br ai bK;refine zx hS λxb w hS=>?_;unfold eb at hS;rw[hx.aw,hx.kind,hx.mark]at hS
 have hF:∀{w:Ζ},c_ t=false->SL W (tq xb x t::.mem H::F) w->∃post,bA (.bool (c_ t)) [.mem H] (.bool false) post/\SL W (app post F) w:=λh hS=>⟨_,⟨by rw[h],rfl⟩,aR hS⟩;refine Gp ?_;refine za (λh=>hF (JA hk (by omega)) hS) (λh1=>?_);refine Gp ?_;refine zn hx.cv ?_;refine Gp ?_;refine za (λh=>hF (JA hk (by omega)) hS) (λh2=>?_);refine Gp ?_;refine zn hx.sv ?_;refine Gp ?_;refine za (λh=>hF (JA hk (by omega)) hS) (λh3=>?_);refine Gp ?_;refine zn hx.cv ?_;refine⟨λvs w=>∃i:Nat,vs=[Γ i]/\i<=t.changes.length/\(∀j (hj:j<t.changes.length),j<i->kN t.changes[j] 8=true)/\SL W (tq xb x t::.mem H::F) w,
  λvs _=>match vs with|[.int _ i]=>(t.changes.length-i).toNat|_=>0,⟨0,rfl,by omega,λj hj h=>by omega,hS⟩,?_⟩
 clear hS;rintro v3 w ⟨i,dq,hi,dh,hS⟩;cases dq;refine bj (λh=>?_) (λh=>?_)
 ·have bn:i<t.changes.length:=by omega
  refine zB hS Xh pF hx.cv (x:=t.changes[i]) (by simp[bn]) bn ?_;refine Gm λb w hS=>?_;refine Cg (qG t.changes[i] 8) λw hS=>?_;refine zw (λh=>hF (bor hk bn h) (aR hS)) (λh=>?_);refine Gp ?_;refine⟨⟨i+1,rfl,by omega,λj hj gZ=>?_,aR hS⟩,by dsimp only;omega⟩;by_cases e:j=i
  ·subst e;exact h
  exact dh j hj (by omega)
 have gh:i=t.changes.length:=by omega
 have cZ:∀j (hj:j<t.changes.length),kN t.changes[j] 8=true:=λj hj=>dh j hj (by omega);clear dh;refine Gp ?_;refine zn hx.sv ?_;refine⟨λvs w=>∃i:Nat,vs=[Γ i]/\i<=t.signals.length/\(∀j (hj:j<t.signals.length),j<i->t.signals[j].size<=40)/\SL W (tq xb x t::.mem H::F) w,
  λvs _=>match vs with|[.int _ i]=>(t.signals.length-i).toNat|_=>0,⟨0,rfl,by omega,λj hj h=>by omega,aR hS⟩,?_⟩
 clear hS;rintro v5 w ⟨i,dq,hi,dh,hS⟩;cases dq;refine bj (λh=>?_) (λh=>?_)
 ·have bn:i<t.signals.length:=by omega
  refine yA hS Xh hx.sv bn (u:=.string t.signals[i]) (by simp[bn]) ?_;refine Gp ?_;refine za (λh=>hF (bos hk bn (by omega)) (aR hS)) (λh=>?_);refine Gp ?_;refine⟨⟨i+1,rfl,by omega,λj hj gZ=>?_,aR hS⟩,by dsimp only;omega⟩;by_cases e:j=i
  ·subst e;omega
  exact dh j hj (by omega)
 rw[bow hl hk (by omega) cZ λj hj=>dh j hj (by omega)];(exact bw hS)
def zY(H:a_)(x:l_)(t:bD)(hx:lE H x t):SP 76 [agg (eb x)] [.mem H] (bA (.bool (c_ t)) [.mem H]):=by
 refine Enzz λW F w hS=>?_;apply bJk;delta aI aW br ai;refine zx hS λxb w hS=>?_;unfold eb at hS;rw[hx.aw,hx.kind,hx.mark]at hS
 have hF:∀{w:Ζ},c_ t=false->SL W (tq xb x t::.mem H::F) w->∃post,bA (.bool (c_ t)) [.mem H] (.bool false) post/\SL W (app post F) w:=λh hS=>⟨_,⟨by rw[h],rfl⟩,aR hS⟩;refine Gp ?_;refine za (λh=>hF (Vs (by omega)) hS) (λh1=>?_);refine Gp ?_;refine za (λh=>hF (Vs (by omega)) hS) (λh2=>?_);refine bj (λhk=>?_) (λhk=>?_)
 ·refine Gp ?_;have kH:lE H ⟨t.aw,t.kind,x.cv,x.sv,t.mark⟩ t:=⟨rfl,rfl,rfl,hx.cv,hx.sv⟩;refine Cg (qH H ⟨t.aw,t.kind,x.cv,x.sv,t.mark⟩ t kH (by omega) hk) λw hS=>?_;(exact bw hS)
 refine⟨λvs w=>vs=[.bool (decide (t.kind=2\/t.kind=3))]/\SL W (tq xb x t::.mem H::F) w,?_,?_⟩
 ·refine Gp ?_;refine za (λh=>⟨by rw[zzm (Or.inl h)],hS⟩) (λh=>?_);refine Gp ?_;exact⟨by rw[show decide (t.kind=3)=decide (t.kind=2\/t.kind=3) from yye.2 ⟨Or.inr,λh'=>by omega⟩],hS⟩
 clear hS;rintro v17 w ⟨hv,hS⟩;cases hv;refine za (λgV=>?_) (λgV=>hF (bov (by omega)) hS);have hM:=bou (t:=t) (by omega) gV;have oh:∀{w:Ζ},¬(1<=t.mark/\t.mark<=1099511627776/\t.changes.length=0/\t.signals.length=0)->SL W (tq xb x t::.mem H::F) w->∃post,bA (.bool (c_ t)) [.mem H] (.bool false) post/\SL W (app post F) w:=λh hS=>hF (by rw[hM,zzx h]) hS;refine Gp ?_;refine za (λh3=>?_) (λh3=>oh (by omega) hS);refine Gp ?_;refine za (λh4=>?_) (λh4=>oh (by omega) hS);refine Gp ?_;refine zn hx.cv ?_;refine Gp ?_;refine za (λh5=>?_) (λh5=>oh (by omega) hS);refine Gp ?_;refine zn hx.sv ?_;refine Gp ?_;rw[hM,show decide (1<=t.mark/\t.mark<=1099511627776/\t.changes.length=0/\t.signals.length=0)=decide ((t.signals.length:Int)=0) from yye.2 ⟨λh=>by omega,λh=>by omega⟩];(exact bw hS)
def Wl:∀(p a b:List eK),lX p (a++b)=lX (lX p a) b
 | p,[],b=>rfl
 | p,f::a,b=>Wl _ a b
def Dk(p:List eK)(f:eK):lX p [f]=if fI f=true/\p.length<1024 then p++[f] else p:=rfl
def btk{p l:List eK}{i:Nat}(h:i<l.length):lX p (l.take (i+1))=if fI l[i]=true/\(lX p (l.take i)).length<1024 then lX p (l.take i)++[l[i]] else lX p (l.take i):=by
 rw[zze h,Wl,Dk]
def J7:∀(l p:List eK),p.length<=1024->p.length<=(lX p l).length/\(lX p l).length<=1024
 | [],p,h=>⟨zzj _,h⟩
 | f::l,p,h=>by
  unfold lX;split
  ·rename_i hc;have:=J7 l (p++[f]) (by rw[zza,yyb];omega);rw[zza,yyb]at this
   omega
  exact J7 l p h
def gG(p:Nat)(L:List eK):zC:=iX λv:Ε=>zF True [.pt p [v] 284,.ob (cz v 41 2 L.length (L.map eY).flatten)]
def gG.iff{W w:Ζ}{p:Nat}{L:List eK}{l:Β}:SL W (.ob (gG p L)::l) w↔∃v,SL W (.pt p [v] 284::.ob (cz v 41 2 L.length (L.map eY).flatten)::l) w:=by
 unfold gG;simp only[SL.ex,SL.fact,zzn,zzo,uus]
def bft:SP 108 [] [] (λv post=>∃p:Nat,v= Δ p/\post=[.ob (gG p [])]):=by
 refine Enzz λW F w hS=>?_;apply bCg;delta bc;refine Gp ?_;refine zx hS λb w hS=>?_;have hS:=(gG.iff (L:=[])).2 ⟨_,SL.bo (cz.p5 (a:=none) (t:=41) (sz:=2) hS) (t:=.pt b [Θ] 284::.ob (cz Θ 41 2 0 [])::F) Xi⟩;exact⟨_,⟨b,rfl,rfl⟩,hS⟩
def Zu(f:eK):SP 61 [agg (eY f)] [] (bA (.bool (fI f)) []):=by
 refine Enzz λW F w hS=>?_;apply bI4;delta aI aW br ai;refine zx hS λb w hS=>?_;unfold eY at hS;refine bj (λh=>?_) (λh=>?_)
 ·refine Gp ?_;have e:fI f=decide (f.keep=0):=by unfold fI;rw[yye];omega
  rw[e];(exact bw hS)
 refine bj (λh2=>?_) (λh2=>?_)
 ·refine Gp ?_;have e:fI f=decide (f.keep=0):=by unfold fI;rw[yye];omega
  rw[e];(exact bw hS)
 refine bj (λh3=>?_) (λh3=>?_)
 ·refine Gp ?_;have e:fI f=decide (0<=f.keep):=by unfold fI;rw[yye];omega
  rw[e];(exact bw hS)
 have e:fI f=false:=by unfold fI;rw[xxr];omega
 rw[e];(exact bw hS)
def Z1(H:a_)(p:Nat)(L l:List eK)(v:Ε)(hv:cn H 2 v l.length (l.map eY).flatten)(hl:l.length<=1000000)(hL:L.length<=1024):
  SP 143 [Δ p,v] [.ob (gG p L),.mem H] (bA (Γ (((lX L l).length-L.length:Nat):Int)) [.ob (gG p (lX L l)),.mem H]):=by
 refine Enzz λW F w hS=>?_;apply bDh;delta aI bh bS bg bk ai;refine zn hv ?_;refine⟨λvs w=>∃i:Nat,vs=[Γ (((lX L (l.take i)).length-L.length:Nat):Int),Γ i]/\i<=l.length/\SL W (.ob (gG p (lX L (l.take i)))::.mem H::F) w,
  λvs _=>match vs with|[_,.int _ i]=>(l.length-i).toNat|_=>0,⟨0,by simp[lX],by omega,hS⟩,?_⟩
 clear hS;rintro v5 v10 w ⟨i,dq,hi,hS⟩;cases dq;refine bj (λh=>?_) (λh=>?_)
 ·have bn:i<l.length:=by omega
  have ht:=btk (p:=L) bn;have hle:=J7 (l.take i) L hL;refine zB hS Xh HD hv (x:=l[i]) (by simp[bn]) bn ?_;refine Gm λb w hS=>?_;generalize hM:lX L (l.take i)=M at *
  generalize hf:l[i]=f at *
  refine Cg (Zu f) λw hS=>?_;refine yJ (λhm=>?_) (λhm=>?_)
  ·obtain⟨pv,hS⟩:=gG.iff.1 (SL.bo hS (t:=.ob (gG p M)::.pt b (eY f) 41::.mem H::F) Xi);refine Gp ?_;refine zO hS (v:=pv) Xh ?_;refine bj (λh2=>?_) (λh2=>?_)
   ·rw[zzc ⟨hm,by omega⟩]at ht
    refine Gm λb w hS=>?_;refine qM (t:=41) (n:=M.length) (xs:=M) (y:=f) (enc:=eY) hS Xr Xh HD bdd rfl rfl (by omega) (by omega) ?_;clear hS;intro nv w hS;have h1:=cz.one hS .hd;refine Gn λw hS=>?_;refine⟨⟨i+1,by rw[ht,zza,yyb,show M.length+1-L.length=M.length-L.length+1 by omega],by omega,?_⟩,by dsimp only;omega⟩;rw[ht];refine gG.iff.2 ⟨nv,?_⟩;rw[show (M++[f]).length=M.length+1 by simp];exact aR hS
   rw[zzb (λh=>h2 (by omega))]at ht
   refine Gp ?_;refine⟨⟨i+1,by rw[ht],by omega,?_⟩,by dsimp only;omega⟩;rw[ht];exact gG.iff.2 ⟨pv,aR hS⟩
  rw[zzb (λh=>by rw[hm]at h;exact Bool.false_ne_true h.1)]at ht
  refine Gp ?_;refine⟨⟨i+1,by rw[ht],by omega,?_⟩,by dsimp only;omega⟩;rw[ht];exact aR hS
 have:i=l.length:=by omega
 subst this;rw[zz0]at *
 (exact bw hS)
def bfv(p:Nat):SP 294 [Δ p] [.ob (gG p [])] (bA (.tuple #[agg (eY ⟨0,0⟩),.bool false]) [.ob (gG p [])]):=by
 refine Enzz λW F w hS=>?_;apply XY;delta aI bh bS ai;obtain⟨v,hS⟩:=gG.iff.1 hS;refine Gm λb w hS=>?_;refine zO hS (v:=v) Xh ?_;refine Gp ?_;refine za (λh=>?_) (λh=>absurd rfl h);refine Gn λw hS=>?_;exact⟨_,⟨rfl,rfl⟩,gG.iff.2 ⟨v,aR hS⟩⟩
def bfu(p:Nat)(f:eK)(r:List eK)(hr:r.length<=1024):SP 294 [Δ p] [.ob (gG p (f::r))] (bA (.tuple #[agg (eY f),.bool true]) [.ob (gG p r)]):=by
 refine Enzz λW F w hS=>?_;apply XY;delta aI bh bS ai;obtain⟨v,hS⟩:=gG.iff.1 hS;refine Gm λb w hS=>?_;refine zO hS (v:=v) Xh ?_;refine Gp ?_;refine za (λh=>by rw[zzi]at h;omega) (λh=>?_);refine Gp ?_;refine qP (j:=0) (k:=.i64) hS (t:=41) (v:=v) (enc:=eY) (xs:=f::r) Xh HD rfl (by simp) ?_;refine Gm λb w hS=>?_;refine Yd (k:=1) (v:=v) (Has.front hS Xr) (by simp) λu hS=>?_;have hS:SL W (.ob (cz u 41 2 r.length (r.map eY).flatten)::_) _:=hS;have h1:=cz.one hS .hd;refine Gn λw hS=>?_;exact⟨_,⟨rfl,rfl⟩,gG.iff.2 ⟨u,SL.bo (t:=.pt p [u] 284::.ob (cz u 41 2 r.length (r.map eY).flatten)::F) hS Xi⟩⟩
def tL(f:eK):eK:=if md f.kind 3=1 then ⟨2,md f.keep 300⟩ else ⟨1+md f.kind 3,0⟩
def bf0(f:eK):fI (tL f)=true:=by
 have:=fy f.kind 3 (by decide);unfold tL fI;rw[zz1];split
 ·exact .inr ⟨rfl,xx5 _⟩
 refine .inl ⟨?_,rfl⟩;show 1+(md f.kind 3:Int)=1\/1+(md f.kind 3:Int)=3;omega
def qC(f:eK):SP 23 [agg (eY f)] [] (bA (agg (eY (tL f))) []):=by
 refine Enzz λW F w hS=>?_;apply bFp;delta aI aW ai;refine zx hS λb w hS=>?_;unfold eY at hS;refine Gm λb w hS=>?_;have hm:=fy f.kind 3 (by decide);refine Cg (yc f.kind 3 (by decide) (by decide)) λw hS=>?_;refine za (λh=>?_) (λh=>?_)
 ·refine Gp ?_;refine Cg (yc f.keep 300 (by decide) (by decide)) λw hS=>?_;have e:tL f=⟨2,md f.keep 300⟩:=zzc (by omega);rw[e];have e2:(1:Int)+md f.kind 3=2:=h;rw[e2]at hS ⊢
  (exact bw hS)
 refine Gn λw hS=>?_;have e:tL f=⟨1+md f.kind 3,0⟩:=zzb (by omega);rw[e];(exact bw hS)
abbrev uL(b:Nat)(x:gr)(s:cx):Μ:=.pt b [Γ s.kind,Γ s.n,x.sv,x.cv,Γ s.ft.kind,Γ s.ft.keep,x.kv] 43
def Yt(H:a_)(v:Ε)(l:Ω)(hv:cn H 1 v l.length (l.map (Value.int .i64)))(hn:l.length<=140737488351232):SP 63 [v] [.mem H] (bA (.bool (xh l)) [.mem H]):=by
 refine Enzz λW F w hS=>?_;apply bI6;delta aI br ai;refine zn hv ?_;refine⟨λvs w=>∃i:Nat,vs=[Γ i]/\i<=l.length/\(∀j (hj:j<l.length),j<i->0<=l[j]/\l[j]<=2147483647)/\SL W (.mem H::F) w,
  λvs _=>match vs with|[.int _ i]=>(l.length-i).toNat|_=>0,⟨0,rfl,by omega,λj hj h=>by omega,hS⟩,?_⟩
 clear hS;rintro v3 w ⟨i,dq,hi,dh,hS⟩;cases dq;refine bj (λh=>?_) (λh=>?_)
 ·have bn:i<l.length:=by omega
  have hF:∀{w:Ζ},¬(0<=l[i]/\l[i]<=2147483647)->SL W (.mem H::F) w->∃post,bA (.bool (xh l)) [.mem H] (.bool false) post/\SL W (app post F) w:=λh hS=>⟨_,⟨by rw[show xh l=false from Bool.eq_false_iff.2 λhk=>h ((Jq.1 hk).1 _ (zzk bn))],rfl⟩,aR hS⟩;refine yA hS Xh hv bn (u:=Γ l[i]) (by simp[bn]) ?_;refine Gp ?_;refine za (λh=>hF (by omega) hS) (λh1=>?_);refine Gp ?_;refine za (λh=>hF (by omega) hS) (λh2=>?_);refine Gp ?_;refine⟨⟨i+1,by simp,by omega,λj hj gZ=>?_,aR hS⟩,by dsimp only;omega⟩;by_cases e:j=i
  ·subst e;omega
  exact dh j hj (by omega)
 refine zn hv ?_;refine Gp ?_;have e:xh l=decide ((l.length:Int)<=64):=by
  rw[ww9,Jq,zz1];refine⟨λh=>by omega,λh=>⟨λk hk=>?_,by omega⟩⟩;obtain⟨j,hj,rfl⟩:=yyh hk;exact dh j hj (by omega)
 rw[e];(exact bw hS)
def Ko{y:gr}(h1:y.sv.oneCell'=true)(h2:y.cv.oneCell'=true)(h3:y.kv.oneCell'=true):∀u∈dF y,u.oneCell'=true:=by
 intro u hu;simp only[dF,yya,yy5,vvb]at hu;rcases hu with rfl|rfl|rfl|rfl|rfl|rfl|rfl
 ·rfl
 ·rfl
 ·exact h1
 ·exact h2
 ·rfl
 ·rfl
 exact h3
def Bc{H:a_}{y:gr}{t:cx}(hy:gH H y t):∀u∈dF y,u.oneCell'=true:=Ko hy.sv.one hy.cv.one hy.kv.one
def QZ(H:a_)(x:gr)(s:cx)(hx:gH H x s):SP 60 [agg (dF x)] [.mem H] (λv post=>∃y:gr,v= .tuple #[agg (dF y),.bool (decide (1<=s.kind/\s.kind<=8))]/\gH H y (i_ s)/\post=[.mem H]):=by
 refine Enzz λW F w hS=>?_;apply bI3;delta aI aW bg xT ai bc;refine zx hS λxb w hS=>?_;unfold dF at hS;rw[hx.kind,hx.n,hx.ft]at hS
 have nl:∀(sz:Nat),cn H sz Θ 0 []:=cn.nil H;have o1:=hx.sv.one;have o2:=hx.cv.one;have o3:=hx.kv.one;have fin:∀(n:Int) (sv cv:Ε) (ft:eK) (kv:Ε) {w:Ζ},(1<=s.kind/\s.kind<=8)->gH H ⟨s.kind,n,sv,cv,ft,kv⟩ (i_ s)->SL W (.mem H::F) w ->
   ∃post,(∃y:gr,Value.tuple #[agg [Γ s.kind,Γ n,sv,cv,Γ ft.kind,Γ ft.keep,kv],.bool true]= .tuple #[agg (dF y),.bool (decide (1<=s.kind/\s.kind<=8))]/\gH H y (i_ s)/\post=[.mem H])/\SL W (app post F) w:=
  λn sv cv ft kv w h1 h2 hS=>⟨_,⟨⟨s.kind,n,sv,cv,ft,kv⟩,by rw[zzm h1];rfl,h2,rfl⟩,hS⟩
 refine Gb λzb w hS=>?_;(repeat refine Gp ?_)
 refine Gb λob w hS=>?_;refine za (λk1=>?_) (λk1=>?_)
 ·have e:i_ s=⟨s.kind,0,s.sg,s.l,fH,[]⟩:=by
   unfold i_;rw[zzb (by omega),zzc k1,zzc k1,zzb (by omega),zzb (by omega)]
  refine Gn λw hS=>?_;refine zr (vs:=[Γ s.kind,Γ 0,x.sv,x.cv,Γ 0,Γ 0,Θ]) hS Xu rfl rfl (Ko (y:=⟨s.kind,0,x.sv,x.cv,fH,Θ⟩) o1 o2 rfl) λw hS=>?_;refine Gp ?_;exact fin 0 x.sv x.cv fH Θ (by omega) (by rw[e];exact⟨rfl,rfl,rfl,hx.sv,hx.cv,nl _⟩) (aR hS)
 refine⟨λus w=>us=[.bool (decide (s.kind=2\/s.kind=4\/s.kind=5\/s.kind=7))]/\SL W (.pt ob [Γ s.kind,Γ 0,Θ,Θ,Γ 0,Γ 0,Θ] 43::.pt zb [Γ 0,Γ 0,Θ,Θ,Γ 0,Γ 0,Θ] 43::uL xb x s::.mem H::F) w,?_,?_⟩
 ·refine Gp ?_;refine za (λh=>⟨by rw[zzm (by omega)],aR hS⟩) (λh2=>?_);refine Gp ?_;refine za (λh=>⟨by rw[zzm (by omega)],aR hS⟩) (λh4=>?_);refine Gp ?_;refine za (λh=>⟨by rw[zzm (by omega)],aR hS⟩) (λh5=>?_);refine Gp ?_;exact⟨by rw[show decide (s.kind=7)=decide (s.kind=2\/s.kind=4\/s.kind=5\/s.kind=7) from yye.2 (by omega)],aR hS⟩
 clear hS;rintro _ w ⟨hv,hS⟩;cases hv;refine za (λk2=>?_) (λk2=>?_)
 ·have e:i_ s=⟨s.kind,s.n,[],[],fH,[]⟩:=by
   unfold i_;rw[zzc k2,zzb k1,zzb k1,zzb (by omega),zzb (by omega)]
  refine Gn λw hS=>?_;exact fin s.n Θ Θ fH Θ (by omega) (by rw[e];exact⟨rfl,rfl,rfl,nl _,nl _,nl _⟩) (aR hS)
 refine bj (λk3=>?_) (λk3=>?_)
 ·have e:i_ s=⟨s.kind,0,[],[],s.ft,[]⟩:=by
   unfold i_;rw[zzb k2,zzb k1,zzb k1,zzc k3,zzb (by omega)]
  refine Gp ?_;refine yh (vs:=eY s.ft) hS Xh rfl (λj v h=>?_) ?_
  ·match j,h with
   | 0,h=>exact h
   | 1,h=>exact h
   | j+2,h=>simp[eY]at h
  refine Gp ?_;refine Zn (cs:=[Γ s.kind,Γ 0,Θ,Θ,Γ 0,Γ 0,Θ]) (vs:=eY s.ft) hS Xu rfl (show 6<=7 by decide) (by simp[eY,Value.oneCell']) λw hS=>?_;have hS:SL W (.pt ob [Γ s.kind,Γ 0,Θ,Θ,Γ s.ft.kind,Γ s.ft.keep,Θ] 43::_) w:=hS;refine Gn λw hS=>?_;exact fin 0 Θ Θ s.ft Θ (by omega) (by rw[e];exact⟨rfl,rfl,rfl,nl _,nl _,nl _⟩) (aR hS)
 refine bj (λk8=>?_) (λk8=>?_)
 ·have e:i_ s=⟨s.kind,0,[],[],fH,s.keep⟩:=by
   unfold i_;rw[zzb k2,zzb k1,zzb k1,zzb k3,zzc k8]
  refine Gn λw hS=>?_;refine zr (vs:=[Γ s.kind,Γ 0,Θ,Θ,Γ 0,Γ 0,x.kv]) hS Xu rfl rfl (Ko (y:=⟨s.kind,0,Θ,Θ,fH,x.kv⟩) rfl rfl o3) λw hS=>?_;refine Gp ?_;exact fin 0 Θ Θ fH x.kv (by omega) (by rw[e];exact⟨rfl,rfl,rfl,nl _,nl _,hx.kv⟩) (aR hS)
 refine Gp ?_;have e:i_ s=⟨s.kind,0,[],[],fH,[]⟩:=by
  unfold i_;rw[zzb k2,zzb k1,zzb k1,zzb k3,zzb k8]
 refine za (λk6=>?_) (λk6=>?_)
 ·refine Gn λw hS=>?_;exact fin 0 Θ Θ fH Θ (by omega) (by rw[e];exact⟨rfl,rfl,rfl,nl _,nl _,nl _⟩) (aR hS)
 refine Gn λw hS=>?_;exact⟨_,⟨⟨s.kind,0,Θ,Θ,fH,Θ⟩,by rw[zzx (by omega)];rfl,by rw[e];exact⟨rfl,rfl,rfl,nl _,nl _,nl _⟩,rfl⟩,aR hS⟩
def bdp(a b:eK)(w:Ζ):(Op.equal 41 (agg (eY a)) (agg (eY b))).run Tryz.prog w= .ok (decide (a=b)) w:=by
 refine WG Tryz.underlying41 (by kernel_rfl) ?_;obtain⟨a1,a2⟩:=a;obtain⟨b1,b2⟩:=b;simp[eY,Op.eqFields,part,uu6 (h:=yyc),Result.andThen];by_cases h0:a1=b1<;>by_cases h1:a2=b2<;>simp[*]
def bwz{P:Program}{w:Ζ}{t:Ι}{xs ys:Ξ}{p:Prop}[Decidable p]{K:Ε->Prop}(h:(Op.equal t (agg xs) (agg ys)).run P w= .ok (decide p) w)(hK:K (.bool !(decide p))):xG P t true (agg xs) (agg ys) w K:=⟨xs.toArray,ys.toArray,decide p,rfl,rfl,h,hK⟩
def ZS(H:a_)(x:gr)(s:cx)(hx:gH H x s):SP 62 [agg (dF x)] [.mem H] (bA (.bool (c_ ⟨1,1,s.l,s.sg,0⟩)) [.mem H]):=by
 refine Enzz λW F w hS=>?_;apply bI5;delta aW ai bc;refine zx hS λxb w hS=>?_;unfold dF at hS;have o1:=hx.sv.one;have o2:=hx.cv.one;refine Gp ?_;refine yW (cells:=eb ⟨1,1,x.cv,x.sv,0⟩) (by simp[gT,ux o1,ux o2,ux (v:=Γ 1) rfl,eb]) ?_;refine Cg (zY H ⟨1,1,x.cv,x.sv,0⟩ ⟨1,1,s.l,s.sg,0⟩ ⟨rfl,rfl,rfl,hx.cv,hx.sv⟩) λw hS=>?_;(exact bw hS)
def Yu(H:a_)(x:gr)(s:cx)(hx:gH H x s)(hn:s.keep.length<=140737488351232):SP 25 [agg (dF x)] [.mem H] (bA (.bool (ix s)) [.mem H]):=by
 refine Enzz λW F w hS=>?_;apply bGb;delta aI aW bJ br GY ai bc;refine zx hS λxb w hS=>?_;have kH:gH H ⟨s.kind,s.n,x.sv,x.cv,s.ft,x.kv⟩ s:=⟨rfl,rfl,rfl,hx.sv,hx.cv,hx.kv⟩;unfold dF at hS;rw[hx.kind,hx.n,hx.ft]at hS
 have hF:∀{w:Ζ},ix s=false->SL W (uL xb x s::.mem H::F) w->∃post,bA (.bool (ix s)) [.mem H] (.bool false) post/\SL W (app post F) w:=λh hS=>⟨_,⟨by rw[h],rfl⟩,aR hS⟩;have hB:=@bop s;refine Gp ?_;refine Cc (QZ H ⟨s.kind,s.n,x.sv,x.cv,s.ft,x.kv⟩ s kH) ?_;clear hS;rintro _ post ⟨y,rfl,hy,rfl⟩ w hS;refine Gm λb w hS=>?_;refine zr (vs:=dF y) hS Xu (pG y) rfl (Bc hy) λw hS=>?_;unfold dF at hS;rw[hy.kind,hy.n,hy.ft]at hS
 refine Gp ?_;refine zw (λh=>hF (hB λk=>absurd k.1 (yyu h)) (aR hS)) (λh1=>?_);have h1:=zzt h1;refine Gp ?_;refine za (λh=>hF (hB λk=>h k.2.1) (aR hS)) (λh2=>?_);have h2:=Decidable.of_not_not h2;refine Gp ?_;refine yh (vs:=eY s.ft) hS Xh rfl (λj v h=>?_) ?_
 ·match j,h with
  | 0,h=>exact h
  | 1,h=>exact h
  | j+2,h=>simp[eY]at h
 refine Gp ?_;refine yh (vs:=eY (i_ s).ft) hS Xh rfl (λj v h=>?_) ?_
 ·match j,h with
  | 0,h=>exact h
  | 1,h=>exact h
  | j+2,h=>simp[eY]at h
 refine bwz (bdp _ _ w) ?_;refine zw (λh=>hF (hB λk=>absurd k.2.2.1 (yyu h)) (aR hS)) (λh3=>?_);have h3:=zzt h3;refine Gp ?_;refine zn hx.sv ?_;refine Gp ?_;refine zn hy.sv ?_;refine Gp ?_;refine za (λh=>hF (hB λk=>h (by rw[k.2.2.2.1])) (aR hS)) (λh4=>?_);refine Gp ?_;refine zn hx.cv ?_;refine Gp ?_;refine zn hy.cv ?_;refine Gp ?_;refine za (λh=>hF (hB λk=>h (by rw[k.2.2.2.2.1])) (aR hS)) (λh5=>?_);refine Gp ?_;refine zn hx.kv ?_;refine Gp ?_;refine zn hy.kv ?_;refine Gp ?_;refine za (λh=>hF (hB λk=>h (by rw[k.2.2.2.2.2.1])) (aR hS)) (λh6=>?_);have oh:∀{w:Ζ},¬(0<=s.n/\s.n<=1125899906842624)->SL W (uL xb x s::.mem H::F) w->∃post,bA (.bool (ix s)) [.mem H] (.bool false) post/\SL W (app post F) w:=λh hS=>hF (hB λk=>h k.2.2.2.2.2.2.2.1) hS;have tail:(s.kind=3->fI s.ft=true/\s.ft.keep<=2147483647)->(0<=s.n/\s.n<=1125899906842624)->∀{w:Ζ},SL W (uL xb x s::.mem H::F) w->aF 62 [agg (dF ⟨s.kind,s.n,x.sv,x.cv,s.ft,x.kv⟩)] w λv78 vR=>cB v78 (zk 6 (Δ xb) λv81=>bu v81 vR λv82=>aF 63 [v82] vR λXQ KK=>∃post,bA (.bool (ix s)) [.mem H] XQ post/\SL W (app post F) KK) (∃post,bA (.bool (ix s)) [.mem H] (.bool false) post/\SL W (app post F) vR):=by
  intro g1 g2 w hS;refine Cc (ZS H ⟨s.kind,s.n,x.sv,x.cv,s.ft,x.kv⟩ s kH) ?_;clear hS;rintro _ post ⟨rfl,rfl⟩ w hS;try simp only[app]at hS
  refine yJ (λg3=>?_) (λg3=>?_)
  ·refine Gp ?_;refine Cc (Yt H x.kv s.keep hx.kv hn) ?_;clear hS;rintro _ post ⟨rfl,rfl⟩ w hS;try simp only[app]at hS
   have e:ix s=xh s.keep:=by
    rw[ww9,Vq,Jq];exact⟨λk=>k.2.2.2.2.2.2.2.2.2,λk=>⟨h1,h2,h3,by omega,by omega,by omega,g1,g2,g3,k.1,k.2⟩⟩
   rw[e];exact bw hS
  exact hF (hB λk=>by rw[k.2.2.2.2.2.2.2.2.1]at g3;cases g3) (aR hS)
 refine bj (λk3=>?_) (λk3=>?_)
 ·refine Gp ?_;refine yh (vs:=eY s.ft) hS Xh rfl (λj v h=>?_) ?_
  ·match j,h with
   | 0,h=>exact h
   | 1,h=>exact h
   | j+2,h=>simp[eY]at h
  refine Cc (Zu s.ft) ?_;clear hS;rintro _ post ⟨rfl,rfl⟩ w hS;(try simp only[app]at hS);refine Gp ?_
  refine zw (λh=>hF (hB λk=>by rw[(k.2.2.2.2.2.2.1 k3).1]at h;cases h) (aR hS)) (λg1=>?_);refine Gp ?_;refine za (λh=>hF (hB λk=>absurd (k.2.2.2.2.2.2.1 k3).2 (by omega)) (aR hS)) (λg2=>?_);refine Gp ?_;refine za (λn1=>?_) (λh=>oh (by omega) (aR hS));refine Gp ?_;refine za (λn2=>?_) (λh=>oh (by omega) (aR hS));refine Gp ?_;exact tail (λ_=>⟨g1,by omega⟩) (by omega) (aR hS)
 refine Gp ?_;refine za (λn1=>?_) (λh=>oh (by omega) (aR hS));refine Gp ?_;refine za (λn2=>?_) (λh=>oh (by omega) (aR hS));refine Gp ?_;exact tail (λk=>absurd k k3) (by omega) (aR hS)
def YR(H:a_)(v:Ε)(l:List cx)(hv:oK H v l)(hn:∀s∈l,s.keep.length<=140737488351232)(hl:l.length<=140737488351232):SP 12 [v] [.mem H] (bA (.bool (oC l)) [.mem H]):=by
 refine Enzz λW F w hS=>?_;apply bCt;delta aI bJ br ai bc;obtain⟨xs,iL,mW,rX⟩:=hv;refine zn mW ?_;refine⟨λvs w=>∃i:Nat,vs=[Γ i]/\i<=l.length/\(∀j (hj:j<l.length),j<i->ix l[j]=true)/\SL W (.mem H::F) w,
  λvs _=>match vs with|[.int _ i]=>(l.length-i).toNat|_=>0,⟨0,rfl,by omega,λj hj h=>by omega,hS⟩,?_⟩
 clear hS;rintro v3 w ⟨i,dq,hi,dh,hS⟩;cases dq;refine bj (λh=>?_) (λh=>?_)
 ·have bn:i<l.length:=by omega
  have jc:i<xs.length:=by omega
  have hx:=rX i bn jc;refine zB hS Xh pG mW (x:=xs[i]) (by simp[jc]) bn ?_;refine Gm λb w hS=>?_;refine zr (vs:=dF xs[i]) hS Xu (pG _) rfl (Bc hx) λw hS=>?_;refine zz hS Xh (pG _) ?_;refine Cg (Yu H xs[i] l[i] hx (hn _ (zzk bn))) λw hS=>?_;refine zw (λh=>?_) (λh=>?_)
  ·exact⟨_,⟨by rw[show oC l=false from Bool.eq_false_iff.2 λhk=>by rw[(vA.1 hk).1 _ (zzk bn)]at h;cases h],rfl⟩,aR hS⟩
  refine Gp ?_;refine⟨⟨i+1,by simp,by omega,λj hj gZ=>?_,aR hS⟩,by dsimp only;omega⟩;by_cases e:j=i
  ·subst e;exact h
  exact dh j hj (by omega)
 refine zn mW ?_;refine Gp ?_;have e:oC l=decide ((l.length:Int)<=1000):=by
  rw[ww9,vA,zz1];refine⟨λh=>by omega,λh=>⟨λs hs=>?_,by omega⟩⟩;obtain⟨j,hj,rfl⟩:=yyh hs;exact dh j hj (by omega)
 rw[e];(exact bw hS)
section
variable (b:Nat) (x1 x2 x3:Int) (t:Ι)
def US:SP 13 [.slice (some ⟨b,0,none⟩) 3 3] [.pt b [Γ x1,Γ x2,Γ x3] t] (λu post=>post=[gD u [iF x1,iF x2,iF x3]]):=yG b [x1,x2,x3] t (by simp)
end
def Bq(H:a_)(t:bD)(u:Ε)(post:Β):Prop:=match uW t with
 | .error e=>u= .tuple #[Θ,Γ e]/\post=[.mem H]
 | .ok b=>∃v,u= .tuple #[v,Γ 0]/\post=[.ob (bd v 5 1 b.length (b.map bU)),.mem H]
def oT(t:bD)(i:Nat):List cA:=[iF t.aw,iF t.kind,iF t.mark,iF t.changes.length]++((t.changes.take i).map jr).flatten
def rK(t:bD)(i:Nat):List cA:=oT t t.changes.length++[iF t.signals.length]++(t.signals.take i).map tF
def bd0{t:bD}{i:Nat}(h:i<t.changes.length):oT t (i+1)=oT t i++jr t.changes[i]:=by
 unfold oT;rw[zze h,zzr,yyq,xxk,wwa,zzg]
def bd3{t:bD}{i:Nat}(h:i<t.signals.length):rK t (i+1)=rK t i++[tF t.signals[i]]:=by
 unfold rK;rw[zze h,zzr,xxk,<- zzg]
def bd1(t:bD):rK t t.signals.length=j_ t:=by
 unfold rK oT j_;simp
def Sv(t:bD)(i:Nat):(oT t i).length<=4+4*i:=by
 unfold oT;rw[zza,Ag (n:=4) (λ_=>rfl),zzf];simp;omega
def bd2(t:bD)(i:Nat):(rK t i).length<=5+4*t.changes.length+i:=by
 have:=Sv t t.changes.length;unfold rK;rw[zza,zza,zzv,zzf];simp;omega
def Z8(H:a_)(x:l_)(t:bD)(hx:lE H x t):SP 120 [agg (eb x)] [.mem H] (Bq H t):=by
 refine Enzz λW F w hS=>?_;apply bCu;delta aI aW bg bJ ai bK bc;refine zx hS λxb w hS=>?_;refine Gp ?_;refine Cg (zY H x t hx) λw hS=>?_;refine zw (λh=>?_) (λhm=>?_)
 ·exact⟨[.mem H],by unfold Bq uW;rw[zzb (by rw[h];decide)];exact⟨rfl,rfl⟩,aR hS⟩
 have hb:=kr hm;unfold eb at hS;rw[hx.aw,hx.kind,hx.mark]at hS
 refine Gp ?_;refine zn hx.cv ?_;refine Gm λb w hS=>?_;refine Cc (UT b t.aw t.kind t.mark t.changes.length 2) ?_;clear hS;rintro u post rfl w hS;(try simp only[app]at hS);refine Gp ?_
 refine zn hx.cv ?_;have hS:SL W (gD u (oT t 0)::_) _:=hS;refine⟨λvs w=>∃(i:Nat) (u:Ε),vs=[u,Γ i]/\i<=t.changes.length/\SL W (gD u (oT t i)::tq xb x t::.mem H::F) w,
  λvs _=>match vs with|[_,.int _ i]=>(t.changes.length-i).toNat|_=>0,⟨0,_,rfl,by omega,aR hS⟩,?_⟩
 clear hS;rintro u v3 w ⟨i,_,dq,hi,hS⟩;cases dq;have oe:=Sv t i;refine bj (λh=>?_) (λh=>?_)
 ·have bn:i<t.changes.length:=by omega
  have hs:=bd0 bn;refine zB hS Xh pF hx.cv (x:=t.changes[i]) (by simp[bn]) bn ?_;generalize t.changes[i]=o at *
  obtain⟨ot,ok,og,ov⟩:=o;refine Gm λb w hS=>?_;unfold eM at hS;refine Cg (y2 og) λw hS=>?_;refine Gm λb w hS=>?_;refine Cc (US b ot ok (fV og) 2) ?_;clear hS;rintro u2 post rfl w hS;try simp only[app]at hS
  refine zE (L:=oT t i) hS Xr (jh hS Xh) (by simp;omega) λu3 w hS=>?_;refine Gp ?_;refine Cg (yj ov) λw hS=>?_;refine Gm λb w hS=>?_;refine zE (M:=[tF ov]) hS Xr (Ba hS Xh) (by simp;omega) λu4 w hS=>?_;refine Gp ?_;refine⟨⟨i+1,_,rfl,by omega,?_⟩,by dsimp only;omega⟩;rw[hs];simp only[zzg]at hS;have hS:SL W (gD _ (oT t i++jr ⟨ot,ok,og,ov⟩)::_) _:=hS;exact aR hS
 have gh:i=t.changes.length:=by omega
 subst gh;refine Gp ?_;refine zn hx.sv ?_;refine Gm λb w hS=>?_;refine Cc (rY b t.signals.length 2) ?_;clear hS;rintro u2 post rfl w hS;try simp only[app]at hS
 refine zE (L:=oT t t.changes.length) hS Xr (jh hS Xh) (by simp;omega) λu3 w hS=>?_;refine Gp ?_;refine zn hx.sv ?_;refine⟨λvs w=>∃(i:Nat) (u:Ε),vs=[u,Γ i]/\i<=t.signals.length/\SL W (gD u (rK t i)::tq xb x t::.mem H::F) w,
  λvs _=>match vs with|[_,.int _ i]=>(t.signals.length-i).toNat|_=>0,⟨0,u3,rfl,by omega,?_⟩,?_⟩
 ·rw[show rK t 0=oT t t.changes.length++[iF t.signals.length] by unfold rK;simp];exact aR hS
 clear hS;rintro u v3 w ⟨i,_,dq,hi,hS⟩;cases dq;have Ak:=bd2 t i;refine bj (λh=>?_) (λh=>?_)
 ·have bn:i<t.signals.length:=by omega
  have hs:=bd3 bn;refine yA hS Xh hx.sv bn (u:=.string t.signals[i]) (by simp[bn]) ?_;refine Cg (yj t.signals[i]) λw hS=>?_;refine Gm λb w hS=>?_;refine zE (L:=rK t i) (M:=[tF t.signals[i]]) hS Xr (Ba hS Xh) (by simp;omega) λu3 w hS=>?_;refine Gp ?_;refine⟨⟨i+1,_,rfl,by omega,?_⟩,by dsimp only;omega⟩;rw[hs];exact aR hS
 have gh:i=t.signals.length:=by omega
 subst gh;rw[bd1]at hS Ak
 refine Cc (yr (gD u (j_ t)) u (j_ t) px.own (by omega)) ?_;clear hS;rintro r post hq w hS;try simp only[app]at hS
 unfold pq at hq;unfold Bq uW;rw[zzc hm];cases he:lJ (j_ t) with
 | error e=>
  rw[he]at hq
  obtain⟨rfl,rfl⟩:=hq;(try simp only[app]at hS);refine Gp ?_
  exact bw hS
 | ok bs=>
  rw[he]at hq
  obtain⟨v,rfl,rfl⟩:=hq;(try simp only[app]at hS);refine Gp ?_
  exact⟨_,⟨v,rfl,rfl⟩,aR hS⟩
def SL.FA{W w:Ζ}{l:Β}{H:a_}{b:Nat}{cs:Ξ}{t:Ι}(h:SL W (.mem H::.pt b cs t::l) w):
  ∃H',H.le H'/\(∀o v,cs[o]?=some v->H'.cell b o=some v)/\SL W (.mem H'::l) w/\∀{W' w':Ζ} {l':Β},SL W' (.mem H'::l') w'->SL W' (.mem H::.pt b cs t::l') w':=by
 obtain⟨a1,a2,a3,k,⟨h1,h2,s,rfl,h3,h4,s',⟨f,hf,rfl⟩,r⟩,m⟩:=h;obtain⟨k',x,y⟩:=s.join s';refine⟨k',λb o e=>?_,λo v e=>?_,⟨a1,a2,a3,k,⟨k',h4,x,rfl,r⟩,m⟩,λ{W' w' l'} h'=>?_⟩
 ·exact y.left b o e
 ·have:k' b=some (.cells cs.toArray t f):=y.right b _ (by simp[a_.one]);simp[a_.cell,this,e]
 obtain⟨c1,c2,c3,q,⟨g1,g2,u,rfl,r'⟩,m'⟩:=h';obtain⟨k2,u1,u2⟩:=u.assoc y;exact⟨c1,c2,c3,q,⟨_,_,u1,rfl,_,_,u2,⟨f,hf,rfl⟩,r'⟩,m'⟩
def bd.FA{W w:Ζ}{l:Β}{H:a_}{v:Ε}{t:Ι}{sz n:Nat}{cells:Ξ}(h:SL W (.mem H::.ob (bd v t sz n cells)::l) w):
  ∃H',H.le H'/\cn H' sz v n cells/\SL W (.mem H'::l) w/\∀{W' w':Ζ} {l':Β},SL W' (.mem H'::l') w'->SL W' (.mem H::.ob (bd v t sz n cells)::l') w':=by
 rcases bd.open (h.perm (.swap _ _ _)) with ⟨⟨a,rfl⟩,rfl,rfl,hS⟩|⟨b,cap,rest,rfl,hc,hlen,iT,hS⟩
 ·exact⟨H,a_.le_refl H,⟨by simp,a,0,rfl,zzj _,.inl rfl⟩,hS,λh'=>(bd.p5 h').perm (.swap _ _ _)⟩
 obtain⟨H',h1,h2,h3,h4⟩:=SL.FA (hS.perm (.swap _ _ _));refine⟨H',h1,⟨hlen,_,cap,rfl,hc,.inr ⟨b,0,rfl,λj u hu=>?_⟩⟩,h3,λh'=>?_⟩
 ·rw[yyd];refine h2 j u ?_;rw[zzy (zzh.1 hu).1];exact hu
 exact (bd.mk hc hlen iT ((h4 h').perm (.swap _ _ _))).perm (.swap _ _ _)
structure kW{α:Type}(one:bP->α × bP)(n:Nat)(r0:bP)(xs:List α)(k:Nat)(r:bP):Prop where
 eq:gM one n r0=(xs++(gM one k r).1,(gM one k r).2)
 le:xs.length+k<=n
def kW.start{α:Type}(one:bP->α × bP)(n:Nat)(r:bP):kW one n r [] n r:=⟨rfl,by simp⟩
def kW.step{α:Type}{one:bP->α × bP}{n:Nat}{r0:bP}{xs:List α}{k:Nat}{r:bP}(h:kW one n r0 xs (k+1) r):kW one n r0 (xs++[(one r).1]) k (one r).2:=
 ⟨by rw[h.eq];simp[gM],by have:=h.le;rw[zza,yyb];omega⟩
def kW.stop{α:Type}{one:bP->α × bP}{n:Nat}{r0:bP}{xs:List α}{r:bP}(h:kW one n r0 xs 0 r):gM one n r0=(xs,r):=by
 rw[h.eq];simp[gM]
def YZ(rp:Nat)(r:bP):SP 243 [Δ rp] [.ob (dc rp r)] (bA (agg (eM (kE r).1)) [.ob (dc rp (kE r).2)]):=by
 refine Enzz λW F w hS=>?_;apply bF4;delta ai bK;refine Gm λb w hS=>?_;refine Cg (zp rp r 8) λw hS=>?_;refine Cg (zG rp _) λw hS=>?_;refine Cg (yP rp _) λw hS=>?_;refine Cg (zZ rp _) λw hS=>?_;simp only[kE];exact bw hS
def Ab{aw kind mark:Int}{cv sv:Ε}(h1:cv.oneCell'=true)(h2:sv.oneCell'=true):∀v∈eb ⟨aw,kind,cv,sv,mark⟩,v.oneCell'=true:=by
 intro v hv;simp only[eb,yya,yy5,vvb]at hv;rcases hv with rfl|rfl|rfl|rfl|rfl
 ·rfl
 ·rfl
 ·exact h1
 ·exact h2
 rfl
def xD:l_:=⟨0,0,Θ,Θ,0⟩
abbrev G8(b:Nat):Μ:=.pt b [Γ 0,Γ 0,Θ,Θ,Γ 0] 151
def Gs(X:Μ)(H:a_)(b:Φ)(u:Ε)(post:Β):Prop:=match jO b with
 | .error e=>e≠0/\∃H',H.le H'/\u= .tuple #[agg (eb xD),Γ e]/\post=[X,.mem H']
 | .ok t=>∃x H',H.le H'/\u= .tuple #[agg (eb x),Γ 0]/\lE H' x t/\post=[X,.mem H']
def a_7{b:Φ}{e:Int}(h:gJ b= .error e):jO b= .error e:=by unfold jO;rw[h]
def bca{b:Φ}{l:List cA}(h:gJ b= .ok l)(h2:¬((kB ⟨l,false⟩).2.bad=false/\(kB ⟨l,false⟩).2.l=[]/\c_ (kB ⟨l,false⟩).1=true)):jO b= .error 3:=by
 unfold jO B1;rw[h];simp only;rw[zzb h2]
def a_8{b:Φ}{l:List cA}(h:gJ b= .ok l)(h2:(kB ⟨l,false⟩).2.bad=false/\(kB ⟨l,false⟩).2.l=[]/\c_ (kB ⟨l,false⟩).1=true):jO b= .ok (kB ⟨l,false⟩).1:=by
 unfold jO B1;rw[h];simp only;rw[zzc h2]
abbrev l7(v:Ε)(l:List da):Μ:=.ob (bd v 118 4 l.length (l.map eM).flatten)
abbrev l9(v:Ε)(l:Ψ):Μ:=.ob (bd v 9 1 l.length (l.map λs=>[Value.string s]).flatten)
def vT(X:Μ)(H:a_)(b:Φ)(u:Ε)(post:Β):Prop:=match jO b with
 | .error e=>e≠0/\u= .tuple #[agg (eb xD),Γ e]/\post=[X,.mem H]
 | .ok t=>∃x:l_,u= .tuple #[agg (eb x),Γ 0]/\(x.aw=t.aw/\x.kind=t.kind/\x.mark=t.mark)/\post=[l7 x.cv t.changes,l9 x.sv t.signals,X,.mem H]
def Gc(l:Ψ):(l.map λs=>[Value.string s]).flatten=l.map Value.string:=by
 induction l with
 | nil=>rfl
 | cons a l ih=>simp[ih]
structure GH(l:List cA)(aw kind mark:Int)(r3:bP):Prop where
 aw:(kB ⟨l,false⟩).1.aw=aw
 kind:(kB ⟨l,false⟩).1.kind=kind
 mark:(kB ⟨l,false⟩).1.mark=mark
 ch:(kB ⟨l,false⟩).1.changes=(gM kE (bN 16 r3).1.toNat (bN 16 r3).2).1
 sg:∀r4,(gM kE (bN 16 r3).1.toNat (bN 16 r3).2).2=r4->(kB ⟨l,false⟩).1.signals=(gM j6 (bN 2 r4).1.toNat (bN 2 r4).2).1/\(kB ⟨l,false⟩).2=(gM j6 (bN 2 r4).1.toNat (bN 2 r4).2).2
def GH.is(l:List cA):GH l (dM ⟨l,false⟩).1 (bN 3 (dM ⟨l,false⟩).2).1 (dM (bN 3 (dM ⟨l,false⟩).2).2).1 (dM (bN 3 (dM ⟨l,false⟩).2).2).2:=⟨rfl,rfl,rfl,rfl,λr4 h=>by subst h;exact⟨rfl,rfl⟩⟩
def ZK(X:Μ)(H:a_)(v:Ε)(bs:Φ)(hv:cK X v bs):SP 181 [v] [X,.mem H] (vT X H bs):=by
 refine Enzz λW F w hS=>?_;apply bEh;delta aI bg bJ ai bK bc;refine Gb λzb w hS=>?_;refine Cc (yq X v bs hv) ?_;clear hS;rintro r post hq w hS;unfold uH at hq;cases hd:gJ bs with
 | error e=>
  rw[hd]at hq
  obtain⟨rfl,rfl⟩:=hq;have he:=D_ hd;(try simp only[app]at hS);refine Gp ?_
  refine za (λ_=>?_) (λh=>absurd he h);refine Gn λw hS=>?_;exact⟨[X,.mem H],by unfold vT;rw[a_7 hd];exact⟨he,rfl,rfl⟩,aR hS⟩
 | ok l=>
  rw[hd]at hq
  obtain⟨lv,rfl,rfl⟩:=hq;(try simp only[app]at hS);refine Gp ?_
  refine Χ ?_;refine Cc (yQ lv l) ?_;clear hS;rintro _ post ⟨rp,rfl,rfl⟩ w hS;try simp only[app]at hS
  refine Cc (zG rp ⟨l,false⟩) ?_;clear hS;rintro v1 post ⟨rfl,rfl⟩ w hS;try simp only[app]at hS
  refine Cc (zp rp _ 3) ?_;clear hS;rintro v1 post ⟨rfl,rfl⟩ w hS;try simp only[app]at hS
  refine Cc (zG rp _) ?_;clear hS;rintro v1 post ⟨rfl,rfl⟩ w hS;try simp only[app]at hS
  have hI:=GH.is l;generalize (dM (bN 3 (dM ⟨l,false⟩).2).2).1=mark at *
  generalize (dM (bN 3 (dM ⟨l,false⟩).2).2).2=r3 at *
  generalize (bN 3 (dM ⟨l,false⟩).2).1=kind at *
  generalize (dM ⟨l,false⟩).1=aw at *
  have kG:=q' (m:=16) (by decide) r3;refine Gp ?_;refine Gb λxb w hS=>?_;have hS:SL W (l7 Θ []::_) _:=bd.nil hS;have hS:SL W (l9 Θ []::_) _:=bd.nil hS;refine Cc (zp rp r3 16) ?_;clear hS;rintro v1 post ⟨rfl,rfl⟩ w hS;try simp only[app]at hS
  have lq:=hI.ch;have CW:=hI.sg;generalize (bN 16 r3).1=n1 at *
  generalize (bN 16 r3).2=r2 at *
  refine⟨λus w=>∃(k:Nat) (gI:List da) (r:bP) (cv:Ε),us=[Γ k]/\kW kE n1.toNat r2 gI k r/\SL W (l7 cv gI::.ob (dc rp r)::l9 Θ []::.pt xb [Γ aw,Γ kind,cv,Θ,Γ mark] 151::G8 zb::X::.mem H::F) w,
   λus _=>match us with|[.int _ i]=>i.toNat|_=>0,⟨n1.toNat,[],r2,Θ,by rw[show ((n1.toNat:Nat):Int)=n1 by omega],kW.start _ _ _,aR hS⟩,?_⟩
  clear hS;rintro v8 w ⟨k,gI,r,cv,bM,hM,hS⟩;cases bM;have hle:=hM.le;refine bj (λh=>?_) (λh=>?_)
  ·obtain⟨k,rfl⟩:∃j,k=j+1:=⟨k-1,by omega⟩;have hM:=hM.step;refine Gn λw hS=>?_;refine Cg (YZ rp r) λw hS=>?_;refine Gm λb w hS=>?_;refine yf (n:=gI.length) (xs:=gI) (y:=(kE r).1) (enc:=eM) hS Xr Xh pF (λx=>HB x) rfl (by omega) (by omega) λu w hS=>?_;have h1:=bd.one hS;refine Gn λw hS=>?_;refine⟨⟨k,_,_,u,by rw[show ((k+1:Nat):Int)-1=(k:Int) by omega],hM,?_⟩,by dsimp only;omega⟩;have hS:=hS.nf (x:=(kE r).1);exact aR hS
  obtain rfl:k=0:=by omega
  rw[hM.stop]at lq CW
  obtain⟨Fg,cJ⟩:=CW r rfl;have rV:=q' (m:=2) (by decide) r;refine Cc (zp rp r 2) ?_;clear hS;rintro v1 post ⟨rfl,rfl⟩ w hS;try simp only[app]at hS
  generalize (bN 2 r).1=n2 at *
  generalize (bN 2 r).2=r5 at *
  refine⟨λus w=>∃(k:Nat) (oG:Ψ) (r:bP) (sv:Ε),us=[Γ k]/\kW j6 n2.toNat r5 oG k r/\SL W (l9 sv oG::.ob (dc rp r)::l7 cv gI::.pt xb [Γ aw,Γ kind,cv,sv,Γ mark] 151::G8 zb::X::.mem H::F) w,
   λus _=>match us with|[.int _ i]=>i.toNat|_=>0,⟨n2.toNat,[],r5,Θ,by rw[show ((n2.toNat:Nat):Int)=n2 by omega],kW.start _ _ _,aR hS⟩,?_⟩
  clear hS;rintro v8 w ⟨k,oG,r,sv,bM,nE,hS⟩;cases bM;have hle:=nE.le;refine bj (λh=>?_) (λh=>?_)
  ·obtain⟨k,rfl⟩:∃j,k=j+1:=⟨k-1,by omega⟩;have nE:=nE.step;refine Gn λw hS=>?_;refine Cg (zZ rp r) λw hS=>?_;refine Gm λb w hS=>?_;refine yf (n:=oG.length) (xs:=oG) (y:=(j6 r).1) (enc:=λs=>[Value.string s]) hS Xr Xh (λ_=>rfl) (by simp[Value.oneCell']) rfl (by omega) (by omega) λu w hS=>?_;have h1:=bd.one hS;refine Gn λw hS=>?_;refine⟨⟨k,_,_,u,by rw[show ((k+1:Nat):Int)-1=(k:Int) by omega],nE,?_⟩,by dsimp only;omega⟩;have hS:=hS.nf (x:=(j6 r).1);exact aR hS
  obtain rfl:k=0:=by omega
  rw[nE.stop]at Fg cJ
  have kF:=hI.aw;have TO:=hI.kind;have T0:=hI.mark;have lq:(kB ⟨l,false⟩).1.changes=gI:=lq;have Fg:(kB ⟨l,false⟩).1.signals=oG:=Fg;have cJ:(kB ⟨l,false⟩).2=r:=cJ;generalize ht:(kB ⟨l,false⟩).1=t at *
  generalize hr:(kB ⟨l,false⟩).2=r' at *
  subst cJ lq Fg;have gf:cv.oneCell'=true:=bd.one (hS.perm (eW.perm (c:=l7 cv t.changes) Xr));have ll:sv.oneCell'=true:=bd.one (hS.perm (eW.perm (c:=l9 sv t.signals) Xr));refine Cg (yN rp r') λw hS=>?_;have dX:¬(r'.bad=false/\r'.l=[]/\c_ t=true)->∀{w:Ζ},SL W (X::.mem H::F) w->∃post,vT X H bs (.tuple #[agg (eb xD),Γ 3]) post/\SL W (app post F) w:=λh w hS=>⟨[X,.mem H],by unfold vT;rw[bca hd (by rw[ht,hr];exact h)];exact⟨by decide,rfl,rfl⟩,hS⟩;refine zw (λhb=>?_) (λhb=>?_)
  ·have hb:=yyu hb;refine Gn λw hS=>?_;exact dX (λh=>hb ⟨h.1,h.2.1⟩) (aR hS)
  have hb:=zzt hb;refine Gp ?_;obtain⟨H1,bX,hO,hS,aRj⟩:=bd.FA (SL.bo hS (t:=.mem H::l7 cv t.changes::l9 sv t.signals::.ob (dc rp r')::.pt xb [Γ aw,Γ kind,cv,sv,Γ mark] 151::G8 zb::X::F) Xi);obtain⟨H2,cF,hN,hS,aRk⟩:=bd.FA hS;rw[Gc]at hN
  have hx:lE H2 ⟨aw,kind,cv,sv,mark⟩ t:=⟨kF.symm,TO.symm,T0.symm,hO.mono cF,hN⟩;refine Cg (zY H2 ⟨aw,kind,cv,sv,mark⟩ t hx) λw hS=>?_;have hS:=aRj (aRk (Has.front (c:=.mem H2) hS Xr));refine zw (λhm=>?_) (λhm=>?_)
  ·refine Gn λw hS=>?_;exact dX (λh=>by rw[h.2.2]at hm;cases hm) (aR hS)
  refine Gp ?_;refine zr (vs:=eb ⟨aw,kind,cv,sv,mark⟩) hS Xu rfl rfl (Ab gf ll) λw hS=>?_;refine Gp ?_;exact⟨[l7 cv t.changes,l9 sv t.signals,X,.mem H],by unfold vT;rw[a_8 hd (by rw[ht,hr];exact⟨hb.1,hb.2,hm⟩),ht];exact⟨⟨aw,kind,cv,sv,mark⟩,rfl,⟨kF.symm,TO.symm,T0.symm⟩,rfl⟩,aR hS⟩
def QQ(X:Μ)(H:a_)(v:Ε)(bs:Φ)(hv:cK X v bs):SP 181 [v] [X,.mem H] (Gs X H bs):=by
 intro W F w hS;refine zJ.mono (ZK X H v bs hv W F w hS) ?_;rintro u w ⟨post,hq,hS⟩;unfold vT at hq;unfold Gs;cases hd:jO bs with
 | error e=>
  rw[hd]at hq
  obtain⟨cY,rfl,rfl⟩:=hq;exact⟨_,⟨cY,H,a_.le_refl H,rfl,rfl⟩,hS⟩
 | ok t=>
  rw[hd]at hq
  obtain⟨x,rfl,⟨e1,e2,e3⟩,rfl⟩:=hq;try simp only[app]at hS
  obtain⟨H1,bX,hO,hS⟩:=bd.freeze (SL.bo hS (t:=.mem H::l7 x.cv t.changes::l9 x.sv t.signals::X::F) Xi);obtain⟨H2,cF,hN,hS⟩:=bd.freeze hS;rw[Gc]at hN
  exact⟨[X,.mem H2],⟨x,H2,a_.le_trans bX cF,rfl,⟨e1,e2,e3,hO.mono cF,hN⟩,rfl⟩,aR hS⟩
abbrev oL(b:Nat)(k n:Int)(sv cv:Ε)(kv:Ε):Μ:=.pt b [Γ k,Γ n,sv,cv,Γ 0,Γ 0,kv] 43
abbrev DH(v:Ε)(l:Ω):Μ:=.ob (bd v 3 1 l.length (l.map λk=>[Γ k]).flatten)
def bmp(l:Ω):(l.map λk=>[Γ k]).flatten=l.map (Value.int .i64):=by
 induction l with
 | nil=>rfl
 | cons a l ih=>simp[ih]
def qW(rp sb:Nat)(r0:bP)(k:Int):SP 69 [Δ rp,Δ sb] [.ob (dc rp r0),oL sb k 0 Θ Θ Θ]
  (λv post=>v= .tuple #[]/\∃(x:(Int × Ψ) × (Int × List da)) (r':bP) (sv cv:Ε),jY (k9 (bN 2) (gM j6)) (λ_=>k9 (bN 16) (gM kE)) r0=(x,r')/\post=[l9 sv x.1.2,l7 cv x.2.2,.ob (dc rp r'),oL sb k 0 sv cv Θ]):=by
 refine Enzz λW F w hS=>?_;apply bJc;delta aI bS bg bk ai bK;have kG:=q' (m:=2) (by decide) r0;have hS:SL W (l7 Θ []::_) _:=bd.nil hS;have hS:SL W (l9 Θ []::_) _:=bd.nil hS;refine Cc (zp rp r0 2) ?_;clear hS;rintro v1 post ⟨rfl,rfl⟩ w hS;try simp only[app]at hS
 cases h1:bN 2 r0 with|mk n1 r2=>
 rw[h1]at hS kG
 dsimp only at hS kG ⊢;refine⟨λus w=>∃(j:Nat) (oG:Ψ) (r:bP) (sv:Ε),us=[Γ j]/\kW j6 n1.toNat r2 oG j r/\SL W (l9 sv oG::.ob (dc rp r)::l7 Θ []::oL sb k 0 sv Θ Θ::F) w,
  λus _=>match us with|[.int _ i]=>i.toNat|_=>0,⟨n1.toNat,[],r2,Θ,by rw[show ((n1.toNat:Nat):Int)=n1 by omega],kW.start _ _ _,aR hS⟩,?_⟩
 clear hS;rintro v8 w ⟨j,oG,r,sv,bM,hM,hS⟩;cases bM;have hle:=hM.le;refine bj (λh=>?_) (λh=>?_)
 ·obtain⟨j,rfl⟩:∃i,j=i+1:=⟨j-1,by omega⟩;have hM:=hM.step;refine Gn λw hS=>?_;refine Cg (zZ rp r) λw hS=>?_;refine Gm λb w hS=>?_;refine yf (n:=oG.length) (xs:=oG) (y:=(j6 r).1) (enc:=λs=>[Value.string s]) hS Xr Xh (λ_=>rfl) (by simp[Value.oneCell']) rfl (by omega) (by omega) λu w hS=>?_;have h1:=bd.one hS;refine Gn λw hS=>?_;refine⟨⟨j,_,_,u,by rw[show ((j+1:Nat):Int)-1=(j:Int) by omega],hM,?_⟩,by dsimp only;omega⟩;have hS:=hS.nf (x:=(j6 r).1);exact aR hS
 obtain rfl:j=0:=by omega
 have e1:=hM.stop;have rV:=q' (m:=16) (by decide) r;refine Cc (zp rp r 16) ?_;clear hS;rintro v1 post ⟨rfl,rfl⟩ w hS;try simp only[app]at hS
 cases h2:bN 16 r with|mk n2 r5=>
 rw[h2]at hS rV
 dsimp only at hS rV ⊢;refine⟨λus w=>∃(j:Nat) (gI:List da) (r:bP) (cv:Ε),us=[Γ j]/\kW kE n2.toNat r5 gI j r/\SL W (l7 cv gI::.ob (dc rp r)::l9 sv oG::oL sb k 0 sv cv Θ::F) w,
  λus _=>match us with|[.int _ i]=>i.toNat|_=>0,⟨n2.toNat,[],r5,Θ,by rw[show ((n2.toNat:Nat):Int)=n2 by omega],kW.start _ _ _,aR hS⟩,?_⟩
 clear hS;rintro v8 w ⟨j,gI,r',cv,bM,nE,hS⟩;cases bM;have TS:=nE.le;refine bj (λh=>?_) (λh=>?_)
 ·obtain⟨j,rfl⟩:∃i,j=i+1:=⟨j-1,by omega⟩;have nE:=nE.step;refine Gn λw hS=>?_;refine Cg (zp rp r' 8) λw hS=>?_;refine Cg (zG rp _) λw hS=>?_;refine Cg (yP rp _) λw hS=>?_;refine Cg (zZ rp _) λw hS=>?_;refine Gm λb w hS=>?_;have hS:SL W (.pt b (eM (kE r').1) 118::_) w:=hS;refine yf (n:=gI.length) (xs:=gI) (y:=(kE r').1) (enc:=eM) hS Xr Xh pF (λx=>HB x) rfl (by omega) (by omega) λu w hS=>?_;have h1:=bd.one hS;refine Gn λw hS=>?_;refine⟨⟨j,_,_,u,by rw[show ((j+1:Nat):Int)-1=(j:Int) by omega],nE,?_⟩,by dsimp only;omega⟩;have hS:=hS.nf (x:=(kE r').1);rw[show (kE r').2=(j6 (rA (dM (bN 8 r').2).2).2).2 from rfl];exact aR hS
 obtain rfl:j=0:=by omega
 have e2:=nE.stop;exact⟨_,⟨rfl,((n1,oG),(n2,gI)),r',sv,cv,by unfold k9 jY;simp only[h1,e1,h2,e2],rfl⟩,aR hS⟩
def Vk{α:Type}(p:bP->α × bP):∀(n:Nat) (r:bP),(gM p n r).1.length=n
 | 0,_=>rfl
 | n+1,r=>yyp (· + 1) (Vk p n (p r).2)
def bzz(r:bP):(my r).1.keep.length<=64:=by
 have h:∀(k:Int) (r:bP),(mM k r).1.keep.length<=64:=λk r=>by
  unfold mM;split
  ·exact zz6 _
  split
  ·exact zz6 _
  split
  ·exact zz6 _
  split
  ·show (gM (bN 2147483647) (bN 64 r).1.toNat (bN 64 r).2).1.length<=64;have:=q' (m:=64) (by decide) r;rw[Vk];omega
  exact zz6 _
 exact h _ _
set_option maxHeartbeats 1000000 in
def Q7(rp:Nat)(r:bP)(H:a_):SP 33 [Δ rp] [.ob (dc rp r),.mem H]
  (λv post=>∃(y:gr) (H':a_),H.le H'/\v=agg (dF y)/\gH H' y (my r).1/\post=[.ob (dc rp (my r).2),.mem H']):=by
 refine Enzz λW F w hS=>?_;apply bH2;delta aI aW bg xR ai bc;have he:my r=mM (bN 8 r).1 (bN 8 r).2:=rfl;rw[he];have kG:=q' (m:=8) (by decide) r;refine Gb λzb w hS=>?_;refine Cc (zp rp r 8) ?_;clear hS;rintro v1 post ⟨rfl,rfl⟩ w hS;try simp only[app]at hS
 clear he;generalize (bN 8 r).1=k at *
 generalize (bN 8 r).2=r2 at *
 have nl:∀(H:a_) (sz:Nat),cn H sz Θ 0 []:=cn.nil;(repeat refine Gp ?_)
 refine Gb λob w hS=>?_;have fin:∀(n:Int) (sv cv:Ε) (x y:Int) (kv:Ε) (H2:a_) (t:cx) (r':bP) {w:Ζ},mM k r2=(t,r')->H.le H2->gH H2 ⟨k,n,sv,cv,⟨x,y⟩,kv⟩ t->SL W (.pt ob [Γ k,Γ n,sv,cv,Γ x,Γ y,kv] 43::oL zb 0 0 Θ Θ Θ::.ob (dc rp r')::.mem H2::F) w ->
   zf 7 (Δ ob) w λXP=>zj 7 (Δ zb) XP w λvR=>zf 7 (Δ zb) vR λv=>∃post,(∃(y:gr) (H':a_),H.le H'/\v=agg (dF y)/\gH H' y (mM k r2).1/\post=[.ob (dc rp (mM k r2).2),.mem H'])/\SL W (app post F) vR:=by
  intro n sv cv x y kv H2 t r' w e hh eN hS;rw[e];refine zz hS Xh rfl ?_;refine zr (vs:=dF ⟨k,n,sv,cv,⟨x,y⟩,kv⟩) hS Xu rfl rfl (Bc eN) λw hS=>?_;refine zz hS Xh rfl ?_;exact⟨_,⟨_,H2,hh,rfl,eN,rfl⟩,aR hS⟩
 refine za (λk1=>?_) (λk1=>?_)
 ·have hS:SL W (.ob (dc rp r2)::oL ob k 0 Θ Θ Θ::oL zb 0 0 Θ Θ Θ::.mem H::F) w:=SL.bo (t:=.ob (dc rp r2)::.pt ob [Γ k,Γ 0,Θ,Θ,Γ 0,Γ 0,Θ] 43::.pt zb [Γ 0,Γ 0,Θ,Θ,Γ 0,Γ 0,Θ] 43::.mem H::F) hS Xi;refine Cc (qW rp ob r2 k) ?_;clear hS;rintro _ post ⟨rfl,x,r',sv,cv,e,rfl⟩ w hS;try simp only[app]at hS
  obtain⟨H1,bX,hN,hS⟩:=bd.freeze (SL.bo hS (t:=.mem H::l9 sv x.1.2::l7 cv x.2.2::.ob (dc rp r')::oL ob k 0 sv cv Θ::oL zb 0 0 Θ Θ Θ::F) Xi);obtain⟨H2,cF,hO,hS⟩:=bd.freeze hS;rw[Gc]at hN
  exact fin 0 sv cv 0 0 Θ H2 (VG k x) r' (by unfold mM;rw[zzc k1];unfold lx;rw[e]) (a_.le_trans bX cF) ⟨rfl,rfl,rfl,hN.mono cF,hO,nl _ _⟩ (aR hS)
 refine bj (λk3=>?_) (λk3=>?_)
 ·skip
  refine Cg (zp rp r2 3) λw hS=>?_;refine Cg (zp rp _ 2147483647) λw hS=>?_;refine Zn (cs:=[Γ k,Γ 0,Θ,Θ,Γ 0,Γ 0,Θ]) (vs:=eY ⟨(bN 3 r2).1,(bN 2147483647 (bN 3 r2).2).1⟩) hS Xu rfl (show 6<=7 by decide) (by simp[eY,Value.oneCell']) λw hS=>?_;have hS:SL W (_::.pt ob [Γ k,Γ 0,Θ,Θ,Γ (bN 3 r2).1,Γ (bN 2147483647 (bN 3 r2).2).1,Θ] 43::_) w:=hS;refine fin 0 Θ Θ (bN 3 r2).1 (bN 2147483647 (bN 3 r2).2).1 Θ H (VH k ((bN 3 r2).1,(bN 2147483647 (bN 3 r2).2).1)) (bN 2147483647 (bN 3 r2).2).2 (by unfold mM;rw[zzb k1,zzc k3];rfl) (a_.le_refl H) ⟨rfl,rfl,rfl,nl _ _,nl _ _,nl _ _⟩ (aR hS)
 refine bj (λk6=>?_) (λk6=>?_)
 ·exact fin 0 Θ Θ 0 0 Θ H (q_ k) r2 (by unfold mM;rw[zzb k1,zzb k3,zzc k6]) (a_.le_refl H) ⟨rfl,rfl,rfl,nl _ _,nl _ _,nl _ _⟩ (aR hS)
 refine bj (λk8=>?_) (λk8=>?_)
 ·have rV:=q' (m:=64) (by decide) r2;have hb:mM k r2=lx (JF k) (k9 (bN 64) (gM (bN 2147483647))) r2:=by unfold mM;rw[zzb k1,zzb k3,zzb k6,zzc k8]
  refine Cc (zp rp r2 64) ?_;clear hS;rintro v1 post ⟨rfl,rfl⟩ w hS;try simp only[app]at hS
  obtain⟨n2,r3,h2⟩:∃n2 r3,bN 64 r2=(n2,r3):=⟨_,_,rfl⟩;rw[h2]at hS rV ⊢
  dsimp only at hS rV ⊢;have hS:SL W (DH Θ []::_) _:=bd.nil hS;refine⟨λus w=>∃(j:Nat) (ks:Ω) (r:bP) (kv:Ε),us=[Γ j]/\kW (bN 2147483647) n2.toNat r3 ks j r/\SL W (DH kv ks::.ob (dc rp r)::oL ob k 0 Θ Θ kv::oL zb 0 0 Θ Θ Θ::.mem H::F) w,
   λus _=>match us with|[.int _ i]=>i.toNat|_=>0,⟨n2.toNat,[],r3,Θ,by rw[show ((n2.toNat:Nat):Int)=n2 by omega],kW.start _ _ _,SL.bo (t:=DH Θ []::.ob (dc rp r3)::.pt ob [Γ k,Γ 0,Θ,Θ,Γ 0,Γ 0,Θ] 43::.pt zb [Γ 0,Γ 0,Θ,Θ,Γ 0,Γ 0,Θ] 43::.mem H::F) hS Xi⟩,?_⟩
  clear hS;rintro v8 w ⟨j,ks,r',kv,bM,hM,hS⟩;cases bM;have hle:=hM.le;refine bj (λh=>?_) (λh=>?_)
  ·obtain⟨j,rfl⟩:∃i,j=i+1:=⟨j-1,by omega⟩;have hM:=hM.step;refine Gn λw hS=>?_;refine Cg (zp rp r' 2147483647) λw hS=>?_;refine Gm λb w hS=>?_;refine yf (n:=ks.length) (xs:=ks) (y:=(bN 2147483647 r').1) (enc:=λk=>[Γ k]) hS Xr Xh (λ_=>rfl) (by simp[Value.oneCell']) rfl (by omega) (by omega) λu w hS=>?_;have h1:=bd.one hS;refine Gn λw hS=>?_;refine⟨⟨j,_,_,u,by rw[show ((j+1:Nat):Int)-1=(j:Int) by omega],hM,?_⟩,by dsimp only;omega⟩;have hS:=hS.nf (x:=(bN 2147483647 r').1);exact aR hS
  obtain rfl:j=0:=by omega
  obtain⟨H2,dW,hN,hS⟩:=bd.freeze (SL.bo hS (t:=.mem H::DH kv ks::.ob (dc rp r')::oL ob k 0 Θ Θ kv::oL zb 0 0 Θ Θ Θ::F) Xi);rw[bmp]at hN
  exact fin 0 Θ Θ 0 0 kv H2 (JF k (n2,ks)) r' (by rw[hb];unfold lx k9 jY;simp only[h2,hM.stop]) dW ⟨rfl,rfl,rfl,nl _ _,nl _ _,hN⟩ (aR hS)
 refine Cg (zG rp r2) λw hS=>?_;rw[show mM k r2=(VK k (dM r2).1,(dM r2).2) by unfold mM;rw[zzb k1,zzb k3,zzb k6,zzb k8];rfl];exact⟨_,⟨⟨k,(dM r2).1,Θ,Θ,⟨0,0⟩,Θ⟩,H,a_.le_refl H,rfl,⟨rfl,rfl,rfl,nl _ _,nl _ _,nl _ _⟩,rfl⟩,aR hS⟩
def sx(X:Μ)(H:a_)(b:Φ)(u:Ε)(post:Β):Prop:=match nA b with
 | .error e=>e≠0/\∃H',H.le H'/\u= .tuple #[Θ,Γ e]/\post=[X,.mem H']
 | .ok l=>∃v H',H.le H'/\u= .tuple #[v,Γ 0]/\oK H' v l/\post=[X,.mem H']
def a_4{b:Φ}{e:Int}(h:gJ b= .error e):nA b= .error e:=by unfold nA;rw[h]
def a_6{b:Φ}{l:List cA}(h:gJ b= .ok l)(h2:¬A' (vL ⟨l,false⟩)):nA b= .error 3:=by
 unfold nA;rw[h];simp only;rw[zzb h2]
def a_5{b:Φ}{l:List cA}(h:gJ b= .ok l)(h2:A' (vL ⟨l,false⟩)):nA b= .ok (vL ⟨l,false⟩).1.2:=by
 unfold nA;rw[h];simp only;rw[zzc h2]
set_option maxHeartbeats 1000000 in
def Zo(X:Μ)(H:a_)(v:Ε)(bs:Φ)(hv:cK X v bs):SP 16 [v] [X,.mem H] (sx X H bs):=by
 refine Enzz λW F w hS=>?_;apply bDv;delta aI bJ GV ai bc;refine Cc (yq X v bs hv) ?_;clear hS;rintro r post hq w hS;unfold uH at hq;cases hd:gJ bs with
 | error e=>
  rw[hd]at hq
  obtain⟨rfl,rfl⟩:=hq;have he:=D_ hd;(try simp only[app]at hS);refine Gp ?_
  refine za (λ_=>?_) (λh=>absurd he h);exact⟨[X,.mem H],by unfold sx;rw[a_4 hd];exact⟨he,H,a_.le_refl H,rfl,rfl⟩,aR hS⟩
 | ok l=>
  rw[hd]at hq
  obtain⟨lv,rfl,rfl⟩:=hq;(try simp only[app]at hS);refine Gp ?_
  refine Χ ?_;refine Cc (yQ lv l) ?_;clear hS;rintro _ post ⟨rp,rfl,rfl⟩ w hS;try simp only[app]at hS
  have kG:=q' (m:=1000) (by decide) ⟨l,false⟩;refine Cc (zp rp ⟨l,false⟩ 1000) ?_;clear hS;rintro v1 post ⟨rfl,rfl⟩ w hS;try simp only[app]at hS
  have Ff:vL ⟨l,false⟩=(((bN 1000 ⟨l,false⟩).1,(gj my (bN 1000 ⟨l,false⟩).1.toNat (bN 1000 ⟨l,false⟩).2).1),(gj my (bN 1000 ⟨l,false⟩).1.toNat (bN 1000 ⟨l,false⟩).2).2):=rfl;generalize (bN 1000 ⟨l,false⟩).1=n1 at *
  generalize (bN 1000 ⟨l,false⟩).2=r2 at *
  have hS:SL W (.ob (bd Θ 43 7 ([]:List gr).length (([]:List gr).map dF).flatten)::_) _:=bd.nil hS;refine⟨λus w=>∃(k:Nat) (a:List cx) (ys:List gr) (r:bP) (u:Ε) (H2:a_),us=[u,Γ k]/\ni my n1.toNat r2 a k r/\H.le H2/\ys.length=a.length/\(∀s∈a,s.keep.length<=64)/\(∀i (h:i<a.length) (h':i<ys.length),gH H2 ys[i] a[i])/\SL W (.ob (bd u 43 7 ys.length (ys.map dF).flatten)::.ob (dc rp r)::X::.mem H2::F) w,
   λus _=>match us with|[_,.int _ i]=>i.toNat|_=>0,⟨n1.toNat,[],[],r2,Θ,H,by rw[show ((n1.toNat:Nat):Int)=n1 by omega],ni.start _ _ _,a_.le_refl H,rfl,(λ_ h=>by cases h),(λi h=>absurd h (uum i)),aR hS⟩,?_⟩
  clear hS;rintro v8 v9 w ⟨k,a,ys,r,u,H2,bM,hM,dW,pZ,TP,C5,hS⟩;cases bM;have hle:=hM.le;have e_:(k=0\/r.bad=true)->∀{w:Ζ},SL W (.ob (bd v8 43 7 ys.length (ys.map dF).flatten)::.ob (dc rp r)::X::.mem H2::F) w ->
    aF 34 [Δ rp] w λv35 X3=>y7 v35 λv36=>cB v36 (∃post,sx X H bs (.tuple #[Θ,Γ 3]) post/\SL W (app post F) X3)
     (aF 12 [v8] X3 λv39 X2=>y7 v39 λv40=>cB v40 (∃post,sx X H bs (.tuple #[Θ,Γ 3]) post/\SL W (app post F) X2) (∃post,sx X H bs (.tuple #[v8,Γ 0]) post/\SL W (app post F) X2)):=by
   intro eN w hS;have pa:=hM.stop eN;rw[pa]at Ff
   refine Cg (yN rp r) λw hS=>?_;have dX:¬(r.bad=false/\r.l=[]/\oC a=true)->∀{w:Ζ} {H3:a_},H.le H3->SL W (X::.mem H3::F) w->∃post,sx X H bs (.tuple #[Θ,Γ 3]) post/\SL W (app post F) w:=λh w H3 hh hS=>⟨[X,.mem H3],by unfold sx;rw[a_6 hd (by rw[Ff];exact λk=>h ⟨k.1.1,k.1.2,k.2⟩)];exact⟨by decide,H3,hh,rfl,rfl⟩,hS⟩;refine zw (λhb=>?_) (λhb=>?_)
   ·have hb:=yyu hb;exact dX (λh=>hb ⟨h.1,h.2.1⟩) dW (aR hS)
   have hb:=zzt hb;obtain⟨H3,dG,hR,hS⟩:=bd.freeze (SL.bo hS (t:=.mem H2::.ob (bd v8 43 7 ys.length (ys.map dF).flatten)::X::F) Xi);have cJ:oK H3 v8 a:=⟨ys,pZ,by rw[<- pZ];exact hR,λi h h'=>(C5 i h h').mono dG⟩;have lh:=a_.le_trans dW dG;refine Cg (YR H3 v8 a cJ (λs hs=>by have:=TP s hs;omega) (by omega)) λw hS=>?_;refine zw (λhm=>?_) (λhm=>?_)
   ·exact dX (λh=>by rw[h.2.2]at hm;cases hm) lh (aR hS)
   exact⟨[X,.mem H3],by unfold sx;rw[a_5 hd (by rw[Ff];exact⟨⟨hb.1,hb.2⟩,hm⟩),Ff];exact⟨v8,H3,lh,rfl,cJ,rfl⟩,aR hS⟩
  refine Gp ?_;refine za (λh=>?_) (λh=>e_ (.inl (by omega)) hS);refine Cg (yO rp r) λw hS=>?_;refine zw (λhb=>?_) (λhb=>e_ (.inr hb) (aR hS));clear e_;obtain⟨k,rfl⟩:∃i,k=i+1:=⟨k-1,by omega⟩;have hM:=hM.step hb;have hle:=hM.le;rw[zza,yyb]at hle
  have Av:=bzz r;refine Cc (Q7 rp r H2) ?_;clear hS;rintro _ post ⟨y,H3,dG,rfl,hy,rfl⟩ w hS;refine Gm λb w hS=>?_;have hS:SL W (_::.ob (dc rp (my r).2)::.mem H3::.ob (bd v8 43 7 ys.length (ys.map dF).flatten)::X::F) w:=SL.bo hS (t:=.pt b (dF y) 43::.ob (dc rp (my r).2)::.mem H3::.ob (bd v8 43 7 ys.length (ys.map dF).flatten)::X::F) Xi;refine zL (n:=ys.length) (m:=1) hS Xr (jx (cs:=dF y) hS .hd rfl) rfl rfl (Bc hy) (by omega) (by omega) ?_;clear hS;intro u' w hS;refine Gp ?_;refine⟨⟨k,a++[(my r).1],ys++[y],(my r).2,u',H3,by rw[show ((k+1:Nat):Int)-1=(k:Int) by omega],hM,a_.le_trans dW dG,by simp[pZ],λs hs=>?_,λi h h'=>?_,?_⟩,by dsimp only;omega⟩
  ·rcases zz4.1 hs with h|h
   ·exact TP s h
   rw[zz8.1 h];exact Av
  ·by_cases e:i<a.length
   ·rw[yy2 (by omega),yy2 (by omega)];exact (C5 i (by omega) (by omega)).mono dG
   have e:i=a.length:=by simp at h;omega
   subst e;have e1:(ys++[y])[a.length]=y:=by rw[xxw (by omega)];simp[pZ]
   have e2:(a++[(my r).1])[a.length]=(my r).1:=by rw[xxw (by omega)];simp
   rw[e1,e2];exact hy
  rw[u0,zza,yyb];exact aR hS
def GF(H:a_)(u:Ε)(post:Β)(o:Option (List Rq)):Prop:=∃H',H.le H'/\post=[.mem H']/\match o with
 | none=>u= .tuple #[Θ,.bool false]
 | some L'=>∃x,u= .tuple #[x,.bool true]/\iz H' x L'
def Gz(r:Rq)(a:Int):Prop:=0<=r.table/\r.table<8/\1<=r.weight/\r.weight<=8/\max a 1<=r.at_/\r.at_<=1099511627776/\0<=r.cG/\r.cG<=1099511627776/\0<=r.chunks/\r.chunks<=1099511627776
def brj(r:Rq)(a:Int):SP 317 [agg (gS r),Γ a] [] (λv post=>∃q:Bool,v= .bool q/\(q=true↔Gz r a)/\post=[]):=by
 refine Enzz λW F w hS=>?_;apply bHr;delta aI aW br ai;obtain⟨rid,rt,F6,rat,F0,FZ,rd⟩:=r;unfold gS Gz;simp only;refine⟨_,rfl,zD hS ?_⟩;clear hS;intro b w hS;have dX:∀{w:Ζ},¬(0<=rt/\rt<8/\1<=F6/\F6<=8/\max a 1<=rat/\rat<=1099511627776/\0<=F0/\F0<=1099511627776/\0<=FZ/\FZ<=1099511627776)->SL W F w->∃post,(∃q:Bool,(.bool false:Ε)= .bool q/\(q=true↔0<=rt/\rt<8/\1<=F6/\F6<=8/\max a 1<=rat/\rat<=1099511627776/\0<=F0/\F0<=1099511627776/\0<=FZ/\FZ<=1099511627776)/\post=[])/\SL W (app post F) w:=λh hS=>⟨_,⟨false,rfl,⟨λe=>(by cases e),λe=>absurd e h⟩,rfl⟩,hS⟩;refine Gp ?_;refine za (λc1=>?_) (λc=>dX (by omega) (aR hS));refine Gp ?_;refine za (λc2=>?_) (λc=>dX (by omega) (aR hS));refine Gp ?_;refine za (λc3=>?_) (λc=>dX (by omega) (aR hS));refine Gp ?_;refine za (λc4=>?_) (λc=>dX (by omega) (aR hS));refine Gp ?_;refine za (λc5=>?_) (λc=>dX (by omega) (aR hS));refine Gp ?_;refine za (λc6=>?_) (λc=>dX (by omega) (aR hS));refine Gp ?_;refine za (λc7=>?_) (λc=>dX (by omega) (aR hS));refine Gp ?_;refine za (λc8=>?_) (λc=>dX (by omega) (aR hS));refine Gp ?_;refine za (λc9=>?_) (λc=>dX (by omega) (aR hS));refine Gp ?_;refine⟨_,⟨_,rfl,?_,rfl⟩,aR hS⟩;rw[zz1];exact⟨λc=>⟨c1,c2,c3,c4,c5,c6,c7,c8,c9,c⟩,λc=>c.2.2.2.2.2.2.2.2.2⟩
def uy(L:List Rq)(i t:Nat):Bool:=(L.take i).any λr=>decide (r.table=(t:Int)) && !r.done
def V5{L:List Rq}{i t:Nat}:uy L i t=true↔∃k,∃h:k<L.length,k<i/\L[k].table=(t:Int)/\L[k].done=false:=by
 unfold uy;rw[List.any_eq_true];constructor
 ·rintro ⟨r,hr,hx⟩;obtain⟨k,hk,rfl⟩:=xxc.1 hr;rw[zzf]at hk
  refine⟨k,by omega,by omega,?_⟩;simpa using hx
 rintro ⟨k,h,hk,h1,h2⟩;refine⟨L[k],xxc.2 ⟨k,by rw[zzf];omega,by simp⟩,by simp[h1,h2]⟩
def vG(L:List Rq)(i:Nat):Ξ:=(List.range 8).map λt=>.bool (uy L i t)
def V6(L:List Rq)(i:Nat){t:Nat}(h:t<8){o:Nat}(ho:o=t):(vG L i)[o]?=some (.bool (uy L i t)):=by
 subst ho;unfold vG;simp[h]
def brm{L:List Rq}{i t:Nat}(hi:i<L.length)(ht:L[i].table=(t:Int))(h:uy L i t=false){o:Nat}(ho:o=t):(vG L i).set o (.bool !L[i].done)=vG L (i+1):=by
 subst ho;unfold vG;refine xx2 (by simp) λj h1 h2=>?_;have hj:j<8:=by simpa using h2
 rw[xx8];have hs:∀t:Nat,uy L (i+1) t=(uy L i t || (decide (L[i].table=(t:Int)) && !L[i].done)):=λt=>by
  unfold uy;rw[zze hi,List.any_append];simp
 split
 ·rename_i e;subst e;simp only[xx9,List.getElem_range];rw[hs,h,ht];simp
 rename_i e;simp only[xx9,List.getElem_range];rw[hs,ht];have:¬((o:Int)=(j:Int)):=by omega
 simp[this]
def brn(L:List Rq):vG L 0=[.bool false,.bool false,.bool false,.bool false,.bool false,.bool false,.bool false,.bool false]:=by
 simp[vG,uy,List.range,List.range.loop]
def vZ(L:List Rq)(i:Nat):Int:=if i=0 then 0 else (L[i-1]?.map (·.at_)).getD 0
def bnr(H:a_)(v:Ε)(L:List Rq)(hv:iz H v L)(hn:L.length<=140737488351232):
  SP 280 [v] [.mem H] (λu post=>∃q:Bool,u= .bool q/\(q=true↔fq L)/\post=[.mem H]):=by
 refine Enzz λW F w hS=>?_;apply bG0;delta aI aW bg bJ br ai;have dX:∀{w:Ζ},¬fq L->SL W (.mem H::F) w->∃post,(∃q:Bool,(.bool false:Ε)= .bool q/\(q=true↔fq L)/\post=[.mem H])/\SL W (app post F) w:=λh hS=>
  ⟨_,⟨false,rfl,⟨λe=>(by cases e),λe=>absurd e h⟩,rfl⟩,hS⟩
 refine zD hS ?_;clear hS;intro ob w hS;refine zn hv ?_;rw[<- brn L]at hS
 refine⟨λus w=>∃i:Nat,us=[Γ (vZ L i),Γ i]/\i<=L.length/\(∀j,j<i->DJ L j)/\SL W (.pt ob (vG L i) 452::.mem H::F) w,
  λus _=>match us with|[_,.int _ i]=>(L.length-i).toNat|_=>0,⟨0,rfl,by omega,λj h=>by omega,aR hS⟩,?_⟩
 clear hS;rintro v4 v9 w ⟨i,bM,hi,dh,hS⟩;cases bM;refine bj (λh=>?_) (λh=>?_)
 ·have bn:i<L.length:=by omega
  have eF:∀{w:Ζ},¬DJ L i->SL W (.mem H::F) w->∃post,(∃q:Bool,(.bool false:Ε)= .bool q/\(q=true↔fq L)/\post=[.mem H])/\SL W (app post F) w:=λh hS=>dX (λhp=>h (hp.2 i)) hS;refine zB hS Xh nC hv (x:=L[i]) (by simp[bn]) bn ?_;refine zD hS ?_;clear hS;intro b w hS;refine zr (vs:=gS L[i]) hS .hd rfl rfl (Eg _) ?_;clear hS;intro w hS;have xc:DJ L i->vF i L[i]/\(∀h0:0<i,L[i-1].at_<=L[i].at_)/\∀k (hk:k<i),¬(L[k].table=L[i].table/\L[k].done=false):=λh=>h bn;have Tf:max (vZ L i) 1<=L[i].at_↔1<=L[i].at_/\∀h0:0<i,L[i-1].at_<=L[i].at_:=by
   unfold vZ;by_cases h0:i=0
   ·rw[zzc h0];exact⟨λe=>⟨by omega,λh=>by omega⟩,λe=>by have:=e.1;omega⟩
   rw[zzb h0,zzd (by omega)];simp only[yyo,xxq];exact⟨λe=>⟨by omega,λ_=>by omega⟩,λe=>by have:=e.1;have:=e.2 (by omega);omega⟩
  unfold gS at hS;refine Gp ?_;refine za (λc=>eF (λhp=>by have:=(xc hp).1.1;omega) (aR hS)) (λc1=>?_);refine zz hS Xh rfl ?_;refine Cc (brj L[i] (vZ L i)) ?_;clear hS;rintro _ post ⟨q1,rfl,vu,rfl⟩ w hS;(try simp only[app]at hS);refine Gp ?_
  refine zw (λhe=>eF (λhp=>?_) (aR hS)) (λhe=>?_)
  ·have hp:=xc hp;have h1:Gz L[i] (vZ L i):=⟨hp.1.2.1,hp.1.2.2.1,hp.1.2.2.2.1,hp.1.2.2.2.2.1,Tf.2 ⟨hp.1.2.2.2.2.2.1,hp.2.1⟩,hp.1.2.2.2.2.2.2.1,hp.1.2.2.2.2.2.2.2.1,hp.1.2.2.2.2.2.2.2.2.1,hp.1.2.2.2.2.2.2.2.2.2.1,hp.1.2.2.2.2.2.2.2.2.2.2⟩;rw[vu.2 h1]at he;cases he
  have hQ:=vu.1 he;have gx:=Tf.1 hQ.2.2.2.2.1;obtain⟨t,ht⟩:∃t:Nat,L[i].table=(t:Int):=⟨L[i].table.toNat,by have:=hQ.1;omega⟩;have CZ:t<8:=by have:=hQ.2.1;omega
  have Us:Γ L[i].table= Γ (t:Int):=by rw[ht]
  refine Gp ?_;rw[Us]at hS ⊢
  refine yB CZ (zV hS Xh (V6 L i CZ (by omega)) ?_);refine yJ (λho=>eF (λhp=>?_) (aR hS)) (λho=>?_)
  ·obtain⟨k,hk,hki,h1,h2⟩:=V5.1 ho;exact (xc hp).2.2 k hki ⟨by rw[h1,ht],h2⟩
  refine Gn λw hS=>?_;refine yB CZ ?_;refine ZA hS Xu (V6 L i CZ (by omega)) rfl ?_;clear hS;intro w hS;rw[brm bn ht ho (by omega)]at hS
  refine Gp ?_;have ea:vZ L (i+1)=L[i].at_:=by
   unfold vZ;rw[zzb (by omega),Nat.add_sub_cancel,zzd bn];rfl
  refine⟨⟨i+1,by rw[ea],by omega,λj hj=>?_,aR hS⟩,by dsimp only;omega⟩;by_cases e:j=i
  ·subst e;refine λ_=>⟨⟨by omega,hQ.1,hQ.2.1,hQ.2.2.1,hQ.2.2.2.1,gx.1,hQ.2.2.2.2.2.1,hQ.2.2.2.2.2.2.1,hQ.2.2.2.2.2.2.2.1,hQ.2.2.2.2.2.2.2.2.1,hQ.2.2.2.2.2.2.2.2.2⟩,gx.2,λk hk hx=>?_⟩;have:=V5.2 ⟨k,by omega,hk,by rw[hx.1,ht],hx.2⟩;rw[ho]at this;cases this
  exact dh j (by omega)
 have gh:i=L.length:=by omega
 subst gh;refine zn hv ?_;refine Gp ?_;refine⟨_,⟨_,rfl,?_,rfl⟩,aR hS⟩;rw[zz1];exact⟨λh=>⟨by omega,λj hj=>dh j hj hj⟩,λhp=>by have:=hp.1;omega⟩
def Zi(H:a_)(v:Ε)(L:List Rq)(hv:iz H v L)(hn:L.length<=140737488351232):
  SP 235 [v] [.mem H] (λu post=>∃q:Bool,u= .bool q/\(q=true↔fq L)/\post=[.mem H]):=by
 refine Enzz λW F w hS=>?_;apply bFv;refine Cc (bnr H v L hv hn) ?_;clear hS;rintro _ post ⟨q,rfl,hq,rfl⟩ w hS;try simp only[app]at hS
 exact⟨_,⟨q,rfl,hq,rfl⟩,aR hS⟩
def sj(L:List Rq)(id:Int):Bool:=decide (1<=id/\id<=L.length) && (match L[(id-1).toNat]? with|some r=>!r.done|none=>false)
def bx3{a b:Int}{K:Ε->Prop}(h:K (Γ (IntKind.i64.wrap (a-b)))):zc .sub (Γ a) (Γ b) K:=⟨_,rfl,h⟩
def X6{n:Int}(h : -9223372036854775808<=n/\n<=9223372036854775807):IntKind.i64.wrap n=n:=xx3 _ h
def QM(H:a_)(v:Ε)(L:List Rq)(id:Int)(hv:iz H v L)(hn:L.length<=1000)(hid : -9223372036854775808<=id/\id<=9223372036854775807):
  SP 291 [v,Γ id] [.mem H] (bA (.tuple #[Γ (IntKind.i64.wrap (id-1)),.bool (sj L id)]) [.mem H]):=by
 refine Enzz λW F w hS=>?_;apply bHc;delta aI bg ai;refine Gn λw hS=>?_;refine bx3 ?_;refine bj (λh1=>?_) (λh1=>?_)
 ·refine zn hv ?_;refine bj (λh2=>?_) (λh2=>?_)
  ·obtain⟨j,rfl⟩:∃j:Nat,id=((j+1:Nat):Int):=⟨(id-1).toNat,by omega⟩;have hj:j<L.length:=by omega
   have ej:((j+1:Nat):Int)-1=(j:Int):=by omega
   have hp:sj L ((j+1:Nat):Int) = !L[j].done:=by
    unfold sj;rw[zzm (by omega),show (((j+1:Nat):Int)-1).toNat=j by omega,zzd hj];rfl
   rw[hp,X6 (by omega),ej];refine Gp ?_;rw[ej];have hd:=pM nC L j 6 L[j] (.bool L[j].done) (by simp[hj]) rfl;refine Y3 hv hj λb o hb=>yI (F7 hS Xh (hb 6 _ (by decide) hd) ?_);refine Gp ?_;refine F7 hS Xh (hb 6 _ (by decide) hd) ?_;exact⟨rfl,_,⟨rfl,rfl⟩,aR hS⟩
  have hp:sj L id=false:=by unfold sj;rw[zzx (by omega)];rfl
  rw[hp];exact bw hS
 have hp:sj L id=false:=by unfold sj;rw[zzx (by omega)];rfl
 rw[hp];exact bw hS
def ya(H:a_)(v:Ε)(L:List Rq)(hv:iz H v L)(hn:L.length<=1000):
  SP 169 [v] [.mem H] (λu post=>post=[.ob (bd u 295 7 L.length (L.map gS).flatten),.mem H]):=by
 exact Rz bD5 rfl (by decide) hv (bwr L) (by omega) (by omega)
def Zk(H:a_)(v:Ε)(L:List Rq)(table weight at_:Int)(hv:iz H v L)(hn:L.length<=1000):
  SP 278 [v,Γ table,Γ weight,Γ at_] [.mem H] (λu post=>GF H u post (oO L table weight at_)):=by
 refine Enzz λW F w hS=>?_;apply bGx;delta bJ ai bc;refine Cc (ya H v L hv hn) ?_;clear hS;rintro v1 post rfl w hS;(try simp only[app]at hS);refine zn hv ?_;refine Gm λb w hS=>?_;refine zL (n:=L.length) (m:=1) (cells:=(L.map gS).flatten) hS Xr (jx (cs:=gS ⟨((L.length+1:Nat):Int),table,weight,at_,0,0,false⟩) hS .hd rfl) rfl rfl (Eg _) (by omega) (by omega) ?_;clear hS;intro v2 w hS;rw[<- u0]at hS
 obtain⟨H1,bX,jt,hS⟩:=zA (H:=H) (v:=v2) (n:=L.length+1) (sz:=7) (t:=295) (cells:=((L++[(⟨((L.length+1:Nat):Int),table,weight,at_,0,0,false⟩:Rq)]).map gS).flatten) hS Xp;have hlen:(L++[(⟨((L.length+1:Nat):Int),table,weight,at_,0,0,false⟩:Rq)]).length=L.length+1:=by simp
 have jt:iz H1 v2 (L++[(⟨((L.length+1:Nat):Int),table,weight,at_,0,0,false⟩:Rq)]):=by unfold iz;rw[hlen];exact jt
 have hN:xu L table weight at_=⟨((L.length+1:Nat):Int),table,weight,at_,0,0,false⟩:=rfl;unfold oO;rw[hN];generalize EB:L++[(⟨((L.length+1:Nat):Int),table,weight,at_,0,0,false⟩:Rq)]=L2 at jt hlen ⊢;refine Cc (Zi H1 v L (hv.mono bX) (by omega)) ?_;clear hS;rintro _ post ⟨q1,rfl,vu,rfl⟩ w hS;(try simp only[app]at hS);refine Gp ?_
 refine zw (λhe=>?_) (λhe=>?_)
 ·rw[zzb λh=>by rw[vu.2 h.1]at he;cases he];exact⟨_,⟨H1,bX,rfl,rfl⟩,aR hS⟩
 skip
 refine Cc (Zi H1 v2 L2 jt (by omega)) ?_;clear hS;rintro _ post ⟨q2,rfl,ki,rfl⟩ w hS;(try simp only[app]at hS);refine Gp ?_
 refine zw (λEP=>?_) (λEP=>?_)
 ·rw[zzb λh=>by rw[ki.2 h.2]at EP;cases EP];exact⟨_,⟨H1,bX,rfl,rfl⟩,aR hS⟩
 rw[zzc ⟨vu.1 he,ki.1 EP⟩];exact⟨_,⟨H1,bX,rfl,v2,rfl,jt⟩,aR hS⟩
def br8{L:List Rq}{id:Int}(h:sj L id=true):∃j:Nat,∃hj:j<L.length,id=((j+1:Nat):Int)/\L[j].done=false:=by
 unfold sj at h;rw[zzs,zz1]at h
 obtain⟨⟨h1,h2⟩,h3⟩:=h;have hj:(id-1).toNat<L.length:=by omega
 rw[zzd hj]at h3
 exact⟨(id-1).toNat,hj,by omega,by simpa using h3⟩
def aWu{L:List Rq}{id c:Int}{dn:Bool}(h:sj L id=false):lG L id c dn=none:=by
 unfold lG;split
 ·rename_i hc;have hj:(id-1).toNat<L.length:=by omega
  unfold sj at h;rw[zzm hc.2,zzd hj]at h
  rw[zzd hj];simp only[uuh,Bool.not_eq_false']at h;simp only[h,true_or,ww0]
 rfl
def Kc{L:List Rq}{rest:Ξ}{j i:Nat}(hj:j<L.length)(hi:i<7){v:Ε}{y:Rq}(hy:(gS L[j]).set i v=gS y):((L.map gS).flatten++rest).set (0+j*7+i) v=((L.set j y).map gS).flatten++rest:=by
 rw[yyd,www _ _ (by rw[n_ nC];omega),HU nC L j i hj y v hi hy]
def F4{L:List Rq}{rest:Ξ}{j i:Nat}(hj:j<L.length){u:Ε}(hu:(gS L[j])[i]?=some u):((L.map gS).flatten++rest)[0+j*7+i]?=some u:=by
 have h:=pM nC L j i L[j] u (zzd hj) hu;rw[yyd,zzy (zzh.1 h).1];exact h
def ZJ(H:a_)(v:Ε)(L:List Rq)(id cG:Int)(dn:Bool)(hv:iz H v L)(hn:L.length<=1000)(hid : -9223372036854775808<=id/\id<=9223372036854775807):
  SP 248 [v,Γ id,Γ cG,.bool dn] [.mem H] (λu post=>GF H u post (lG L id cG dn)):=by
 refine Enzz λW F w hS=>?_;apply bF9;delta aI aW bJ ai bc;have dX:∀{w:Ζ},lG L id cG dn=none->SL W (.mem H::F) w->∃post,GF H (.tuple #[Θ,.bool false]) post (lG L id cG dn)/\SL W (app post F) w:=λe hS=>⟨_,⟨H,a_.le_refl H,rfl,by rw[e]⟩,hS⟩;refine Cg (QM H v L id hv hn hid) λw hS=>?_;refine Cc (Zi H v L hv (by omega)) ?_;clear hS;rintro _ post ⟨q1,rfl,vu,rfl⟩ w hS;(try simp only[app]at hS);refine Gp ?_
 refine zw (λhe=>dX (aWt λh=>by rw[vu.2 h.1]at he;cases he) (aR hS)) (λhe=>?_);have hM:=vu.1 he;refine Gp ?_;refine zw (λh=>dX (aWu h) (aR hS)) (λh1=>?_);obtain⟨j,hj,rfl,hd⟩:=br8 h1;have ew:IntKind.i64.wrap (((j+1:Nat):Int)-1)=(j:Int):=by rw[X6 (by omega)];omega
 rw[ew];have lN:=aWr hM hj cG dn;have bC:=(hM.2 j hj).1;unfold vF at bC;have hx:L[j]?=some L[j]:=zzd hj;refine QU hS Xh nC hv hx hj (i:=4) rfl ?_;refine Gp ?_;refine za (λh=>dX (by rw[lN,zzc (.inr (.inl h))]) (aR hS)) (λh4=>?_);refine Gp ?_;refine za (λh=>dX (by rw[lN,zzc (.inr (.inr (.inl h)))]) (aR hS)) (λh5=>?_);refine QU hS Xh nC hv hx hj (i:=5) rfl ?_;refine Gp ?_;refine za (λh=>dX (by rw[lN,zzc (.inr (.inr (.inr h)))]) (aR hS)) (λh6=>?_);rw[lN,zzb (by rw[hd];rintro (h|h|h|h);exact Bool.false_ne_true h;exact h4 h;exact h5 h;exact h6 h)];refine Cc (ya H v L hv hn) ?_;clear hS;rintro v1 post rfl w hS;(try simp only[app]at hS);rcases bd.open hS with ⟨_,h0,_⟩|⟨ob,cap,rest,rfl,hc,hl,iT,hS⟩
 ·omega
 refine zI hj (yI (ZA hS Xu (F4 hj (i:=4) rfl) rfl ?_));clear hS;intro w hS;rw[Kc hj (by decide) (y:={L[j] with cG:=cG}) rfl]at hS
 have Cz:j<(L.set j {L[j] with cG:=cG}).length:=by rw[yyl];exact hj
 have e1:(L.set j {L[j] with cG:=cG})[j]={L[j] with cG:=cG}:=by simp
 refine zI hj (yI (ZA hS Xu (F4 Cz (i:=6) (u:=.bool L[j].done) (by rw[e1];rfl)) rfl ?_));clear hS;intro w hS;rw[Kc Cz (by decide) (y:={L[j] with cG:=cG,done:=dn}) (by rw[e1];rfl),List.set_set]at hS
 have pQ:j<(L.set j {L[j] with cG:=cG,done:=dn}).length:=by rw[yyl];exact hj
 have e2:(L.set j {L[j] with cG:=cG,done:=dn})[j]={L[j] with cG:=cG,done:=dn}:=by simp
 refine zI hj (yI (zV hS .hd (F4 pQ (i:=5) (u:=Γ L[j].chunks) (by rw[e2];rfl)) ?_));refine Gp ?_;refine zI hj (yI (ZA hS Xu (F4 pQ (i:=5) (u:=Γ L[j].chunks) (by rw[e2];rfl)) rfl ?_));clear hS;intro w hS;rw[Kc pQ (by decide) (y:={L[j] with cG:=cG,chunks:=L[j].chunks+1,done:=dn}) (by rw[e2];rfl),List.set_set]at hS
 generalize EB:L.set j {L[j] with cG:=cG,chunks:=L[j].chunks+1,done:=dn}=L2 at *
 have hlen:L2.length=L.length:=by rw[<- EB,yyl]
 have hS:=bd.mk (n:=L2.length) (cap:=cap) (sz:=7) (rest:=rest) (by omega) (n_ nC L2) (by rw[hlen];exact iT) hS;obtain⟨H1,bX,jt,hS⟩:=zA (H:=H) (v:=.slice (some ⟨ob,0,none⟩) L2.length cap) (n:=L2.length) (sz:=7) (t:=295) (cells:=(L2.map gS).flatten) hS Xp;exact⟨_,⟨H1,bX,rfl,_,rfl,by rw[<- hlen];exact jt⟩,aR hS⟩

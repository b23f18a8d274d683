/- Part of the proof. -/
import Derived.Test.YtmkllimamejcgaaGreatJ7
import Derived.ProofKit
import Derived.OpenShut
import Derived.SizedLaws
import Derived.Deep.Slices
import Derived.JoinedCond
import Derived.Test.YtmkllimamejcgaaGreatQVcM
import Derived.Test.YtmkllimamejcgaaGreatQVcG
import Derived.Test.YtmkllimamejcgaaGreatQVcL
namespace Go.Proofs.YtmkllimamejcgaaGreat
set_option linter.all false
open Go.RowKit Go.ChangeShapes Go.WideShapes Go.ChangeAt
def vv7:=@List.all_append
def ww5:=@List.getElem_append_right
def ww2:=@List.drop_drop
def uuo:=@Nat.div_lt_iff_lt_mul
def vv8:=@Nat.div_add_mod
def xx5:=@Option.some.inj
def wwx:=@List.flatten_singleton
def vvl:=@Tryz.underlying153
def uus:=@Tryz.zeroValue93
def uu5:=@Option.isSome_none
def uu6:=@Option.isSome_some
def vvm:=@Bool.false_eq_true
def uue:=@List.mem_replicate
def xxf:=@List.length_replicate
def uup:=@List.set_getElem_self
def uum:=@List.getLast?_map
def xx0:=@List.getLast?_eq_getElem?
def vv0:=@List.filter_cons
def xx6:=@List.mem_filter
def vv1:=@List.drop_length
def Bx:ik Unit:=.plain 0 (λ_=>[]) (λ_=>rfl) (λ_ u hu=>by cases hu)
def j9{α β:Type}(S:ik α)(T:ik β):ik (α × β) where
 n:=S.n+T.n
 rd:=λw M x cs=>∃c1 c2,cs=c1++c2/\S.rd w M x.1 c1/\T.rd w M x.2 c2
 len:=λ⟨c1,c2,h,h1,h2⟩=>by rw[h,zza,S.len h1,T.len h2]
 one:=λ⟨c1,c2,h,h1,h2⟩ u hu=>by
  subst h;rcases zz1.1 hu with hu|hu
  ·exact S.one h1 u hu
  exact T.one h2 u hu
 keep:=λ⟨c1,c2,h,h1,h2⟩ hf hM=>⟨c1,c2,h,S.keep h1 hf hM,T.keep h2 hf hM⟩
def ik.via{α β:Type}(T:ik α)(f:β->α):ik β where
 n:=T.n
 rd:=λw M y cs=>T.rd w M (f y) cs
 len:=λh=>T.len h
 one:=λh=>T.one h
 keep:=λh=>T.keep h
def Small{H:Type}(P:Program)(t:Ι)(d:DataW H):Prop:=(d.weights P t).all (·<=reachBytes)=true
def mI{α:Type}(P:Program)(t:Ι)(T:ik α)(ok:α->Prop):Prop:=
 P.cellsOf t=T.n/\∀{H:Type} (enc:Ι × Ε->H) (w:Ζ) (sp:Nat->Bool) (hd:Bool) (fuel:Nat) (cs:Ξ) (x:DataW H × List MemPlace),
  DataW.trod enc P w 0 sp hd fuel t cs=some x->Small P t x.1->∃a,T.rd w kF a cs/\ok a
def FE(k:IntKind)(n:Int):Prop:=(Lit.int k n).wf=true
def De{n:Int}(h:FE .i64 n): -9223372036854775808<=n/\n<=9223372036854775807:=by
 simpa [FE,Lit.wf,IntKind.min,IntKind.max,IntKind.signed,IntKind.bits] using h
def zB{P:Program}{t:Ι}{k:IntKind}(ht:P.underlying t=some (.int k))(hc:P.cellsOf t=1):mI P t (lP k) (FE k):=
 ⟨hc,λenc w sp hd fuel cs x h _=>by
  obtain⟨n,rfl,rfl,hw⟩:=DataW.trod_int ht h;exact⟨n,rfl,hw⟩⟩
def QG{P:Program}{t:Ι}(ht:P.underlying t=some .bool)(hc:P.cellsOf t=1):mI P t Xf (λ_=>True):=
 ⟨hc,λenc w sp hd fuel cs x h _=>by
  obtain⟨n,rfl,rfl⟩:=DataW.trod_bool ht h;exact⟨n,rfl,trivial⟩⟩
def bZ6(s:Η):Prop:=s.size<=140737488351232
def YH{P:Program}{t:Ι}(ht:P.underlying t=some .string)(hc:P.cellsOf t=1):mI P t DJ bZ6:=
 ⟨hc,λenc w sp hd fuel cs x h hs=>by
  obtain⟨n,rfl,rfl,hw⟩:=DataW.trod_string ht h;refine⟨n,rfl,?_⟩;simp[Small,DataW.weights,reachBytes]at hs
  exact (zzm hs:n.size<=140737488351232)⟩
def bZ5{α:Type}(b:Nat)(ok:α->Prop)(xs:List α):Prop:=xs.length*b<=140737488351232/\∀x∈xs,ok x
def XU{H:Type}{P:Program}{e:Ι}{n:Nat}:∀{l:List (DataW H)},(DataW.weightsAll P e l).all (·<=n)=true->∀d∈l,(d.weights P e).all (·<=n)=true
 | [],_,_,h=>by cases h
 | x::r,h,d,hd=>by
  simp only[DataW.weightsAll,vv7,zz9]at h;rcases zz8.1 hd with rfl|hd
  ·exact h.1
  exact XU h.2 d hd
def Rl{α:Type}{p:Nat->α->Prop}:∀(n:Nat),(∀i,i<n->∃y,p i y)->∃ys:List α,ys.length=n/\∀i (h:i<ys.length),p i ys[i]
 | 0,_=>⟨[],rfl,λi h=>by simp at h⟩
 | n+1,h=>by
  obtain⟨ys,hl,hy⟩:=Rl n (λi hi=>h i (by omega));obtain⟨y,hy'⟩:=h n (by omega);refine⟨ys++[y],by simp[hl],λi hi=>?_⟩;by_cases dd:i<ys.length
  ·rw[wwl dd];exact hy i dd
  have:i=n:=by simp at hi;omega
  subst this;rw[ww5 (by omega)];simpa [hl] using hy'
def JY{α:Type}{P:Program}{t e:Ι}{T:ik α}{ok:α->Prop}{b:Nat}(h:mI P e T ok)(ht:P.underlying t=some (.slice e))(hc:P.cellsOf t=1)(hb:P.bytesOf e=b)(xw:0<T.n):mI P t (Gk T) (bZ5 b ok):=by
 refine⟨hc,λenc w sp hd fuel cs x hx hs=>?_⟩;rcases Go.Deep.open_slice ht hx with ⟨rfl,rfl⟩|⟨a,len,cap,m,n,D,Pl,rfl,_,hl,hm,vx,rfl,vp⟩
 ·exact⟨[],⟨_,rfl,ly.nil T w kF⟩,by simp,λx hx=>by cases hx⟩
 have hle:len<=m:=by rw[vx];split<;>omega
 simp only[Small,DataW.weights,ht,hb,List.all_cons,vv7,zz9,zzy,zzn,List.length_range]at hs;have bRl:∀i,i<len->∃y:α,ok y/\∃pA,T.rd w kF y pA/\At w kF a.block (a.off+i*T.n) pA/\a=⟨a.block,a.off,none⟩:=λi hi=>by
  obtain⟨pA,h1,h2⟩:=vp i (by omega);obtain⟨y,hy,cG⟩:=h.2 enc w sp hd n pA _ h2 (XU hs.2.1 _ (zzv.2 ⟨i,by simpa using hi,rfl⟩));obtain⟨_,hlen,E4⟩:=World.cells?_some h1;have pS:a.spot=none:=by
   have h0:=E4 0 (by rw[h.1];exact xw);rw[zzd (by rw[hlen,h.1];exact xw)]at h0
   cases pS:a.spot with
   | none=>rfl
   | some q=>
    exfalso;by_cases vr:i*P.cellsOf e=0
    ·simp[Addr.add,vr,World.cell?,pS]at h0
     split at h0<;>cases h0
    have h00:=vp 0 (by omega);obtain⟨cs0,vm,_⟩:=h00;obtain⟨_,bUe,bI7⟩:=World.cells?_some vm;have EJ:=bI7 0 (by rw[h.1];exact xw);rw[zzd (by rw[bUe,h.1];exact xw)]at EJ
    simp[Addr.add,World.cell?,pS]at EJ
    split at EJ<;>cases EJ
  obtain⟨ab,ao,asp⟩:=a;simp only at pS;subst pS;refine⟨y,cG,pA,hy,⟨λ_ x=>x,λj u hu=>?_⟩,rfl⟩;have hj:=(zzj.1 hu).1;have:=E4 j (by omega);rw[yyb,yyb,hu,h.1]at this
  exact this
 obtain⟨ys,FA,hy⟩:=Rl len bRl;subst FA;refine⟨ys,⟨_,rfl,some a,cap,rfl,hl,λi hi=>?_⟩,?_,λx hx=>?_⟩
 ·obtain⟨_,pA,h1,h2,h3⟩:=hy i hi;exact⟨a.block,a.off,pA,yyu some h3,h1,h2⟩
 ·have:=hs.1;simp only[reachBytes]at this;rw[yyz]at this
  omega
 obtain⟨i,hi,rfl⟩:=yyi hx;exact (hy i hi).1
def DW{α:Type}(P:Program)(fs:List Field)(o:Nat)(T:ik α)(ok:α->Prop):Prop:=
 ∀{H:Type} (enc:Ι × Ε->H) (w:Ζ) (sp:Nat->Bool) (hd:Bool) (n:Nat) (cs:Ξ) (xs:List (DataW H × List MemPlace)),xs.length=fs.length ->
  (∀(i:Nat) (f:Field),fs[i]?=some f->DataW.trod enc P w 0 sp hd n f.type ((cs.drop f.offset).take (P.cellsOf f.type))=xs[i]?) ->
  (DataW.weightsEach P (fs.map (·.type)) (xs.map (·.1))).all (·<=reachBytes)=true->cs.length=o+T.n->∃a,T.rd w kF a (cs.drop o)/\ok a
def EB(P:Program)(o:Nat):DW P [] o Bx (λ_=>True):=λenc w sp hd n cs xs _ _ _ hl=>⟨(),by
 show cs.drop o=[];rw[List.drop_eq_nil_iff];have:Bx.n=0:=rfl;omega,trivial⟩
def kJ{α β:Type}{P:Program}{f:Field}{fs:List Field}{o:Nat}{S:ik α}{T:ik β}{VP:α->Prop}{VQ:β->Prop}(h1:mI P f.type S VP)(ho:f.offset=o)(h2:DW P fs (o+S.n) T VQ):
  DW P (f::fs) o (j9 S T) (λx=>VP x.1/\VQ x.2):=λenc w sp hd n cs xs hl hx hs hc=>by
 match xs,hl with
 | y::ys,hl=>
  have Ti:(j9 S T).n=S.n+T.n:=rfl;simp only[zzo,DataW.weightsEach,vv7,zz9]at hs;have e0:=hx 0 f rfl;rw[ho,h1.1]at e0
  obtain⟨a,ha,bUq⟩:=h1.2 enc w sp hd n _ y e0 hs.1;obtain⟨b,hb,bUr⟩:=h2 enc w sp hd n cs ys (by simpa using hl) (λi g hg=>by simpa using hx (i+1) g (by simpa using hg)) hs.2 (by omega);refine⟨(a,b),⟨_,_,?_,ha,hb⟩,bUq,bUr⟩;rw[<- ww2];exact (yyl _ _).symm
def yq{α:Type}{P:Program}{t:Ι}{fs:Array Field}{T:ik α}{ok:α->Prop}(ht:P.underlying t=some (.struct fs))(hc:P.cellsOf t=T.n)(h:DW P fs.toList 0 T ok):mI P t T ok:=
 ⟨hc,λenc w sp hd fuel cs x hx hs=>by
  obtain⟨xs,n,_,rfl,hl,hlen,hf⟩:=DataW.trod_struct ht hx;simp only[Small,DataW.weights,ht]at hs;obtain⟨a,ha,cG⟩:=h enc w sp hd n cs xs (by simpa using hlen) (λi f hi=>hf i f (by simpa using hi)) hs (by omega);exact⟨a,by simpa using ha,cG⟩⟩
def y1{α β:Type}{P:Program}{t:Ι}{T:ik α}{ok:α->Prop}(f:β->α)(g:α->β)(hg:∀a,f (g a)=a)(h:mI P t T ok):mI P t (T.via f) (λb=>ok (f b)):=
 ⟨h.1,λenc w sp hd fuel cs x hx hs=>by
  obtain⟨a,ha,cG⟩:=h.2 enc w sp hd fuel cs x hx hs;exact⟨g a,by show T.rd w kF (f (g a)) cs;rw[hg];exact ha,by show ok (f (g a));rw[hg];exact cG⟩⟩
def Zk{α:Type}{P:Program}{t:Ι}{T:ik α}{ok VO:α->Prop}(h:mI P t T ok)(hi:∀a,ok a->VO a):mI P t T VO:=
 ⟨h.1,λenc w sp hd fuel cs x hx hs=>let ⟨a,ha,cG⟩:=h.2 enc w sp hd fuel cs x hx hs;⟨a,ha,hi a cG⟩⟩
def Xz{H:Type}{enc:Ι × Ε->H}{P:Program}(hl:laidOutB P=true){W W':Ζ}(hb:Below W.heap.size W W'):∀{ts:List Ι} {vs:Ξ} {ds:List (DataW H)} {ps:List MemPlace},
  (∀t∈ts,P.readableRec t=true/\t<P.types.size)->DataW.TrodAll enc P W 0 (λ_=>true) true ts vs ds ps->(∀x∈ps,x.block<W.heap.size)->DataW.TrodAll enc P W' 0 (λb=>decide (b<W.heap.size)) true ts vs ds ps
 | [],_,_,_,_,h,_=>by
  obtain⟨rfl,rfl,rfl⟩:=trodAll_nil h;exact trodAll_mk0
 | t::ts,_,_,_,hr,h,dd=>by
  obtain⟨v,vs1,d,ds1,a,b,rfl,rfl,rfl,h1,h2⟩:=trodAll_cons h;exact⟨a,b,Below.trod hl (hr t (by simp)).1 (hr t (by simp)).2 h1 hb (λx hx=>dd x (by simp[hx])),Xz hl hb (λt ht=>hr t (by simp[ht])) h2 (λx hx=>dd x (by simp[hx])),rfl⟩
def cNs{H:Type}{enc:Ι × Ε->H}{P:Program}{f:Func}{s:ChangeSpec}{tb:Ι}(hl:laidOutB P=true)(hr:∀t∈f.params.toList,P.readableRec t=true/\t<P.types.size)
  (Um:s.vars=[]) (C5:f.resultTypes = #[tb]) (hb:P.underlying tb=some .bool) (Fb:∀ds:List (DataW H),ds.length=f.params.size->(s.fn H ds).results=[.lit (.bool true)]/\(s.fn H ds).args=ds/\(s.fn H ds).vars=[])
  {W W':Ζ} {args:Array Ε} {ds gs:List (DataW H)} {before:List MemPlace} (hW:DataW.Whole enc P f.params.toList s.vars false W args.toList ds gs before) (Ta:Below W.heap.size W W') :
  s.post enc P f false true false false W args (.bool true) W':=by
 have dd:=hW.lt;have ES:=hW;obtain⟨p,q,hA,hV,rfl,hfz,_⟩:=hW;rw[Um]at hV
 obtain⟨rfl,rfl⟩:=trodVars_none hV;have hlen:∀{ts:List Ι} {vs:Ξ} {ds:List (DataW H)} {ps:List MemPlace} {w:Ζ} {base:Nat} {sp:Nat->Bool} {hd:Bool},DataW.TrodAll enc P w base sp hd ts vs ds ps->ds.length=ts.length:=by
  intro ts;induction ts with
  | nil=>intro vs ds ps w base sp hd h;obtain⟨rfl,rfl,rfl⟩:=trodAll_nil h;rfl
  | cons t ts ih=>intro vs ds ps w base sp hd h;obtain⟨v,vs1,d,ds1,a,b,rfl,rfl,rfl,_,h2⟩:=trodAll_cons h;simp[ih h2]
 obtain⟨e1,e2,e3⟩:=Fb ds (by simpa using hlen hA);refine⟨ds,[],p++[],[],p,[],ES,?_,?_,?_,Ta.frame _,λh=>by cases h⟩
 ·rw[zzx,e1,C5];exact trodAll_mk1 (shut_bool hb true)
 ·rw[zzx,e2];exact Xz hl Ta hr hA (λx hx=>dd x (by simp[hx]))
 rw[zzx,e3,Um];rfl
def UM:Option TypeDesc->Bool
 | some .bool|some (.int _)|some .string|some (.slice _)=>true
 | _=>false
def bFd{P:Program}{w:Ζ}{r:Reach}{b0:Nat}{t:Ι}{v:Ε}(hf:UM (P.underlying t)=true)(oq:Value.okWide P w r b0 t v):v.cells.toList=[v]:=by
 unfold Value.okWide at oq;cases hu:P.underlying t with
 | none=>rw[hu]at hf;cases hf
 | some d=>
  rw[hu]at hf oq
  cases d<;>first|(cases hf;done)|(unfold Cell.okWide Cell.ok at oq;rw[hu]at oq;cases v<;>first|rfl|(exfalso;simp_all))
def cLy{α:Type}{P:Program}{t:Ι}{T:ik α}{ok:α->Prop}{H:Type}{enc:Ι × Ε->H}{W:Ζ}{r:Reach}{b0:Nat}{v:Ε}{d:DataW H}{ps:List MemPlace}{sp:Nat->Bool}{hd:Bool}
  (h:mI P t T ok) (hf:UM (P.underlying t)=true) (oq:Value.okWide P W r b0 t v) (h0:DataW.Trod enc P W 0 sp hd t v d ps) (hs:Small P t d):∃a,T.rd W kF a [v]/\ok a:=by
 obtain⟨fuel,hx⟩:=h0;rw[bFd hf oq]at hx
 exact h.2 enc W sp hd fuel [v] _ hx hs
def cLx{α:Type}{P:Program}{t:Ι}{fs:Array Field}{T:ik α}{ok:α->Prop}{H:Type}{enc:Ι × Ε->H}{W:Ζ}{r:Reach}{b0:Nat}{v:Ε}{d:DataW H}{ps:List MemPlace}{sp:Nat->Bool}{hd:Bool}
  (h:mI P t T ok) (ht:P.underlying t=some (.struct fs)) (oq:Value.okWide P W r b0 t v) (h0:DataW.Trod enc P W 0 sp hd t v d ps) (hs:Small P t d):∃a cs,v= .agg cs/\T.rd W kF a cs.toList/\ok a:=by
 obtain⟨fuel,hx⟩:=h0;unfold Value.okWide at oq;rw[ht]at oq
 obtain⟨cs,rfl,_⟩:=oq;obtain⟨a,h1,h2⟩:=h.2 enc W sp hd fuel _ _ hx hs;exact⟨a,cs,rfl,h1,h2⟩
open Go.RowKit
def GB(P:Program)(f:FuncId)(args:Ξ)(w:Ζ):Prop:=zQ P f args w λv w'=>v= .bool true/\Below w.heap.size w w'
def qA{P:Program}{f:FuncId}{args:Ξ}{w:Ζ}(h:Spec P f args [.mem (bw.of w)] λv post=>v= .bool true/\∃H l,(bw.of w).le H/\post= .mem H::l):GB P f args w:=by
 refine (h w [] w (SL.init w)).mono ?_;rintro v w' ⟨post,⟨rfl,H,l,hH,rfl⟩,hS⟩;exact⟨rfl,hS.below (.hd) hH⟩
def GB.calls{P:Program}{f:FuncId}{args:Ξ}{w:Ζ}(h:GB P f args w):Calls P f args.toArray w λe w'=>e= .returned (.bool true)/\Below w.heap.size w w':=
 Calls.mono h λe w' ⟨v,he,hv,hb⟩=>⟨by rw[he,hv],hb⟩
def ly.flat{α:Type}{T:ik α}{enc:α->Ξ}{w:Ζ}{xs:List α}{v:Ε}(h:ly T w kF xs v)(he:∀{M x cs},T.rd w M x cs->cs=enc x)(hn:∀x,(enc x).length=T.n):
  dx (bw.of w) T.n v xs.length (xs.map enc).flatten:=by
 obtain⟨a,cap,rfl,hc,hx⟩:=h.out;have hlen:(xs.map enc).flatten.length=xs.length*T.n:=by
  rw[HS (n:=T.n) _ (λx hx=>by obtain⟨y,_,rfl⟩:=zzv.1 hx;exact hn y),zzn]
 refine⟨hlen,a,cap,rfl,hc,?_⟩;rcases yy8 xs.length with h0|h0
 ·exact .inl h0
 right;obtain⟨b,off,_,rfl,_,_⟩:=hx 0 h0;refine⟨b,off,rfl,λj u hu=>?_⟩;have hj:=(zzj.1 hu).1;rcases yy8 T.n with hz|hz
 ·rw[hlen,hz]at hj;omega
 have hi:j / T.n<xs.length:=by rw[hlen]at hj;exact (uuo hz).2 hj
 obtain⟨b',bZx,cs,pJ,hr,ib⟩:=hx (j / T.n) hi;simp at pJ;obtain⟨rfl,rfl⟩:=pJ;have iL:=he hr;subst iL;have xp:j % T.n<(enc xs[j / T.n]).length:=by rw[hn];exact vvi _ hz
 have hg:=EG (n:=T.n) (xs.map enc) (λx hx=>by obtain⟨y,_,rfl⟩:=zzv.1 hx;exact hn y) (j / T.n) (j % T.n) (by simpa using hi) ((enc xs[j / T.n])[j % T.n]'xp) (by simp[zzd xp]);have It:j / T.n*T.n+j % T.n=j:=by rw[Nat.mul_comm];exact vv8 j T.n
 rw[It]at hg
 rw[hu]at hg
 have Ja:u=(enc xs[j / T.n])[j % T.n]:=xx5 hg;have:=ib.2 (j % T.n) u (by rw[Ja];exact zzd xp);rw[show off+j / T.n*T.n+j % T.n=off+j by omega]at this
 unfold World.cell? at this;unfold bw.cell bw.of;simp only at this ⊢;split at this
 ·rename_i c t f l7;rw[l7];simpa using this
 cases this
def HQ{α:Type}{enc:α->Ξ}{n:Nat}{xs:List α}(hn:∀x,(enc x).length=n){j i:Nat}(hj:j<xs.length){u:Ε}(hu:(enc xs[j])[i]?=some u):((xs.map enc).flatten)[j*n+i]?=some u:=
 EG (n:=n) (xs.map enc) (λx hx=>by obtain⟨y,_,rfl⟩:=zzv.1 hx;exact hn y) j i (by simpa using hj) u (by simpa using hu)
set_option maxRecDepth 100000
structure rQ(X:Μ)(sz:Nat)(v:Ε)(n:Nat)(cs:Ξ):Prop where
 sl:∀{W w:Ζ} {l:Β},SL W l w->Has X l->∃a c,v= .slice a n c/\n<=c
 src:∀{W w:Ζ} {l:Β},SL W l w->Has X l->kE w sz v n cs
def rQ.own{v:Ε}{t:Ι}{sz n:Nat}{cs:Ξ}:rQ (.ob (bI v t sz n cs)) sz v n cs:=
 ⟨λh m=>by
  obtain⟨l2,r⟩:=m.rem;rcases bI.open (h.perm r.perm) with ⟨⟨a',rfl⟩,rfl,_,_⟩|⟨b',Ej,rest,rfl,hc,_⟩
  ·exact⟨a',0,rfl,zzi _⟩
  exact⟨_,_,rfl,hc⟩,λh m=>mZ h m⟩
def rQ.pt{p n sz:Nat}{t:Ι}{cs:Ξ}(h:cs.length=n*sz):rQ (.pt p cs t) sz (.slice (some ⟨p,0,none⟩) n n) n cs:=
 ⟨λ_ _=>⟨_,_,rfl,zzi _⟩,λhS m=>j8 hS m h⟩
section
variable {W w:Ζ} {l:Β} {X:Μ} {v:Ε} {sz n:Nat} {cs:Ξ}
def QS{K:Ε->Prop}(hS:SL W l w)(m:Has X l)(hb:rQ X sz v n cs)(k:K (Γ n)):zd v K:=by
 obtain⟨a,c,rfl,_⟩:=hb.sl hS m;exact yc k
def cxy{α:Type}{enc:α->Ξ}{xs:List α}{j:Nat}{kk:IntKind}{K:Ε->Prop}(hS:SL W l w)(m:Has X l)(hb:rQ X sz v n (xs.map enc).flatten)(he:∀x,(enc x).length=sz)(fS:0<sz)(hx:xs.length=n)(hj:j<n)
  (hK:K (.agg (enc (xs[j]'(by omega))).toArray)):zk sz v (.int kk (j:Int)) λp=>zg sz p w K:=by
 obtain⟨a,c,rfl,hc⟩:=hb.sl hS m;have hs:=hb.src hS m;have hlen:(xs.map enc).flatten.length=n*sz:=by
  rw[<- hx];clear hx hs hb hK hj hc;induction xs with
  | nil=>simp
  | cons x xs ih=>simp[he,ih,yyz];omega
 cases a with
 | none=>
  have e:(xs.map enc).flatten=[]:=hs.2;have e2:(enc (xs[j]'(by omega))).length=0:=by
   rw[e]at hlen
   simp only[yyp]at hlen;rw[he];rcases yy8 sz with h|h
   ·exact h
   have:0<n*sz:=Nat.mul_pos (by omega) h;omega
  rw[he]at e2;omega
 | some p=>
  refine⟨p,_,c,kk,j,rfl,rfl,hj,?_⟩;refine⟨_,enc (xs[j]'(by omega)),rfl,he _,λi u hu=>?_,hK⟩;rw[PS];refine hs.2.2 (j*sz+i) u ?_;exact HQ he (by omega) hu
end
def rM(X:Μ)(l:List dD)(u:Ε)(post:Β):Prop:=match n_ l with
 | .error e=>u= .tuple #[Θ,Γ e]/\post=[X]
 | .ok b=>∃v,u= .tuple #[v,Γ 0]/\post=[.ob (bI v 5 1 b.length (b.map cX)),X]
def rM.er{X:Μ}{l:List dD}{e:Int}(h:n_ l= .error e):rM X l (.tuple #[Θ,Γ e]) [X]:=by
 unfold rM;rw[h];exact⟨rfl,rfl⟩
def rM.ok{X:Μ}{l:List dD}{b:Φ}(h:n_ l= .ok b)(v:Ε):rM X l (.tuple #[v,Γ 0]) [.ob (bI v 5 1 b.length (b.map cX)),X]:=by
 unfold rM;rw[h];exact⟨v,rfl,rfl⟩
def a_0{x:dD}(h:oC x=true):(fr x).length<=5000:=by
 unfold fr;unfold oC at h;by_cases h1:x.kind=1
 ·rw[zzc h1];simp[lJ]
 rw[zzb h1]at h ⊢
 by_cases h2:x.kind=2
 ·rw[zzc h2]at h
  have h3:x.s.size<=4096:=by
   rw[zz9]at h
   exact zzm h.2
  have:x.s.data.toList.length=x.s.size:=rfl;simp only[zzh,zza,lJ];omega
 rw[zzb h2]at h;cases h
def Se:∀{l:List dD},l.all oC=true->(l.map fr).flatten.length<=l.length*5000
 | [],_=>by simp
 | x::l,h=>by
  rw[List.all_cons,zz9]at h
  have h1:=a_0 h.1;have h2:=Se h.2;simp only[zzo,zz5,zza,zzh];omega
def yF(X:Μ)(v:Ε)(xs:List dD)(hx:rQ X 3 v xs.length (xs.map gd).flatten)(hN:xs.length<=140737488355328):SP 218 [v] [X] (rM X xs):=by
 refine Enzz λW F w hS=>?_;apply cF0;delta M0 aI a_ aR cL ai cP bR;refine QS hS .hd hx ?_;refine bY (λh=>?_) (λh=>?_)
 ·exact⟨_,.er (by unfold n_;rw[zzc (by omega)]),hS⟩
 refine QS hS .hd hx ?_;refine zW ?_;rw[wrap_u64 (by omega) (by omega)];have hS:=bI.nil (t:=5) (sz:=1) hS;have hS:SL W (.ob (bI Θ 5 1 ([]:Φ).length (([]:Φ).map cX))::X::F) w:=hS;refine Cc (Zw [] Θ xs.length 2 (by omega) (by simp)) ?_;clear hS;rintro Gr post rfl w hS;(try simp only[app]at hS);rw[zzq]at hS
 refine QS hS Xh hx ?_;have hb:∀i,i<=xs.length->(xs.take i).all oC=true->(eQ xs.length 2++((xs.take i).map fr).flatten).length<=200000000:=λi hi ha=>by
  have:=Se ha;rw[zza,lJ];rw[zzf]at this
  omega
 refine⟨λvs w=>∃(i:Nat) (u:Ε),i<=xs.length/\vs=[u,Γ i]/\(xs.take i).all oC=true/\SL W (.ob (bI u 5 1 (eQ xs.length 2++((xs.take i).map fr).flatten).length ((eQ xs.length 2++((xs.take i).map fr).flatten).map cX))::X::F) w,λvs _=>match vs with
  | [_,.int _ i]=>xs.length-i.toNat
  | _=>0,⟨0,Gr,by omega,rfl,rfl,(by simpa using hS)⟩,?_⟩
 clear hS;rintro u1 u2 w1 ⟨i,u,hi,hv,ha,hS⟩;cases hv;have hbi:=hb i hi ha;refine bY (λh=>?_) (λh=>?_)
 ·have hi:i<xs.length:=by omega
  refine cxy hS Xh hx Ci (by omega) rfl hi ?_;have Jf:xs[i]∈xs:=zzg hi;have rn:xs.take (i+1)=xs.take i++[xs[i]]:=by rw[wwt];simp[hi]
  generalize xs[i]=x at *
  unfold gd;refine Gm λb w hS=>?_;refine Cc (qK x) ?_;clear hS;rintro v post ⟨rfl,rfl⟩ w hS;(try simp only[app]at hS);refine z7 ?_;cases hr:oC x with
  | false=>
   refine zq ?_;refine⟨[X],.er ?_,aW hS⟩;unfold n_;rw[zzb (by omega),zzb];intro h;have:=zz6.1 h x Jf;rw[hr]at this;cases this
  | true=>
   refine zp ?_;have wX:(xs.take (i+1)).all oC=true:=by rw[rn,vv7,ha];simp[hr]
   have q_:=hb (i+1) (by omega) wX;have kX:((xs.take (i+1)).map fr).flatten=((xs.take i).map fr).flatten++fr x:=by rw[rn];simp
   rw[kX]at q_
   rw[zza,zza]at q_
   have hk:x.kind=1\/x.kind=2:=by
    unfold oC at hr;by_cases h1:x.kind=1
    ·exact .inl h1
    rw[zzb h1]at hr
    by_cases h2:x.kind=2
    ·exact .inr h2
    rw[zzb h2]at hr;cases hr
   generalize hc:eQ xs.length 2++((xs.take i).map fr).flatten=c at *
   have oV:c.length+(fr x).length<=200000000:=by rw[<- hc,zza];omega
   refine Gp ?_;refine zW ?_;rw[wrap_u8];refine zN (cells:=[cX (gO x.kind)]) hS rfl ?_;clear hS;intro p w hS;refine zJ (m:=1) (cs:=[cX (gO x.kind)]) hS Xr (j8 hS .hd rfl) rfl rfl (by intro v hv;simp only[zz3]at hv;subst hv;rfl) (by omega) (by omega) ?_;clear hS;intro u' w hS;refine Gp ?_;have hS:SL W (.ob (bI u' 5 1 (c++[gO x.kind]).length ((c++[gO x.kind]).map cX))::.pt b [Γ x.kind,Γ x.n,.string x.s] 327::X::F) w:=by
    simp only[zza,zzh,yyp,zzs,zzo,yy4];exact aW hS
   refine za (λh1=>?_) (λh1=>?_)
   ·refine Gp ?_;refine zW ?_;have eu:IntKind.u64.wrap x.n=vU x.n:=rfl;rw[eu];refine Cc (Zw (c++[gO x.kind]) u' (vU x.n) 8 (by omega) (by simp;omega)) ?_;clear hS;rintro v36 post rfl w hS;(try simp only[app]at hS);refine Gp ?_;refine⟨⟨i+1,v36,by omega,rfl,wX,?_⟩,?_⟩
    ·have e:eQ xs.length 2++((xs.take (i+1)).map fr).flatten=c++[gO x.kind]++eQ (vU x.n) 8:=by
      rw[kX,<- zzk,hc];have:fr x=gO x.kind::eQ (vU x.n) 8:=by unfold fr;rw[zzc h1]
      rw[this];simp
     rw[e];exact aW hS
    simp only[zzw];omega
   have fS:x.s.size<=4096:=by
    unfold oC at hr;rw[zzb h1,zzc (by omega),zz9]at hr
    exact zzm hr.2
   have Tv:fr x=gO x.kind::(eQ x.s.size 2++x.s.data.toList):=by unfold fr;rw[zzb h1]
   refine Gn λw hS=>?_;refine zW ?_;rw[wrap_u64 (by omega) (by omega)];refine Gp ?_;refine Cc (Zw (c++[gO x.kind]) u' x.s.size 2 (by omega) (by simp;omega)) ?_;clear hS;rintro v42 post rfl w hS;(try simp only[app]at hS);refine Gp ?_;have I8:x.s.data.toList.length=x.s.size:=rfl;have vp:(fr x).length=1+(2+x.s.size):=by rw[Tv];simp only[zzh,zza,lJ];omega
   refine zJ (m:=x.s.size) (cs:=x.s.data.toList.map cX) hS Xr cAo (by simp) rfl (uQ _) (by simp only[zza,zzh,yyp,lJ];omega) (by simp only[zza,zzh,yyp,lJ];omega) ?_;clear hS;intro v45 w hS;refine Gp ?_;refine⟨⟨i+1,v45,by omega,rfl,wX,?_⟩,?_⟩
   ·have e:eQ xs.length 2++((xs.take (i+1)).map fr).flatten=(c++[gO x.kind]++eQ x.s.size 2)++x.s.data.toList:=by
     rw[kX,<- zzk,hc,Tv];simp
    rw[e];generalize c++[gO x.kind]++eQ x.s.size 2=A at *
    rw[zza,zzs,I8];exact aW hS
   simp only[zzw];omega
 obtain rfl:i=xs.length:=by omega
 rw[zz0]at hS ha
 exact⟨_,.ok (by unfold n_;rw[zzb (by omega),zzc ha]) u1,hS⟩
abbrev nS:=Ε × Φ
def gF(x:nS):zC:=bI x.1 5 1 x.2.length (x.2.map cX)
def gr(es:List nS):Ξ:=es.map Prod.fst
def oL(es:List nS):List (Φ):=es.map Prod.snd
def Y_(X:Μ)(q:Φ)(r:Ε)(post:Β):Prop:=∃(u:Ε) (es:List nS),oL es=(jh q).1/\r= .tuple #[u,Γ ((jh q).2:Nat)]/\post=[.ob (bI u 205 1 es.length (gr es)),.ob (ze gF es),X]
def czw(X:Μ)(v:Ε)(q:Φ)(hq:dP X v q)(hN:q.length<=10000000000):SP 322 [v] [X] (Y_ X q):=by
 refine Enzz λW F w hS=>?_;apply cH8;delta Oi aI ai bR;have hS:=bI.nil (t:=205) (sz:=1) (ze.nil (A:=gF) hS);refine⟨λvs w=>∃(u:Ε) (es:List nS) (at_:Nat),vs=[u,Γ at_]/\at_<=q.length/\es.length*8<=at_/\oL es++(jh (q.drop at_)).1=(jh q).1/\at_+(jh (q.drop at_)).2=(jh q).2 /\
   SL W (.ob (bI u 205 1 es.length (gr es))::.ob (ze gF es)::X::F) w,λvs _=>match vs with
  | [_,.int _ i]=>q.length-i.toNat
  | _=>0,⟨_,[],0,rfl,zz4 _,zzi _,rfl,by simp,hS⟩,?_⟩
 clear hS;rintro u1 u2 w1 ⟨u,es,i,hv,hi,h8,h1,h2,hS⟩;cases hv;refine WI hS Xh hq hi ?_;intro v12 dQ;refine Cc (YP X v12 (q.drop i) dQ (by rw[zzr];omega)) ?_;clear hS;intro Gr post hQ w hS;unfold tR at hQ;cases ht:gQ (q.drop i) with
 | error e=>
  rw[ht]at hQ
  obtain⟨rfl,rfl⟩:=hQ;(try simp only[app]at hS);refine Gp ?_
  have he:=Xm ht;rw[DF ht]at h1 h2
  refine za (λ_=>?_) (λh=>by omega);refine⟨_,⟨u1,es,by simpa using h1,?_,rfl⟩,aW hS⟩;rw[<- h2];rfl
 | ok x=>
  obtain⟨p,n⟩:=x;rw[ht]at hQ
  obtain⟨y,rfl,rfl⟩:=hQ;(try simp only[app]at hS);refine Gp ?_
  have hl:=DM ht;rw[Gc ht]at h1 h2
  rw[zzr]at hl
  refine za (λh=>absurd rfl h) (λ_=>?_);have tz:=hS.rD .hd;obtain⟨ay,cy,ey,_⟩:=bI.at hS .hd;subst ey;refine zN (cells:=[.slice ay p.length cy]) hS rfl ?_;clear hS;intro b w hS;refine zJ (m:=1) (cs:=[.slice ay p.length cy]) hS Xr (j8 hS .hd rfl) rfl rfl (by intro v hv;simp only[zz3]at hv;subst hv;rfl) (by omega) (by omega) ?_;clear hS;intro u' w hS;have hS:=ze.snoc (A:=gF) (xs:=es) (x:=(.slice ay p.length cy,p)) (SL.bZ hS (t:=.ob (ze gF es)::.ob (bI (.slice ay p.length cy) 5 1 p.length (p.map cX))::.ob (bI u' 205 1 (es.length+1) (gr es++[.slice ay p.length cy]))::X::F) Xi);refine Zz (a:=i) (b:=n) (by omega) ?_;refine⟨⟨u',es++[(.slice ay p.length cy,p)],i+n,rfl,by omega,by simp;omega,?_,?_,?_⟩,?_⟩
  ·rw[<- h1,<- ww2];simp[oL]
  ·rw[<- h2,<- ww2];simp only;omega
  ·rw[show (es++[((Value.slice ay p.length cy,p):nS)]).length=es.length+1 by simp,show gr (es++[((Value.slice ay p.length cy,p):nS)])=gr es++[.slice ay p.length cy] by simp[gr]];exact aW hS
  simp only[zzw];omega
def a_1{n:Nat}(h:n<=1099511627776):n_ [⟨1,n,⟨#[]⟩⟩]= .ok (dN n):=by
 have e:vU (n:Int)=(n:Int):=by unfold vU;omega
 unfold n_;rw[zzb (by simp),zzc (by simp[oC])];show Except.ok (eQ ((1:Nat):Int) 2++(fr ⟨1,n,⟨#[]⟩⟩++[]))=_;unfold fr;rw[zzc rfl,e];show Except.ok ([gO ((1:Int).fdiv (2 ^ (8*1))),gO ((1:Int).fdiv (2 ^ (8*0)))]++(gO 1::eQ n 8++[]))=_;rw[zzx];rfl
def Gy(n:Int)(r:Ε)(post:Β):Prop:=if n<1\/1099511627776<n then r= .tuple #[Θ,Γ 1]/\post=[] else ∃u,r= .tuple #[u,Γ 0]/\post=[.ob (bI u 5 1 (cZ (dN n.toNat)).length ((cZ (dN n.toNat)).map cX))]
def Y7(n:Int):SP 333 [Γ n] [] (Gy n):=by
 refine Enzz λW F w hS=>?_;apply cIk;delta Ox aI ai cP bR;unfold Gy;refine bY (λh=>?_) (λh=>?_)
 ·exact⟨[],by rw[zzc (.inl h)];exact⟨rfl,rfl⟩,hS⟩
 refine bY (λh2=>?_) (λh2=>?_)
 ·exact⟨[],by rw[zzc (.inr h2)];exact⟨rfl,rfl⟩,hS⟩
 obtain⟨k,rfl⟩:=wwb (show 0<=n by omega);have hx:=a_1 (n:=k) (by omega);refine yX (cells:=gd ⟨1,k,⟨#[]⟩⟩) rfl ?_;refine zN (cells:=gd ⟨1,k,⟨#[]⟩⟩) hS rfl ?_;clear hS;intro p w hS;refine Cc (yF (.pt p (gd ⟨1,k,⟨#[]⟩⟩) 327) _ [⟨1,k,⟨#[]⟩⟩] (rQ.pt rfl) (by simp)) ?_;clear hS;intro v post hQ w hS;unfold rM at hQ;rw[hx]at hQ
 obtain⟨u,rfl,rfl⟩:=hQ;(try simp only[app]at hS);refine Gp ?_
 refine za (λh=>absurd rfl h) (λ_=>?_);refine Cc (Z9 (.ob (bI u 5 1 (dN k).length ((dN k).map cX))) u (dN k) dP.own (by rw[AK];omega)) ?_;clear hS;intro v post hQ w hS;unfold sQ at hQ;rw[zzb (by rw[AK];omega)]at hQ
 obtain⟨y,rfl,rfl⟩:=hQ;(try simp only[app]at hS);refine Gp ?_
 refine⟨[.ob (bI y 5 1 (cZ (dN k)).length ((cZ (dN k)).map cX))],?_,aW hS⟩;rw[zzb (by omega)];exact⟨y,rfl,rfl⟩
abbrev K7(rp:Nat)(lv:Ε)(n f:Int)(es:List nS):Β:=[.pt rp [lv,Γ n,Γ f] 441,.ob (bI lv 205 1 es.length (gr es)),.ob (ze gF es)]
def pL(es:List nS):Option Int:=match es with
 | []=>none
 | e::_=>oX e.2
def Yg(rp:Nat)(lv:Ε)(n f:Int)(es:List nS):SP 323 [Δ rp] (K7 rp lv n f es) (cC (.bool (pL es).isSome) (K7 rp lv n ((pL es).getD f) es)):=by
 refine Enzz λW F w hS=>?_;apply cH9;delta Oj aI a_ cV bV cw ai;refine Gp ?_;refine zt hS (t:=205) (sz:=1) (n:=es.length) (cells:=gr es) Xh ?_;refine bY (λh=>?_) (λh=>?_)
 ·have:es=[]:=zzp (by omega);subst this;exact⟨_,⟨rfl,rfl⟩,hS⟩
 obtain⟨e,es,rfl⟩:∃e iK,es=e::iK:=by
  cases es with
  | nil=>simp at h
  | cons e iK=>exact⟨e,iK,rfl⟩
 refine Gp ?_;refine yg (j:=0) hS (t:=205) (n:=(e::es).length) (cells:=gr (e::es)) Xh (by simp) (u:=e.1) rfl ?_;have hS:=ze.take (t:=0) (x:=e) (SL.bZ hS (t:=.ob (ze gF (e::es))::.pt rp [lv,Γ n,Γ f] 441::.ob (bI lv 205 1 (e::es).length (gr (e::es)))::F) Xi) rfl;have mQ:∀{w:Ζ} {k:Int},SL W (.ob (gF e)::.ob (ze gF ((e::es).eraseIdx 0))::.pt rp [lv,Γ n,Γ k] 441::.ob (bI lv 205 1 (e::es).length (gr (e::es)))::F) w ->
   SL W (.pt rp [lv,Γ n,Γ k] 441::.ob (bI lv 205 1 (e::es).length (gr (e::es)))::.ob (ze gF (e::es))::F) w:=λ{w k} h=>by
  have h2:SL W (.ob (ze gF (e::es))::.pt rp [lv,Γ n,Γ k] 441::.ob (bI lv 205 1 (e::es).length (gr (e::es)))::F) w:=ze.put h (by simp);exact SL.bZ h2 Xi
 have hR:dP (.ob (gF e)) e.1 e.2:=dP.own;refine Cc (yE (.ob (gF e)) e.1 e.2 hR) ?_;clear hS;intro v post hQ w hS;unfold vW at hQ;have hh:pL (e::es)=oX e.2:=rfl;rw[hh];unfold oX;cases hd:jz e.2 with
 | error k=>
  rw[hd]at hQ
  obtain⟨rfl,rfl⟩:=hQ;(try simp only[app]at hS);refine Gp ?_
  have hk:k≠0:=by
   intro hk;rw[Hz]at hd
   split at hd
   ·cases hd
   rename_i h0;cases hd;exact h0 hk
  refine za (λ_=>?_) (λh=>absurd hk h);exact⟨_,⟨rfl,rfl⟩,mQ hS⟩
 | ok l=>
  rw[hd]at hQ
  obtain⟨y,rfl,rfl⟩:=hQ;(try simp only[app]at hS);refine Gp ?_
  refine za (λh=>absurd rfl h) (λ_=>?_);refine zt hS (t:=327) (sz:=3) (n:=l.length) (cells:=(l.map gd).flatten) Xh ?_;refine bY (λh1=>?_) (λh1=>?_)
  ·have:E5 l=none:=by
    match l,h1 with
    | [],_=>rfl
    | [x],h1=>simp at h1
    | _::_::_,_=>rfl
   simp only[this];exact⟨_,⟨rfl,rfl⟩,mQ (k:=f) (aW hS)⟩
  obtain⟨x,rfl⟩:∃x,l=[x]:=List.length_eq_one_iff.1 (by omega);have hx:E5 [x]=if x.kind=1/\1<=x.n/\x.n<=1099511627776 then some x.n else none:=rfl
  simp only[hx];refine yh (j:=0) (i:=0) (x:=x) (xs:=[x]) hS (t:=327) (sz:=3) (n:=1) Xh Ci rfl (by omega) (u:=Γ x.kind) rfl ?_;refine bY (λh2=>?_) (λh2=>?_)
  ·rw[zzb (by omega)];exact⟨_,⟨rfl,rfl⟩,mQ (k:=f) (aW hS)⟩
  refine yh (j:=0) (i:=1) (x:=x) (xs:=[x]) hS (t:=327) (sz:=3) (n:=1) Xh Ci rfl (by omega) (u:=Γ x.n) rfl ?_;refine bY (λh3=>?_) (λh3=>?_)
  ·rw[zzb (by omega)];exact⟨_,⟨rfl,rfl⟩,mQ (k:=f) (aW hS)⟩
  refine yh (j:=0) (i:=1) (x:=x) (xs:=[x]) hS (t:=327) (sz:=3) (n:=1) Xh Ci rfl (by omega) (u:=Γ x.n) rfl ?_;refine bY (λh4=>?_) (λh4=>?_)
  ·rw[zzb (by omega)];exact⟨_,⟨rfl,rfl⟩,mQ (k:=f) (aW hS)⟩
  rw[zzc ⟨by omega,by omega,by omega⟩];refine yh (j:=0) (i:=1) (x:=x) (xs:=[x]) hS (t:=327) (sz:=3) (n:=1) Xh Ci rfl (by omega) (u:=Γ x.n) rfl ?_;refine Gn λw hS=>?_;exact⟨_,⟨rfl,rfl⟩,mQ (k:=x.n) (aW hS)⟩
def D2(X:Μ)(q:Φ)(r:Ε)(post:Β):Prop:=match gP q with
 | none=>r= .tuple #[Γ 0,Θ,Γ 0,Γ 3]/\post=[X]
 | some (f,l,n)=>∃(u:Ε) (es:List nS),oL es=l/\r= .tuple #[Γ f,u,Γ (n:Nat),Γ 0]/\post=[.ob (dq u 205 1 es.length (gr es)),.ob (ze gF es),X]
def cwu(es:List nS)(n:Nat):Option (Int × List (Φ) × Nat):=match es with
 | []=>none
 | e::iK=>(oX e.2).map λk=>(k,oL iK,n)
def cwx{q:Φ}{es:List nS}(he:oL es=(jh q).1):gP q=cwu es (jh q).2:=by
 unfold gP;rw[<- he];cases es with
 | nil=>rfl
 | cons e es=>rfl
def Y8(X:Μ)(v:Ε)(q:Φ)(hq:dP X v q)(hN:q.length<=10000000000):SP 270 [v] [X] (D2 X q):=by
 refine Enzz λW F w hS=>?_;apply cG1;delta ND bU aR bV cL ai bR;refine Cc (czw X v q hq hN) ?_;clear hS;rintro r post ⟨u,es,he,rfl,rfl⟩ w hS;(try simp only[app]at hS);have tz:=hS.rD .hd;obtain⟨au,cu,eu,_⟩:=bI.at hS .hd;subst eu;refine Gp ?_;refine⟨_,rfl,zE hS ?_⟩;clear hS;intro rp w hS;have hS:SL W (.pt rp [.slice au es.length cu,Γ ((jh q).2:Nat),Γ 0] 441::.ob (bI (.slice au es.length cu) 205 1 es.length (gr es))::.ob (ze gF es)::X::F) w:=hS;refine Cc (Yg rp (.slice au es.length cu) ((jh q).2:Nat) 0 es) ?_;clear hS;rintro v post ⟨rfl,rfl⟩ w hS;(try simp only[app]at hS);refine z7 ?_;have hr:=cwx he;cases hd:pL es with
 | none=>
  refine zq ?_;refine⟨[X],?_,aW hS⟩;unfold D2;have:gP q=none:=by
   rw[hr];cases es with
   | nil=>rfl
   | cons e es=>have hd:oX e.2=none:=hd;show (oX e.2).map _=none;rw[hd];rfl
  rw[this];exact⟨rfl,rfl⟩
 | some k=>
  refine zp ?_;cases es with
  | nil=>cases hd
  | cons e es=>
   have hd:oX e.2=some k:=hd;have hr:gP q=some (k,oL es,(jh q).2):=by
    rw[hr];show (oX e.2).map _=_;rw[hd];rfl
   rw[show (pL (e::es)).getD 0=k by show (oX e.2).getD 0=k;rw[hd];rfl]at hS
   refine Gn λw hS=>?_;have hS:=ze.take (t:=0) (x:=e) (SL.bZ hS (t:=.ob (ze gF (e::es))::.pt rp [.slice au (e::es).length cu,Γ ((jh q).2:Nat),Γ k] 441::.ob (bI (.slice au (e::es).length cu) 205 1 (e::es).length (gr (e::es)))::X::F) Xi) rfl;have hS:=dq.of (SL.bZ hS (t:=.ob (bI (.slice au (e::es).length cu) 205 1 (e::es).length (gr (e::es)))::.pt rp [.slice au (e::es).length cu,Γ ((jh q).2:Nat),Γ k] 441::.ob (ze gF ((e::es).eraseIdx 0))::X::F) Xi);refine Yd (k:=1) hS (by simp) ?_;clear hS;intro y hS;have e1:(e::es).length-1=es.length:=by simp
   have e2:(gr (e::es)).drop (1*1)=gr es:=rfl;have e3:(e::es).eraseIdx 0=es:=rfl;rw[e1,e2,e3]at hS
   refine Gp ?_;refine⟨[.ob (dq y 205 1 es.length (gr es)),.ob (ze gF es),X],?_,aW hS⟩;unfold D2;rw[hr];exact⟨y,es,rfl,rfl,rfl⟩
section
variable {W w:Ζ} {l:Β} {X:Μ} {v:Ε} {sz n:Nat}
end
abbrev kf(u:Ε)(L:List dD):Μ:=.ob (bI u 327 3 L.length (L.map gd).flatten)
def bw3(L:List dD):∀v∈(L.map gd).flatten,v.oneCell'=true:=tK Sd L
def ya{W w:Ζ}{l F:Β}{x y:Ε}{L M:List dD}{K:Ε->Ζ->Prop}(hS:SL W l w)(hr:fY (kf x L) l F)(iw:kE w 3 y M.length (M.map gd).flatten)(hb:L.length+M.length<=1000000)
  (h:∀v' w',SL W (kf v' (L++M)::F) w'->K v' w'):zx 3 32 [Γ 0,Γ 0,.string ⟨#[]⟩] 327 x y w K:=
 zJ hS hr iw (oP HK M) rfl (bw3 M) (by omega) (by omega) λv' w' hS=>h v' w' (by
  have e:((L++M).map gd).flatten=(L.map gd).flatten++(M.map gd).flatten:=by simp
  show SL W (.ob (bI v' 327 3 (L++M).length ((L++M).map gd).flatten)::F) w';rw[e,zza];exact hS)
def Gh{W w:Ζ}{l:Β}{b:Nat}{x:dD}(hS:SL W l w)(m:Has (.pt b (gd x) 327) l):kE w 3 (.slice (some ⟨b,0,none⟩) 1 1) [x].length ([x].map gd).flatten:=by
 simpa using j8 (m:=1) (sz:=3) (cap:=1) hS m rfl
section
variable (b:Nat) (x1 x2 x3 x4 x5 x6 x7:Int) (t:Ι)
def FH:SP 215 [.slice (some ⟨b,0,none⟩) 1 1] [.pt b [Γ x1] t] (λu post=>post=[kf u [iF x1]]):=yJ b [x1] t (by simp)
def UK:SP 215 [.slice (some ⟨b,0,none⟩) 2 2] [.pt b [Γ x1,Γ x2] t] (λu post=>post=[kf u [iF x1,iF x2]]):=yJ b [x1,x2] t (by simp)
def UL:SP 215 [.slice (some ⟨b,0,none⟩) 4 4] [.pt b [Γ x1,Γ x2,Γ x3,Γ x4] t] (λu post=>post=[kf u [iF x1,iF x2,iF x3,iF x4]]):=yJ b [x1,x2,x3,x4] t (by simp)
def bWk:SP 215 [.slice (some ⟨b,0,none⟩) 7 7] [.pt b [Γ x1,Γ x2,Γ x3,Γ x4,Γ x5,Γ x6,Γ x7] t] (λu post=>post=[kf u [iF x1,iF x2,iF x3,iF x4,iF x5,iF x6,iF x7]]):=yJ b [x1,x2,x3,x4,x5,x6,x7] t (by simp)
end
def BI(H:bw)(t:cD)(u:Ε)(post:Β):Prop:=match ud t with
 | .error e=>u= .tuple #[Θ,Γ e]/\post=[.mem H]
 | .ok b=>∃v,u= .tuple #[v,Γ 0]/\post=[.ob (bI v 5 1 b.length (b.map cX)),.mem H]
def pD(t:cD)(i:Nat):List dD:=[iF t.aw,iF t.ops.length]++((t.ops.take i).map pG).flatten
def p9(t:cD)(i:Nat):List dD:=pD t t.ops.length++[iF t.notes.length]++((t.notes.take i).map pF).flatten
def bwt{t:cD}{i:Nat}(h:i<t.ops.length):pD t (i+1)=pD t i++pG t.ops[i]:=by
 unfold pD;rw[zze h,zzs,yys,xx7,wwx,zzk]
def bww{t:cD}{i:Nat}(h:i<t.notes.length):p9 t (i+1)=p9 t i++pF t.notes[i]:=by
 unfold p9;rw[zze h,zzs,yys,xx7,wwx,<- zzk]
def bwu(t:cD):p9 t t.notes.length=kV t:=by
 unfold p9 pD kV;simp
def Cn{α β:Type}{f:α->List β}{n:Nat}(hn:∀x,(f x).length=n)(xs:List α):((xs.map f).flatten).length=xs.length*n:=by
 induction xs with
 | nil=>simp
 | cons x xs ih=>simp[hn,ih,yyz];omega
def Sp(t:cD)(i:Nat):(pD t i).length<=2+5*i:=by
 unfold pD;rw[zza,Cn (n:=5) (λ_=>rfl),zzf];simp;omega
def bwv(t:cD)(i:Nat):(p9 t i).length<=3+5*t.ops.length+7*i:=by
 have:=Sp t t.ops.length;unfold p9;rw[zza,zza,Cn (n:=7) (λ_=>rfl),zzf];simp;omega
def YJ(H:bw)(x:iA)(t:cD)(hx:gZ H x t):SP 227 [agg (eJ x)] [.mem H] (BI H t):=by
 refine Enzz λW F w hS=>?_;apply cF9;delta M_ aI a_ aR cL ai cP bR;refine zw hS λxb w hS=>?_;refine Gp ?_;refine Cg (zZ H x t hx) λw hS=>?_;refine zu (λh=>?_) (λhm=>?_)
 ·exact⟨[.mem H],by unfold BI ud;rw[h];exact⟨rfl,rfl⟩,aW hS⟩
 have hb:=(oy.1 hm).1;unfold eJ at hS;rw[hx.aw]at hS
 refine Gp ?_;refine zo hx.ops ?_;refine Gm λb w hS=>?_;refine Cc (UK b t.aw t.ops.length 2) ?_;clear hS;rintro u post rfl w hS;(try simp only[app]at hS);refine Gp ?_
 refine zo hx.ops ?_;have hS:SL W (kf u (pD t 0)::_) _:=hS;refine⟨λvs w=>∃(i:Nat) (u:Ε),vs=[u,Γ i]/\i<=t.ops.length/\SL W (kf u (pD t i)::.pt xb [Γ t.aw,x.ov,x.nv] 214::.mem H::F) w,
  λvs _=>match vs with|[_,.int _ i]=>(t.ops.length-i).toNat|_=>0,⟨0,_,rfl,by omega,aW hS⟩,?_⟩
 clear hS;rintro u v3 w ⟨i,_,eP,hi,hS⟩;cases eP;have se:=Sp t i;refine bY (λh=>?_) (λh=>?_)
 ·have cx:i<t.ops.length:=by omega
  have hs:=bwt cx;refine zD hS Xh wJ hx.ops (x:=t.ops[i]) (by simp[cx]) cx ?_;generalize t.ops[i]=o at *
  obtain⟨ol,ot,ok,og,ov⟩:=o;refine Gm λb w hS=>?_;unfold jB at hS;refine Cg (Zy og) λw hS=>?_;refine Gm λb w hS=>?_;refine Cc (UL b ol ot ok (gS og) 2) ?_;clear hS;rintro u2 post rfl w hS;try simp only[app]at hS
  refine ya (L:=pD t i) hS Xr (mZ hS Xh) (by simp;omega) λu3 w hS=>?_;refine Gp ?_;refine Cg (yO ov) λw hS=>?_;refine Gm λb w hS=>?_;refine ya (M:=[tF ov]) hS Xr (Gh hS Xh) (by simp;omega) λu4 w hS=>?_;refine Gp ?_;refine⟨⟨i+1,_,rfl,by omega,?_⟩,by dsimp only;omega⟩;rw[hs];simp only[zzk]at hS;have hS:SL W (kf _ (pD t i++pG ⟨ol,ot,ok,og,ov⟩)::_) _:=hS;exact aW hS
 have jL:i=t.ops.length:=by omega
 subst jL;refine Gp ?_;refine zo hx.iN ?_;refine Gm λb w hS=>?_;refine Cc (FH b t.notes.length 2) ?_;clear hS;rintro u2 post rfl w hS;try simp only[app]at hS
 refine ya (L:=pD t t.ops.length) hS Xr (mZ hS Xh) (by simp;omega) λu3 w hS=>?_;refine Gp ?_;refine zo hx.iN ?_;refine⟨λvs w=>∃(i:Nat) (u:Ε),vs=[u,Γ i]/\i<=t.notes.length/\SL W (kf u (p9 t i)::.pt xb [Γ t.aw,x.ov,x.nv] 214::.mem H::F) w,
  λvs _=>match vs with|[_,.int _ i]=>(t.notes.length-i).toNat|_=>0,⟨0,u3,rfl,by omega,?_⟩,?_⟩
 ·rw[show p9 t 0=pD t t.ops.length++[iF t.notes.length] by unfold p9;simp];exact aW hS
 clear hS;rintro u v3 w ⟨i,_,eP,hi,hS⟩;cases eP;have EO:=bwv t i;refine bY (λh=>?_) (λh=>?_)
 ·have cx:i<t.notes.length:=by omega
  have hs:=bww cx;refine zD hS Xh wI hx.iN (x:=t.notes[i]) (by simp[cx]) cx ?_;generalize t.notes[i]=o at *
  obtain⟨n1,n2,n3,n4,n5,n6,n7⟩:=o;refine Gm λb w hS=>?_;unfold kI at hS;refine Cg (Zy n7) λw hS=>?_;refine Gm λb w hS=>?_;refine Cc (bWk b n1 n2 n3 n4 n5 n6 (gS n7) 2) ?_;clear hS;rintro u2 post rfl w hS;try simp only[app]at hS
  refine ya (L:=p9 t i) hS Xr (mZ hS Xh) (by simp;omega) λu3 w hS=>?_;refine Gp ?_;refine⟨⟨i+1,_,rfl,by omega,?_⟩,by dsimp only;omega⟩;rw[hs];have hS:SL W (kf _ (p9 t i++pF ⟨n1,n2,n3,n4,n5,n6,n7⟩)::_) _:=hS;exact aW hS
 have jL:i=t.notes.length:=by omega
 subst jL;rw[bwu]at hS EO
 refine Cc (yF (kf u (kV t)) u (kV t) rQ.own (by omega)) ?_;clear hS;rintro r post hq w hS;try simp only[app]at hS
 unfold rM at hq;unfold BI ud;rw[hm,zzc rfl];cases he:n_ (kV t) with
 | error e=>
  rw[he]at hq
  obtain⟨rfl,rfl⟩:=hq;(try simp only[app]at hS);refine Gp ?_
  exact cA hS
 | ok bs=>
  rw[he]at hq
  obtain⟨v,rfl,rfl⟩:=hq;(try simp only[app]at hS);refine Gp ?_
  exact⟨_,⟨v,rfl,rfl⟩,aW hS⟩
section
variable (a b c d e f g:dD)
end
def pE(c:eh):List dD:=[iF c.table,iF c.key,iF (gS c.gone),tF c.val]
section
variable {α β γ:Type}
def tM(p:cY->α × cY)(f:α->cY->β × cY)(r:cY):(α × β) × cY:=(((p r).1,(f (p r).1 (p r).2).1),(f (p r).1 (p r).2).2)
def xK(g:α->β)(p:cY->α × cY)(r:cY):β × cY:=(g (p r).1,(p r).2)
end
def Bu{m:Int}(hm:0<=m)(r:cY):0<=(dB m r).1/\(dB m r).1<=m:=by
 unfold dB;split
 ·exact⟨yyd _,hm⟩
 omega
def bX1{α:Type}(one:cY->α × cY){i:Nat}{r:cY}(h:i=0\/r.bad=true):iR one i r=([],r):=by
 cases i with
 | zero=>rfl
 | succ i=>unfold iR;rw[zzc (by rcases h with h|h;cases h;exact h)]
def bX0{α:Type}(one:cY->α × cY){i:Nat}{r:cY}(h:r.bad=false):iR one (i+1) r=((one r).1::(iR one i (one r).2).1,(iR one i (one r).2).2):=by
 conv=>lhs;unfold iR
 rw[zzb (by rw[h];decide)]
structure pj{α:Type}(one:cY->α × cY)(n:Nat)(r0:cY)(xs:List α)(k:Nat)(r:cY):Prop where
 eq:iR one n r0=(xs++(iR one k r).1,(iR one k r).2)
 le:xs.length+k<=n
def pj.start{α:Type}(one:cY->α × cY)(n:Nat)(r:cY):pj one n r [] n r:=⟨rfl,by simp⟩
def pj.step{α:Type}{one:cY->α × cY}{n:Nat}{r0:cY}{xs:List α}{k:Nat}{r:cY}(h:pj one n r0 xs (k+1) r)(hb:r.bad=false):pj one n r0 (xs++[(one r).1]) k (one r).2:=
 ⟨by rw[h.eq,bX0 one hb];simp,by have:=h.le;rw[zza,zz7];omega⟩
def pj.stop{α:Type}{one:cY->α × cY}{n:Nat}{r0:cY}{xs:List α}{k:Nat}{r:cY}(h:pj one n r0 xs k r)(hb:k=0\/r.bad=true):iR one n r0=(xs,r):=by
 rw[h.eq,bX1 one hb,zzx]
def b_6(rp:Nat)(r:cY):SP 273 [Δ rp] [.ob (fe rp r)] (cC (agg (jB (nO r).1)) [.ob (fe rp (nO r).2)]):=by
 refine Enzz λW F w hS=>?_;apply cG4;delta NH ai cP;refine Gm λb w hS=>?_;refine Cg (zP rp r) λw hS=>?_;refine Cg (zy rp (fu r).2 8) λw hS=>?_;refine Cg (zP rp _) λw hS=>?_;refine Cg (Za rp _) λw hS=>?_;refine Cg (yG rp _) λw hS=>?_;simp only[nO];exact cA hS
def QL(rp:Nat)(r:cY):SP 274 [Δ rp] [.ob (fe rp r)] (cC (agg (kI (o_ r).1)) [.ob (fe rp (o_ r).2)]):=by
 refine Enzz λW F w hS=>?_;apply cG5;delta NI ai;refine Gm λb w hS=>?_;refine Cg (zy rp r 2) λw hS=>?_;refine Cg (zy rp _ 64) λw hS=>?_;refine Cg (zy rp _ 8) λw hS=>?_;refine Cg (zy rp _ 8) λw hS=>?_;refine Cg (zP rp _) λw hS=>?_;refine Cg (zP rp _) λw hS=>?_;refine Cg (Za rp _) λw hS=>?_;simp only[o_];exact cA hS
def vV(X:Μ)(H:bw)(b:Φ)(u:Ε)(post:Β):Prop:=match nA b with
 | .error e=>e≠0/\∃H',H.le H'/\u= .tuple #[agg (eJ ⟨0,Θ,Θ⟩),Γ e]/\post=[X,.mem H']
 | .ok t=>∃x H',H.le H'/\u= .tuple #[agg (eJ x),Γ 0]/\gZ H' x t/\post=[X,.mem H']
def aWp{b:Φ}{e:Int}(h:jz b= .error e):nA b= .error e:=by unfold nA;rw[h]
def aWr{b:Φ}{l:List dD}(h:jz b= .ok l)(h2:¬((nL ⟨l,false⟩).2.bad=false/\(nL ⟨l,false⟩).2.l=[]/\ep (nL ⟨l,false⟩).1=true)):nA b= .error 3:=by
 unfold nA Ak;rw[h];simp only;rw[zzb h2]
def aWq{b:Φ}{l:List dD}(h:jz b= .ok l)(h2:(nL ⟨l,false⟩).2.bad=false/\(nL ⟨l,false⟩).2.l=[]/\ep (nL ⟨l,false⟩).1=true):nA b= .ok (nL ⟨l,false⟩).1:=by
 unfold nA Ak;rw[h];simp only;rw[zzc h2]
def HA{b:Φ}{e:Int}(h:jz b= .error e):e≠0:=by
 rw[Hz]at h
 split at h
 ·cases h
 rename_i h2;cases h;exact h2
abbrev nj(v:Ε)(l:List gl):Μ:=.ob (bI v 390 5 l.length (l.map jB).flatten)
abbrev ni(v:Ε)(l:List il):Μ:=.ob (bI v 393 7 l.length (l.map kI).flatten)
structure GA(l:List dD)(aw:Int)(r1:cY):Prop where
 aw:(nL ⟨l,false⟩).1.aw=aw
 ops:(nL ⟨l,false⟩).1.ops=(iR nO (dB 4096 r1).1.toNat (dB 4096 r1).2).1
 iN:∀r2,(iR nO (dB 4096 r1).1.toNat (dB 4096 r1).2).2=r2->(nL ⟨l,false⟩).1.notes=(iR o_ (dB 256 r2).1.toNat (dB 256 r2).2).1/\(nL ⟨l,false⟩).2=(iR o_ (dB 256 r2).1.toNat (dB 256 r2).2).2
def GA.is(l:List dD):GA l (fu ⟨l,false⟩).1 (fu ⟨l,false⟩).2:=⟨rfl,rfl,λr2 h=>by subst h;exact⟨rfl,rfl⟩⟩
def YI(X:Μ)(H:bw)(v:Ε)(bs:Φ)(hv:dP X v bs):SP 201 [v] [X,.mem H] (vV X H bs):=by
 refine Enzz λW F w hS=>?_;apply cFj;delta MI aI aR cL ai cP bR;refine Gb λzb w hS=>?_;refine Cc (yE X v bs hv) ?_;clear hS;rintro r post hq w hS;unfold vW at hq;cases hd:jz bs with
 | error e=>
  rw[hd]at hq
  obtain⟨rfl,rfl⟩:=hq;have he:=HA hd;(try simp only[app]at hS);refine Gp ?_
  refine za (λ_=>?_) (λh=>absurd he h);refine Gn λw hS=>?_;exact⟨[X,.mem H],by unfold vV;rw[aWp hd];exact⟨he,H,bw.le_refl H,rfl,rfl⟩,aW hS⟩
 | ok l=>
  rw[hd]at hq
  obtain⟨lv,rfl,rfl⟩:=hq;(try simp only[app]at hS);refine Gp ?_
  refine za (λh=>absurd rfl h) (λ_=>?_);refine Cc (Zb lv l) ?_;clear hS;rintro _ post ⟨rp,rfl,rfl⟩ w hS;try simp only[app]at hS
  refine Cc (zP rp ⟨l,false⟩) ?_;clear hS;rintro v1 post ⟨rfl,rfl⟩ w hS;try simp only[app]at hS
  have hI:=GA.is l;generalize (fu ⟨l,false⟩).1=aw at *
  generalize (fu ⟨l,false⟩).2=r1 at *
  have nG:=Bu (m:=4096) (by decide) r1;refine Gp ?_;refine Gb λxb w hS=>?_;have hS:SL W (nj Θ []::_) _:=bI.nil hS;have hS:SL W (ni Θ []::_) _:=bI.nil hS;refine⟨λus w=>us=[]/\∃ov,SL W (nj ov (iR nO (dB 4096 r1).1.toNat (dB 4096 r1).2).1::.ob (fe rp (iR nO (dB 4096 r1).1.toNat (dB 4096 r1).2).2)::ni Θ []::.pt xb [Γ aw,ov,Θ] 214::.pt zb [Γ 0,Θ,Θ] 214::X::.mem H::F) w,?_,?_⟩
  ·refine Cc (zy rp r1 4096) ?_;clear hS;rintro v1 post ⟨rfl,rfl⟩ w hS;try simp only[app]at hS
   generalize (dB 4096 r1).1=n1 at *
   generalize (dB 4096 r1).2=r2 at *
   refine⟨λus w=>∃(k:Nat) (ops:List gl) (r:cY) (ov:Ε),us=[Γ k]/\pj nO n1.toNat r2 ops k r/\SL W (nj ov ops::.ob (fe rp r)::ni Θ []::.pt xb [Γ aw,ov,Θ] 214::.pt zb [Γ 0,Θ,Θ] 214::X::.mem H::F) w,
    λus _=>match us with|[.int _ i]=>i.toNat|_=>0,⟨n1.toNat,[],r2,Θ,by rw[show ((n1.toNat:Nat):Int)=n1 by omega],pj.start _ _ _,aW hS⟩,?_⟩
   clear hS;rintro v8 w ⟨k,ops,r,ov,cO,hM,hS⟩;cases cO;have hle:=hM.le;refine bY (λh=>?_) (λh=>?_)
   ·refine Cg (y8 rp r) λw hS=>?_;refine zu (λhb=>?_) (λhb=>?_)
    ·obtain⟨k,rfl⟩:∃j,k=j+1:=⟨k-1,by omega⟩;have hM:=hM.step hb;refine Gn λw hS=>?_;refine Cg (b_6 rp r) λw hS=>?_;refine Gm λb w hS=>?_;refine yy (n:=ops.length) (xs:=ops) (y:=(nO r).1) (enc:=jB) hS Xr Xh wJ (λx=>Cd x) rfl (by omega) (by omega) λu w hS=>?_;have h1:=bI.one hS;refine Gn λw hS=>?_;refine⟨⟨k,_,_,u,by rw[show ((k+1:Nat):Int)-1=(k:Int) by omega],hM,?_⟩,by dsimp only;omega⟩;have hS:=hS.pY (x:=(nO r).1);exact aW hS
    refine⟨rfl,ov,?_⟩;rw[hM.stop (.inr hb)];exact aW hS
   refine⟨rfl,ov,?_⟩;rw[hM.stop (.inl (by omega))];exact aW hS
  clear hS;rintro w ⟨_,ov,hS⟩;have dS:=hI.ops;obtain⟨bUo,dH⟩:=hI.iN _ rfl;generalize (iR nO (dB 4096 r1).1.toNat (dB 4096 r1).2).1=ops at *
  generalize (iR nO (dB 4096 r1).1.toNat (dB 4096 r1).2).2=r3 at *
  have xq:=Bu (m:=256) (by decide) r3;refine⟨λus w=>us=[]/\∃nv,SL W (ni nv (iR o_ (dB 256 r3).1.toNat (dB 256 r3).2).1::.ob (fe rp (iR o_ (dB 256 r3).1.toNat (dB 256 r3).2).2)::nj ov ops::.pt xb [Γ aw,ov,nv] 214::.pt zb [Γ 0,Θ,Θ] 214::X::.mem H::F) w,?_,?_⟩
  ·refine Cc (zy rp r3 256) ?_;clear hS;rintro v1 post ⟨rfl,rfl⟩ w hS;try simp only[app]at hS
   generalize (dB 256 r3).1=n1 at *
   generalize (dB 256 r3).2=r2 at *
   refine⟨λus w=>∃(k:Nat) (iN:List il) (r:cY) (nv:Ε),us=[Γ k]/\pj o_ n1.toNat r2 iN k r/\SL W (ni nv iN::.ob (fe rp r)::nj ov ops::.pt xb [Γ aw,ov,nv] 214::.pt zb [Γ 0,Θ,Θ] 214::X::.mem H::F) w,
    λus _=>match us with|[.int _ i]=>i.toNat|_=>0,⟨n1.toNat,[],r2,Θ,by rw[show ((n1.toNat:Nat):Int)=n1 by omega],pj.start _ _ _,aW hS⟩,?_⟩
   clear hS;rintro v8 w ⟨k,iN,r,nv,cO,hM,hS⟩;cases cO;have hle:=hM.le;refine bY (λh=>?_) (λh=>?_)
   ·refine Cg (y8 rp r) λw hS=>?_;refine zu (λhb=>?_) (λhb=>?_)
    ·obtain⟨k,rfl⟩:∃j,k=j+1:=⟨k-1,by omega⟩;have hM:=hM.step hb;refine Gn λw hS=>?_;refine Cg (QL rp r) λw hS=>?_;refine Gm λb w hS=>?_;refine yy (n:=iN.length) (xs:=iN) (y:=(o_ r).1) (enc:=kI) hS Xr Xh wI HH rfl (by omega) (by omega) λu w hS=>?_;have h1:=bI.one hS;refine Gn λw hS=>?_;refine⟨⟨k,_,_,u,by rw[show ((k+1:Nat):Int)-1=(k:Int) by omega],hM,?_⟩,by dsimp only;omega⟩;have hS:=hS.pY (x:=(o_ r).1);exact aW hS
    refine⟨rfl,nv,?_⟩;rw[hM.stop (.inr hb)];exact aW hS
   refine⟨rfl,nv,?_⟩;rw[hM.stop (.inl (by omega))];exact aW hS
  clear hS;rintro w ⟨_,nv,hS⟩;rw[<- bUo,<- dH,<- dS]at hS
  have kx:=hI.aw;generalize ht:(nL ⟨l,false⟩).1=t at *
  generalize hr:(nL ⟨l,false⟩).2=r at *
  obtain⟨H1,dj,hO,hS⟩:=bI.freeze (SL.bZ hS (t:=.mem H::nj ov t.ops::ni nv t.notes::.ob (fe rp r)::.pt xb [Γ aw,ov,nv] 214::.pt zb [Γ 0,Θ,Θ] 214::X::F) Xi);obtain⟨H2,dQ,hN,hS⟩:=bI.freeze hS;have hx:gZ H2 ⟨aw,ov,nv⟩ t:=⟨kx.symm,hO.mono dQ,hN⟩;have fA:=bw.le_trans dj dQ;refine Cg (y7 rp r) λw hS=>?_;have fp:¬(r.bad=false/\r.l=[]/\ep t=true)->∀{w:Ζ},SL W (X::.mem H2::F) w->∃post,vV X H bs (.tuple #[agg (eJ ⟨0,Θ,Θ⟩),Γ 3]) post/\SL W (app post F) w:=λh w hS=>⟨[X,.mem H2],by unfold vV;rw[aWr hd (by rw[ht,hr];exact h)];exact⟨by decide,H2,fA,rfl,rfl⟩,hS⟩;refine zu (λhb=>?_) (λhb=>?_)
  ·have hb:=yyw hb;refine Gn λw hS=>?_;exact fp (λh=>hb ⟨h.1,h.2.1⟩) (aW hS)
  have hb:=zzm hb;refine Gp ?_;refine Cg (zZ H2 ⟨aw,ov,nv⟩ t hx) λw hS=>?_;refine zu (λhm=>?_) (λhm=>?_)
  ·refine Gn λw hS=>?_;exact fp (λh=>by rw[h.2.2]at hm;cases hm) (aW hS)
  have h1:=mq hx;refine zA hS Xh rfl ?_;refine zr hS Xu rfl rfl h1 λw hS=>?_;refine Gp ?_;exact⟨[X,.mem H2],by unfold vV;rw[aWq hd (by rw[ht,hr];exact⟨hb.1,hb.2,hm⟩),ht];exact⟨⟨aw,ov,nv⟩,H2,fA,rfl,hx,rfl⟩,aW hS⟩
def jv(x:Nat × List Cell):zC:=jF λm:List (Int × Cell)=>zH (lT m x.2) [.ob (eC KI py x.1 m)]
def jv.iff{W w:Ζ}{x:Nat × List Cell}{l:Β}:SL W (.ob (jv x)::l) w↔∃m,lT m x.2/\SL W (.ob (eC KI py x.1 m)::l) w:=by
 unfold jv;simp only[SL.ex,SL.fact,zzu,zzq]
abbrev kB(b:Nat):Ε:=.map (some b)
def gm(r:Nat)(ts:List (List Cell)):zC:=jF λx:Nat × Nat × Ξ × Α=>zH (x.2.2.2.length=ts.length/\ts.length<=8/\sF ts)
 [.pt r [.slice (some ⟨x.1,0,none⟩) ts.length x.2.1] 148,.pt x.1 (x.2.2.2.map kB++x.2.2.1) 153,.ob (ze jv (x.2.2.2.zip ts))]
def gm.iff{W w:Ζ}{r:Nat}{ts:List (List Cell)}{l:Β}:SL W (.ob (gm r ts)::l) w↔∃(bv cap:Nat) (rest:Ξ) (bs:Α),(bs.length=ts.length/\ts.length<=8/\sF ts) /\
  SL W (.pt r [.slice (some ⟨bv,0,none⟩) ts.length cap] 148::.pt bv (bs.map kB++rest) 153::.ob (ze jv (bs.zip ts))::l) w:=by
 unfold gm;simp only[SL.ex,SL.fact,zzu,zzq];constructor
 ·rintro ⟨⟨bv,cap,rest,bs⟩,h1,h2⟩;exact⟨bv,cap,rest,bs,h1,h2⟩
 rintro ⟨bv,cap,rest,bs,h1,h2⟩;exact⟨⟨bv,cap,rest,bs⟩,h1,h2⟩
def XY:∀(bs:Α) (ts:List (List Cell)) (t:Nat) (b:Nat) (C:List Cell),bs[t]?=some b->(bs.zip ts).set t (b,C)=bs.zip (ts.set t C)
 | [],ts,t,b,C,h=>by simp at h
 | x::bs,[],t,b,C,h=>by simp
 | x::bs,y::ts,0,b,C,h=>by simp at h;subst h;simp
 | x::bs,y::ts,t+1,b,C,h=>by simp;exact XY bs ts t b C (by simpa using h)
def Aa.open{W w:Ζ}{bs:Α}{ts:List (List Cell)}{l:Β}{t:Nat}(ht:t<ts.length)(hb:t<bs.length)(h:SL W (.ob (ze jv (bs.zip ts))::l) w):
  ∃m,lT m ts[t]/\SL W (.ob (eC KI py bs[t] m)::.ob (ze jv ((bs.zip ts).eraseIdx t))::l) w:=
 jv.iff.1 (ze.take h (x:=(bs[t],ts[t])) (by simp[List.getElem?_zip_eq_some,hb,ht]))
def Aa.close{W w:Ζ}{bs:Α}{ts:List (List Cell)}{l:Β}{t:Nat}{C:List Cell}{m:List (Int × Cell)}(ht:t<ts.length)(hb:t<bs.length)(hm:lT m C)
  (h:SL W (.ob (eC KI py bs[t] m)::.ob (ze jv ((bs.zip ts).eraseIdx t))::l) w):SL W (.ob (ze jv (bs.zip (ts.set t C)))::l) w:=by
 have h1:SL W (.ob (jv (bs[t],C))::.ob (ze jv ((bs.zip ts).eraseIdx t))::l) w:=jv.iff.2 ⟨m,hm,h⟩;have h2:=ze.put h1 (by simp;omega)
 rwa [XY bs ts t bs[t] C (by simp[hb])]at h2
def qu(a:Option Addr)(n cap:Nat)(t:Int):SP 81 [.slice a n cap,Γ t] [] (cC (.bool (decide (0<=t/\t<n))) []):=by
 refine Enzz λW F w hS=>?_;apply cKh;delta Py aI cw ai;refine bY (λh=>?_) (λh=>?_)
 ·refine Gp ?_;have:(decide (t<(n:Int)))=decide (0<=t/\t<n):=by simp[h]
  rw[this];(exact cA hS)
 have:(decide (0<=t/\t<(n:Int)))=false:=by simp;omega
 rw[this];(exact cA hS)
def Qw(bv cap:Nat)(rest:Ξ)(bs:Α)(ts:List (List Cell))(o:gl)(hb:bs.length=ts.length):
  SP 329 [.slice (some ⟨bv,0,none⟩) ts.length cap,agg (jB o)] [.pt bv (bs.map kB++rest) 153,.ob (ze jv (bs.zip ts))]
   (cC (.bool (lL ts o).2) [.pt bv (bs.map kB++rest) 153,.ob (ze jv (bs.zip (lL ts o).1))]):=by
 refine Enzz λW F w hS=>?_;apply cIf;delta Oq aI a_ aR cL cw ai cP;obtain⟨aw,table,key,gone,val⟩:=o;refine⟨_,rfl,zE hS ?_⟩;clear hS;intro p w hS;simp only[jB]at hS;refine Gp ?_;refine Cg (qu (some ⟨bv,0,none⟩) ts.length cap table) λw hS=>?_;refine zu (λhe=>?_) (λhe=>?_)
 ·have hp:lL ts ⟨aw,table,key,gone,val⟩=(ts,false):=by
   simp only[yy7]at he;unfold lL;by_cases h0:table<0
   ·simp[h0]
   have:ts[table.toNat]?=none:=yyr (by omega);simp[h0,this]
  rw[hp];(exact cA hS)
 have l7:=zzm he;obtain⟨t,rfl⟩:∃t:Nat,table=t:=⟨table.toNat,by omega⟩;have ht:t<ts.length:=by omega
 have tC:t<bs.length:=by omega
 have w8:(bs.map kB++rest)[0+t*1]?=some (kB bs[t]):=by simp[zzt,tC]
 obtain⟨m,hm,hS⟩:=Aa.open ht tC (SL.bZ hS (t:=.ob (ze jv (bs.zip ts))::.pt p [Γ aw,Γ t,Γ key,.bool gone,.string val] 390::.pt bv (bs.map kB++rest) 153::F) Xi);refine⟨λvs w=>vs=[]/\(∀c,p_ ts[t] key=some c->¬aw<c.aw)/\SL W (.ob (eC KI py bs[t] m)::.ob (ze jv ((bs.zip ts).eraseIdx t))::.pt p [Γ aw,Γ t,Γ key,.bool gone,.string val] 390::.pt bv (bs.map kB++rest) 153::F) w,?_,?_⟩
 ·refine yA hS ?_;clear hS;intro w hS;refine Gp ?_;refine zG ht (zV hS Xh w8 ?_);refine Gp ?_;refine Y2 (z:=agg (ks ⟨0,0,false,⟨#[]⟩⟩)) hS Xh (o9 .i64) vvl yyv uus ?_;rw[hm.get];cases hg:p_ ts[t] key with
  | none=>
   simp only[vvp,ww0,uu5];refine Gm λb w hS=>?_;refine zV hS Xh w8 (QU ?_);refine Gp ?_;refine Y2 (z:=agg (ks ⟨0,0,false,⟨#[]⟩⟩)) hS Xh (o9 .i64) vvl yyv uus ?_;rw[hm.get,hg];simp only[vvp,ww0,uu5];refine⟨trivial,?_⟩;simp only[ks];refine Gn λw hS=>?_;exact⟨by simp,λc hc=>(by cases hc),(by exact aW hS)⟩
  | some c=>
   simp only[yyf,xxd,uu6];refine Gm λb w hS=>?_;refine zV hS Xh w8 (QU ?_);refine Gp ?_;refine Y2 (z:=agg (ks ⟨0,0,false,⟨#[]⟩⟩)) hS Xh (o9 .i64) vvl yyv uus ?_;rw[hm.get,hg];simp only[yyf,xxd,uu6];refine⟨trivial,?_⟩;simp only[py,ks];refine Gn λw hS=>?_;refine za (λhl=>?_) (λhl=>?_)
   ·have hp:rF ts[t] ⟨aw,t,key,gone,val⟩=(ts[t],false):=by unfold rF;simp only[hg,hl,ww8]
    rw[Wh (t:=t) rfl ht,hp];have hS:=Aa.close (l:=.pt bv (bs.map kB++rest) 153::F) ht tC hm (by exact aW hS);(exact cA hS)
   exact⟨by simp,λc' hc=>(by cases hc;exact hl),(by exact aW hS)⟩
 clear hS;rintro w ⟨-,tu,hS⟩;have hp:rF ts[t] ⟨aw,t,key,gone,val⟩=(l9 ts[t] (cellOf ⟨aw,t,key,gone,val⟩),true):=by
  unfold rF;cases hg:p_ ts[t] key with
  | none=>simp only
  | some c=>simp only[tu c hg,vvo]
 rw[Wh (t:=t) rfl ht,hp];refine Gm λb w hS=>?_;refine⟨λvs w=>vs=[]/\SL W (.pt b (ks (cellOf ⟨aw,t,key,gone,val⟩)) 93::.ob (eC KI py bs[t] m)::.ob (ze jv ((bs.zip ts).eraseIdx t))::.pt p [Γ aw,Γ t,Γ key,.bool gone,.string val] 390::.pt bv (bs.map kB++rest) 153::F) w,?_,?_⟩
 ·refine Gp ?_;cases gone with
  | true=>
   refine zq ?_;refine Gn λw hS=>?_;simp only[cellOf,ks,ww8];exact aW hS
  | false=>
   refine zp ?_;refine⟨rfl,?_⟩;simp only[cellOf,ks,vvm,vvo];exact aW hS
 clear hS;rintro w ⟨-,hS⟩;refine yA hS ?_;clear hS;intro w hS;refine Gp ?_;refine zG ht (zV hS Xh w8 ?_);refine Gp ?_;refine qP (val:=py) hS Xu (o9 .i64) vvl yyv ?_;clear hS;intro u w hS;have uA:lT (gD m key (cellOf ⟨aw,t,key,gone,val⟩)) (l9 ts[t] (cellOf ⟨aw,t,key,gone,val⟩)):=hm.put (cellOf ⟨aw,t,key,gone,val⟩);have hS:=Aa.close (l:=.pt bv (bs.map kB++rest) 153::F) ht tC uA (by exact aW hS);(exact cA hS)
def bFy(n:Int)(h:n<1\/8<n):SP 141 [Γ n] [] (cC (.tuple #[.pointer none,Γ 1]) []):=by
 refine Enzz λW F w hS=>?_;apply XG;delta GM aI bU cV ai cT bR;refine bY (λh1=>?_) (λh1=>?_)
 ·(exact cA hS)
 refine Gp ?_;refine za (λh2=>?_) (λh2=>by omega);(exact cA hS)
def bFz(n:Nat)(h1:1<=n)(h2:n<=8):SP 141 [Γ n] [] (λv post=>∃r:Nat,v= .tuple #[Δ r,Γ 0]/\post=[.ob (gm r (List.replicate n []))]):=by
 refine Enzz λW F w hS=>?_;apply XG;delta GM aI bU cV ai cT bR;refine Gp ?_;refine za (λh=>by omega) (λ_=>?_);refine Gp ?_;refine za (λh=>by omega) (λ_=>?_);refine Gp ?_;refine⟨_,rfl,zE hS ?_⟩;clear hS;intro r w hS;have hS:=bI.nil (t:=153) (sz:=1) hS;have hS:=ze.nil (A:=jv) hS;refine⟨λvs w=>∃(k:Nat) (v:Ε) (bs:Α),vs=[Γ k]/\k<=n/\bs.length=k/\SL W (.ob (ze jv (bs.zip (List.replicate k [])))::.ob (bI v 153 1 k (bs.map kB))::.pt r [v] 148::F) w,λvs _=>match vs with|[.int _ k]=>(n-k).toNat|_=>0,⟨0,_,[],rfl,by omega,rfl,hS⟩,?_⟩;clear hS;rintro KE w ⟨k,v,bs,eP,hk,EX,hS⟩;cases eP;refine bY (λh=>?_) (λh=>?_)
 ·refine Gp ?_;refine cx7 (key:=KI) (val:=py) (p:=λb w'=>zn (cK [.map none] 1) [(0,1,(.map (some b)))] 153 1 w' _) hS ?_;clear hS;intro b w hS;have hS:SL W (.ob (jv (b,[]))::_) w:=jv.iff.2 ⟨[],lT.nil,hS⟩;refine zN (cells:=[kB b]) hS (by simp[ir,cK,Value.cells]) ?_;clear hS;intro b2 w hS;refine zJ (n:=k) (m:=1) (cells:=bs.map kB) hS Xr (j8 (cs:=[kB b]) hS .hd rfl) rfl rfl (by simp[Value.oneCell']) (by omega) (by omega) ?_;clear hS;intro v' w hS;have h1:=bI.one hS;have hS:=ze.snoc (A:=jv) (x:=(b,[])) (xs:=bs.zip (List.replicate k [])) (l:=.ob (bI v' 153 1 (k+1) (bs.map kB++[kB b]))::.pt r [v] 148::F) (by exact aW hS);refine Gn λw hS=>?_;refine⟨⟨k+1,v',bs++[b],rfl,(by omega),(by simp[EX]),?_⟩,(by dsimp only;omega)⟩;have e:(bs++[b]).zip (List.replicate (k+1) ([]:List Cell))=bs.zip (List.replicate k [])++[(b,[])]:=by
   rw[List.replicate_succ',List.zip_append (by simp[EX])];rfl
  rw[e,zzs,zzo,yy4];exact aW hS
 obtain rfl:k=n:=by omega
 rcases bI.open (Has.front hS Xr) with ⟨_,h0,_⟩|⟨bv,cap,rest,rfl,hc,hl,hr,hS⟩
 ·omega
 have hS:SL W (.ob (gm r (List.replicate k []))::F) w:=gm.iff.2 ⟨bv,cap,rest,bs,⟨by simp[EX],by simpa using h2,λC hC=>by
  obtain⟨_,rfl⟩:=uue.1 hC;exact⟨List.Pairwise.nil,by simp⟩⟩,by rw[xxf];exact aW hS⟩
 exact⟨_,⟨r,rfl,rfl⟩,hS⟩
def qJ(r:Nat)(ts:List (List Cell)):SP 276 [Δ r] [.ob (gm r ts)] (cC (Γ ts.length) [.ob (gm r ts)]):=by
 refine Enzz λW F w hS=>?_;apply cG7;delta NK bU;obtain⟨bv,cap,rest,bs,hA,hS⟩:=gm.iff.1 hS;refine Gp ?_;have hS:=gm.iff.2 ⟨bv,cap,rest,bs,hA,hS⟩;(exact cA hS)
def bF6(H:bw)(r:Nat)(ts:List (List Cell))(v:Ε)(ops:List gl)(hv:dx H 5 v ops.length (ops.map jB).flatten)(hn:ops.length<=1000000)(hk:∀o∈ops,lg o.key):
  SP 278 [Δ r,v] [.mem H,.ob (gm r ts)] (cC (Γ ((fw ts ops).2:Nat)) [.mem H,.ob (gm r (fw ts ops).1)]):=by
 refine Enzz λW F w hS=>?_;apply cG9;delta NM aI bU ai cP;refine zo hv ?_;refine⟨λvs w=>∃k:Nat,vs=[Γ ((fw ts (ops.take k)).2:Nat),Γ k]/\k<=ops.length/\SL W (.mem H::.ob (gm r (fw ts (ops.take k)).1)::F) w,λvs _=>match vs with|[_,.int _ k]=>(ops.length-k).toNat|_=>0,⟨0,rfl,by omega,hS⟩,?_⟩;clear hS;rintro v5 v10 w ⟨k,eP,o7,hS⟩;cases eP;refine bY (λh=>?_) (λh=>?_)
 ·have fO:k<ops.length:=by omega
  have hx:ops[k]?=some ops[k]:=by simp[fO]
  refine zD hS Xh a_5 hv hx fO ?_;obtain⟨bv,cap,rest,bs,hA,hS⟩:=gm.iff.1 (SL.bZ hS (t:=.ob (gm r (fw ts (ops.take k)).1)::.mem H::F) Xi);refine zE hS ?_;clear hS;intro p w hS;refine zr (vs:=jB ops[k]) hS Xu rfl rfl (Cd _) ?_;clear hS;intro w hS;refine Gn λw hS=>?_;refine Cc (Qw bv cap rest bs (fw ts (ops.take k)).1 ops[k] hA.1) ?_;clear hS;rintro v post ⟨rfl,rfl⟩ w hS;try simp only[app]at hS
  have xu:fw ts (ops.take (k+1))=((lL (fw ts (ops.take k)).1 ops[k]).1,(fw ts (ops.take k)).2+if (lL (fw ts (ops.take k)).1 ops[k]).2 then 1 else 0):=by
   rw[zze fO,cnb];simp[fw]
  have hle:(fw ts (ops.take k)).2<=k:=yyy (cnc _ _) (by simp;omega);have hS:=gm.iff.2 ⟨bv,cap,rest,bs,⟨by rw[F4];exact hA.1,by rw[F4];exact hA.2.1,VT hA.2.2 (hk _ (zzg fO))⟩,(by rw[F4];exact SL.bZ hS (t:=.pt r [.slice (some ⟨bv,0,none⟩) (fw ts (ops.take k)).1.length cap] 148::.pt bv (bs.map kB++rest) 153::.ob (ze jv (bs.zip (lL (fw ts (ops.take k)).1 ops[k]).1))::.mem H::F) Xi)⟩;cases q_:(lL (fw ts (ops.take k)).1 ops[k]).2 with
  | true=>
   refine zq ?_;refine Gp ?_;refine⟨⟨k+1,(by rw[xu,q_];simp),(by omega),(by rw[xu];exact aW hS)⟩,(by dsimp only;omega)⟩
  | false=>
   refine zp ?_;refine Gp ?_;refine⟨⟨k+1,(by rw[xu,q_];simp),(by omega),(by rw[xu];exact aW hS)⟩,(by dsimp only;omega)⟩
 obtain rfl:k=ops.length:=by omega
 rw[zz0]at hS ⊢
 (exact cA hS)
def qt(r:Nat)(ts:List (List Cell))(t:Int)(hs:small ts 0):SP 30 [Δ r,Γ t] [.ob (gm r ts)]
  (λv post=>post=[.ob (gm r ts),.ob (bI v 93 4 (p6 ts t).length ((p6 ts t).map ks).flatten)]):=by
 refine Enzz λW F w hS=>?_;apply cHv;delta N8 aI bU cL ai cP bR;obtain⟨bv,cap,rest,bs,hA,hS⟩:=gm.iff.1 hS;refine Gp ?_;refine Cg (qu (some ⟨bv,0,none⟩) ts.length cap t) λw hS=>?_;refine zu (λhe=>?_) (λhe=>?_)
 ·have hc:p6 ts t=[]:=by
   have l7:=yyw he;unfold p6;split
   ·rw[yyr (by omega)];rfl
   rfl
  rw[hc];have hS:=gm.iff.2 ⟨bv,cap,rest,bs,hA,hS⟩;exact⟨_,rfl,(bI.nil hS).perm (.swap _ _ _)⟩
 have l7:=zzm he;obtain⟨t,rfl⟩:∃u:Nat,t=u:=⟨t.toNat,by omega⟩;have ht:t<ts.length:=by omega
 have tC:t<bs.length:=by omega
 have w8:(bs.map kB++rest)[0+t*1]?=some (kB bs[t]):=by simp[zzt,tC]
 have hc:p6 ts t=ts[t]:=by unfold p6;simp[ht]
 rw[hc];have cG:=hA.2.2 ts[t] (zzg ht);have hsm:=hs ts[t] (zzg ht);refine Gp ?_;refine zG ht (zV hS Xh w8 ?_);obtain⟨m,hm,hS⟩:=Aa.open ht tC (SL.bZ hS (t:=.ob (ze jv (bs.zip ts))::.pt r [.slice (some ⟨bv,0,none⟩) ts.length cap] 148::.pt bv (bs.map kB++rest) 153::F) Xi);have mw:=hm.len cG.1;refine cx1 (val:=py) hS .hd (by omega) (hm.wf cG) ?_;clear hS;intro v w hS;rw[hm.pX cG.1,mw]at hS
 refine zt hS .hd ?_;refine⟨λvs w=>∃(k:Nat) (u:Ε),vs=[u,Γ k]/\k<=ts[t].length/\SL W (.ob (bI u 93 4 k (((ts[t].take k).map ks).flatten))::.ob (bI v 2 1 ts[t].length ((ts[t].map (·.key)).map KI))::.ob (eC KI py bs[t] m)::.ob (ze jv ((bs.zip ts).eraseIdx t))::.pt r [.slice (some ⟨bv,0,none⟩) ts.length cap] 148::.pt bv (bs.map kB++rest) 153::F) w,λvs _=>match vs with|[_,.int _ k]=>(ts[t].length-k).toNat|_=>0,⟨0,_,rfl,by omega,bI.nil hS⟩,?_⟩;clear hS;rintro v5 v25 w ⟨k,u,eP,hk,hS⟩;cases eP;refine bY (λh=>?_) (λh=>?_)
 ·have fO:k<ts[t].length:=by omega
  refine yg hS (.tl .hd) fO (u:=KI ts[t][k].key) (by simp[fO]) ?_;refine Gp ?_;refine zG ht (zV hS Xh w8 ?_);refine yM (z:=agg (ks ⟨0,0,false,⟨#[]⟩⟩)) hS Xh (o9 .i64) vvl yyv uus ?_;rw[hm.get,SD cG.1 (zzg fO)];refine zN hS (bw7 _ _ rfl) ?_;clear hS;intro b w hS;refine zJ (n:=k) (m:=1) hS Xr (j8 (cs:=ks ts[t][k]) hS .hd rfl) rfl rfl (a_y _) (by omega) (by omega) ?_;clear hS;intro u' w hS;refine Gp ?_;refine⟨⟨k+1,u',rfl,(by omega),(by rw[bFf ks _ k fO];exact aW hS)⟩,(by dsimp only;omega)⟩
 obtain rfl:k=ts[t].length:=by omega
 rw[zz0]at hS
 have hS:=Aa.close (C:=ts[t]) (l:=.ob (bI v5 93 4 ts[t].length ((ts[t].map ks).flatten))::.pt r [.slice (some ⟨bv,0,none⟩) ts.length cap] 148::.pt bv (bs.map kB++rest) 153::F) ht tC hm (by exact aW hS);rw[uup]at hS
 have hS:SL W (.ob (gm r ts)::.ob (bI v5 93 4 ts[t].length ((ts[t].map ks).flatten))::F) w:=gm.iff.2 ⟨bv,cap,rest,bs,hA,by exact aW hS⟩;exact⟨_,rfl,hS⟩
def Qx(r:Nat)(ts:List (List Cell))(t:Int)(hs:small ts 0):SP 28 [Δ r,Γ t] [.ob (gm r ts)]
  (λv post=>post=[.ob (gm r ts),.ob (bI v 66 2 (rowsOf (p6 ts t)).length ((rowsOf (p6 ts t)).map d_).flatten)]):=by
 refine Enzz λW F w hS=>?_;apply cHb;delta NO aI a_ cL ai cP bR;refine Cc (qt r ts t hs) ?_;clear hS;rintro v post rfl w hS;try simp only[app]at hS
 have hc:=aIy (t:=t) hs;generalize p6 ts t=C at hS hc ⊢;refine zt hS Xh ?_;refine⟨λvs w=>∃(k:Nat) (u:Ε),vs=[u,Γ k]/\k<=C.length/\SL W (.ob (bI u 66 2 (rowsOf (C.take k)).length (((rowsOf (C.take k)).map d_).flatten))::.ob (gm r ts)::.ob (bI v 93 4 C.length ((C.map ks).flatten))::F) w,λvs _=>match vs with|[_,.int _ k]=>(C.length-k).toNat|_=>0,⟨0,_,rfl,by omega,bI.nil hS⟩,?_⟩;clear hS;rintro v5 v12 w ⟨k,u,eP,hk,hS⟩;cases eP;refine bY (λh=>?_) (λh=>?_)
 ·have fO:k<C.length:=by omega
  have hle:=cxc (C.take k);rw[zzf]at hle
  refine zT hS Xh a_x (x:=C[k]) (by simp[fO]) fO ?_;have hr:=cxd C k fO;generalize C[k]=c at hr ⊢;obtain⟨key,aw,gone,val⟩:=c;simp only[ks];refine Gm λb w hS=>?_;cases gone with
  | true=>
   refine zp ?_;refine Gp ?_;refine⟨⟨k+1,v5,rfl,(by omega),(by rw[hr];simp only[ww8];exact aW hS)⟩,(by dsimp only;omega)⟩
  | false=>
   refine zq ?_;refine Gm λb w hS=>?_;refine zJ (n:=(rowsOf (C.take k)).length) (m:=1) hS Xr (j8 (cs:=d_ ⟨key,val⟩) hS .hd rfl) rfl rfl (a_6 _) (by omega) (by omega) ?_;clear hS;intro u' w hS;refine Gp ?_;refine⟨⟨k+1,u',rfl,(by omega),(by rw[hr];simp only[vvm,vvo,zza,zz7,vj];exact aW hS)⟩,(by dsimp only;omega)⟩
 obtain rfl:k=C.length:=by omega
 rw[zz0]at hS
 exact⟨_,rfl,aW hS⟩
structure dK where
 file:Int
 first:Int
 size:Nat
 es:List nS
 a:Option Addr
 c:Nat
def dK.lv(x:dK):Ε:=.slice x.a x.es.length x.c
def dK.pl(x:dK):da:=⟨x.file,x.first,x.size,oL x.es⟩
def fx(x:dK):Ξ:=[Γ x.file,Γ x.first,Γ x.size,x.lv]
def Gu(x:dK):(fx x).length=4:=rfl
def Ag(es:List nS):(oL es).length=es.length:=by simp[oL]
def dM(x:dK):zC:=zH True [.ob (dq x.lv 205 1 x.es.length (gr x.es)),.ob (ze gF x.es)]
def dM.iff{W w:Ζ}{x:dK}{l:Β}:SL W (.ob (dM x)::l) w↔SL W (.ob (dq x.lv 205 1 x.es.length (gr x.es))::.ob (ze gF x.es)::l) w:=by
 unfold dM;simp only[SL.fact,zzu,zzq,uuk]
def eX(v:Ε)(t:Option v_):zC:=match t with
 | none=>zH (v= .pointer none) []
 | some x=>jF λb:Nat=>zH (v= Δ b) [.pt b [Γ x.file,Γ x.oe,.bool x.fresh] 454]
def Ab{W w:Ζ}{v:Ε}{l:Β}:SL W (.ob (eX v none)::l) w↔v= .pointer none/\SL W l w:=by
 unfold eX;simp only[SL.fact,zzq]
def Ac{W w:Ζ}{v:Ε}{x:v_}{l:Β}:SL W (.ob (eX v (some x))::l) w↔∃b:Nat,v= Δ b/\SL W (.pt b [Γ x.file,Γ x.oe,.bool x.fresh] 454::l) w:=by
 unfold eX;simp only[SL.ex,SL.fact,zzu,zzq]
def aif{W w:Ζ}{v:Ε}{t:Option v_}{l:Β}(h:SL W (.ob (eX v t)::l) w):v.oneCell'=true:=by
 cases t with
 | none=>rw[(Ab.1 h).1];rfl
 | some x=>obtain⟨b,rfl,_⟩:=Ac.1 h;rfl
abbrev eI(sv tv:Ε)(dp:Nat)(base size:Int):Ξ:=[sv,Δ dp,Γ base,Γ size,tv]
abbrev eH(sv:Ε)(xs:List dK):Μ:=.ob (dq sv 268 4 xs.length (xs.map fx).flatten)
abbrev K2(lp dp:Nat)(base size:Int)(t:Option v_)(sv tv:Ε)(xs:List dK):Β:=[.pt lp (eI sv tv dp base size) 186,eH sv xs,.ob (ze dM xs),.ob (eX tv t)]
def dc(lp dp:Nat)(g:cU):zC:=jF λx:Ε × Ε × List dK=>zH (x.2.2.map dK.pl=g.bF) (K2 lp dp g.base g.size g.du x.1 x.2.1 x.2.2)
def dc.iff{W w:Ζ}{lp dp:Nat}{g:cU}{l:Β}:SL W (.ob (dc lp dp g)::l) w↔∃sv tv xs,xs.map dK.pl=g.bF/\SL W (.pt lp (eI sv tv dp g.base g.size) 186::eH sv xs::.ob (ze dM xs)::.ob (eX tv g.du)::l) w:=by
 unfold dc K2;simp only[SL.ex,SL.fact,zzu,zzq];exact⟨λ⟨x,h1,h2⟩=>⟨x.1,x.2.1,x.2.2,h1,h2⟩,λ⟨a,b,c,h1,h2⟩=>⟨(a,b,c),h1,h2⟩⟩
section
variable {W w:Ζ} {l:Β}
def ZR{v:Ε}{xs:List dK}{j:Nat}{k:IntKind}{K:Ε->Prop}(h:SL W l w)(m:Has (eH v xs) l)(hj:j<xs.length)(hK:K (.agg (fx xs[j]).toArray)):zk 4 v (.int k (j:Int)) λp=>zg 4 p w K:=by
 refine y2 h m hj λb o hb=>⟨⟨b,o,none⟩,fx xs[j],rfl,rfl,λi u hu=>?_,hK⟩;rw[yyb];have hi:i<4:=(zzj.1 hu).1;exact hb i u hi (HQ Gu hj hu)
def Y3{v u:Ε}{xs:List dK}{i j:Nat}{k:IntKind}{K:Ε->Prop}(h:SL W l w)(m:Has (eH v xs) l)(hj:j<xs.length)(hu:(fx xs[j])[i]?=some u)(hK:K u):zk 4 v (.int k (j:Int)) λp=>zl i p λq=>cn q w K:=by
 refine y2 h m hj λb o hb=>?_;refine yL ?_;have hi:i<4:=(zzj.1 hu).1;exact⟨_,u,rfl,hb i u hi (HQ Gu hj hu),hK⟩
end
def Sz(xs:List dK):(xs.map fx).flatten.length=xs.length*4:=by
 induction xs with
 | nil=>rfl
 | cons x xs ih=>simp[ih,Gu];omega
def yV(f n s:Int)(a:Option Addr)(k c:Nat)(h : -1000000000000000<=n/\n<=1000000000000000)(hk:k<=1000000000000000):SP 152 [.agg #[Γ f,Γ n,Γ s,.slice a k c]] [] (cC (Γ (n+k)) []):=by
 refine Enzz λW F w hS=>?_;apply cD8;delta LS a_;refine⟨[Γ f,Γ n,Γ s,.slice a k c],rfl,?_⟩;refine Gm λb w hS=>?_;(exact cA hS)
def y6(x:dK){N:Nat}(h:kR x.pl N)(hN:N<=1000000000000000):SP 152 [.agg (fx x).toArray] [] (cC (Γ x.pl.next) []):=by
 have h1:=h.n0;have h2:=h.n1;have h3:=h.ln;have e:x.pl.next=x.first+x.es.length:=by simp[da.next,dK.pl,Ag]
 rw[e];have h3:x.es.length<=N:=by simpa [dK.pl,Ag] using h3
 exact yV x.file x.first x.size x.a x.es.length x.c (by simp only[dK.pl]at h1 h2;omega) (by omega)
def ye(lp:Nat)(cs:Ξ)(t:Ι)(sv:Ε)(xs:List dK)(iL:cs[0]?=some sv){N:Nat}(h:∀s∈xs.map dK.pl,kR s N)(hN:N<=1000000000000000)(hl:xs.length<=1000000000000000):
  SP 101 [Δ lp] [.pt lp cs t,eH sv xs] (cC (Γ (cI (xs.map dK.pl))) [.pt lp cs t,eH sv xs]):=by
 refine Enzz λW F w hS=>?_;apply cC2;delta Lb aI bU ai;refine Gp ?_;refine zV hS .hd iL ?_;refine zK hS Xh ?_;refine Gp ?_;have hh:=th h;refine za (λh0=>?_) (λh0=>?_)
 ·have:xs=[]:=zzp (by omega);subst this;(exact cA hS)
 refine Gn λw hS=>?_;refine zV hS .hd iL ?_;refine Gp ?_;refine zV hS .hd iL ?_;refine zK hS Xh ?_;refine Gp ?_;have e:((xs.length:Nat):Int)-1=((xs.length-1:Nat):Int):=by omega
 rw[e];have hj:xs.length-1<xs.length:=by omega
 refine ZR hS Xh hj ?_;have hm:(xs[xs.length-1]'hj).pl∈xs.map dK.pl:=zzv.2 ⟨_,zzg hj,rfl⟩;have hg:cI (xs.map dK.pl)=(xs[xs.length-1]'hj).pl.next-1:=by
  unfold cI;rw[uum,xx0,zzd hj];rfl
 have cG:=h _ hm;rw[hg]at hh ⊢
 refine Cg (y6 _ cG hN) λw hS=>?_;exact cA hS
def bXy(lp:Nat)(cs:Ξ)(t:Ι)(sv:Ε)(xs:List dK)(iL:cs[0]?=some sv)(hl:xs.length<=1000000000000000):
  SP 102 [Δ lp] [.pt lp cs t,eH sv xs] (cC (Γ (eZ (xs.map dK.pl))) [.pt lp cs t,eH sv xs]):=by
 refine Enzz λW F w hS=>?_;apply cC3;delta Lc aI bU a_ ai;refine Gp ?_;refine zV hS .hd iL ?_;refine zK hS Xh ?_;refine bY (λh0=>?_) (λh0=>?_)
 ·have:xs=[]:=zzp (by omega);subst this;(exact cA hS)
 cases xs with
 | nil=>simp at h0
 | cons x xs=>
  refine Gp ?_;refine zV hS .hd iL ?_;refine Y3 (j:=0) (i:=1) hS Xh (by simp) (u:=Γ x.first) rfl ?_;exact⟨_,⟨rfl,rfl⟩,hS⟩
def ze.back{W w:Ζ}{l:Β}{α:Type}{A:α->zC}{xs:List α}{t:Nat}{x:α}(h:SL W (.ob (A x)::.ob (ze A (xs.eraseIdx t))::l) w)(hx:xs[t]?=some x):SL W (.ob (ze A xs)::l) w:=by
 obtain⟨ht,e⟩:=zzj.1 hx;have:=ze.put h ht
 rwa [<- e,uup]at this
def cLk(x:dK):x.pl.next=x.first+x.es.length:=by simp[da.next,dK.pl,Ag]
def cwv(xs:List dK)(i:Nat)(n:Int):mE ((xs.drop i).map dK.pl) n=match xs[i]? with
 | none=>none
 | some x=>if x.first<=n/\n<x.pl.next then (oL x.es)[(n-x.first).toNat]? else mE ((xs.drop (i+1)).map dK.pl) n:=by
 cases h:xs[i]? with
 | none=>
  have:xs.drop i=[]:=yy3 (by rw[List.getElem?_eq_none_iff]at h;exact h);rw[this];rfl
 | some x=>
  obtain⟨hi,e⟩:=zzj.1 h;rw[yyq hi,e];rfl
def D1(pre:Β)(o:Option (Φ))(r:Ε)(post:Β):Prop:=match o with
 | none=>r= .tuple #[Θ,Γ 5]/\post=pre
 | some b=>∃u,r= .tuple #[u,Γ 0]/\post= .ob (bI u 5 1 b.length (b.map cX))::pre
def QO(lp:Nat)(cs:Ξ)(t:Ι)(sv:Ε)(xs:List dK)(n:Int)(iL:cs[0]?=some sv){N:Nat}(h:∀s∈xs.map dK.pl,kR s N)(hN:N<=1000000000000000)(hl:xs.length<=1000000000000000)(hn : -9000000000000000000<=n/\n<=9000000000000000000):
  SP 136 [Δ lp,Γ n] [.pt lp cs t,eH sv xs,.ob (ze dM xs)] (D1 [.pt lp cs t,eH sv xs,.ob (ze dM xs)] (mE (xs.map dK.pl) n)):=by
 refine Enzz λW F w hS=>?_;apply cDr;delta LA aI bU a_ ai bR;refine Gp ?_;refine zV hS .hd iL ?_;refine zK hS Xh ?_;refine⟨λvs w=>∃i:Nat,i<=xs.length/\vs=[Γ i]/\mE (xs.map dK.pl) n=mE ((xs.drop i).map dK.pl) n/\SL W (.pt lp cs t::eH sv xs::.ob (ze dM xs)::F) w,λvs _=>match vs with
  | [.int _ i]=>xs.length-i.toNat
  | _=>0,⟨0,by omega,rfl,rfl,hS⟩,?_⟩
 clear hS;rintro v1 w1 ⟨i,hi,hv,hr,hS⟩;cases hv;rw[cwv]at hr
 refine bY (λh0=>?_) (λh0=>?_)
 ·have hj:i<xs.length:=by omega
  have hx:xs[i]?=some xs[i]:=zzd hj;refine ZR hS Xh hj ?_;have cG:=h _ (zzv.2 ⟨_,zzg hj,rfl⟩);rw[hx]at hr
  simp only at hr;generalize xs[i]=x at *
  have o8:=cLk x;unfold fx dK.lv;refine Gm λb w hS=>?_;refine za (λh1=>?_) (λh1=>?_)
  ·refine Gp ?_;refine Cg (y6 x cG hN) λw hS=>?_;refine za (λh2=>?_) (λh2=>?_)
   ·rw[zzc ⟨h1,h2⟩]at hr
    have Ff:=cG.n0;have hh2:=cG.n1;simp only[dK.pl]at Ff hh2;refine Gp ?_;obtain⟨j,ID⟩:=wwb (show 0<=n-x.first by omega);have gM:j<x.es.length:=by omega
    rw[ID]at hr ⊢
    have hS:=ze.take (SL.bZ hS (t:=.ob (ze dM xs)::.pt lp cs t::eH sv xs::F) Xi) hx;have hS:=dM.iff.1 hS;unfold dK.lv at hS;refine y2 (j:=j) hS .hd gM λb o hb=>?_;have Tw:x.es[j]?=some x.es[j]:=zzd gM;have oq:(gr x.es)[j*1+0]?=some x.es[j].1:=by simp[gr,gM]
    refine⟨_,_,rfl,hb 0 _ (by omega) oq,?_⟩;have hS:=ze.take (SL.bZ hS (t:=.ob (ze gF x.es)::.ob (dq (.slice x.a x.es.length x.c) 205 1 x.es.length (gr x.es))::.ob (ze dM (xs.eraseIdx i))::.pt lp cs t::eH sv xs::F) Xi) Tw;have pK:x.es[j].2.length<=1048576:=cG.bl _ (zzv.2 ⟨_,zzg gM,rfl⟩);have hby:(oL x.es)[((j:Int)).toNat]?=some x.es[j].2:=by simp[oL,gM]
    rw[hby]at hr
    rw[hr];generalize x.es[j]=e at *
    have hR:dP (.ob (gF e)) e.1 e.2:=dP.own;obtain⟨ea,ec,ee,_⟩:=hR.sl hS .hd;have pH:=hR;rw[ee]at pH ⊢
    refine Zn (cs:=e.2.map cX) hS (λw' c gA=>pH.src gA (.tl .hd)) (by simp) (uQ _) (by omega) ?_;clear hS;intro u w hS _;have hS:=ze.back (SL.bZ hS (t:=.ob (gF e)::.ob (ze gF (x.es.eraseIdx j))::.ob (dq (.slice x.a x.es.length x.c) 205 1 x.es.length (gr x.es))::.ob (bI u 5 1 e.2.length (e.2.map cX))::.ob (ze dM (xs.eraseIdx i))::.pt lp cs t::eH sv xs::F) Xi) Tw;have hS:=(dM.iff (x:=x)).2 (SL.bZ hS (t:=.ob (dq (.slice x.a x.es.length x.c) 205 1 x.es.length (gr x.es))::.ob (ze gF x.es)::.ob (bI u 5 1 e.2.length (e.2.map cX))::.ob (ze dM (xs.eraseIdx i))::.pt lp cs t::eH sv xs::F) Xi);have hS:=ze.back (SL.bZ hS (t:=.ob (dM x)::.ob (ze dM (xs.eraseIdx i))::.ob (bI u 5 1 e.2.length (e.2.map cX))::.pt lp cs t::eH sv xs::F) Xi) hx;exact⟨.ob (bI u 5 1 e.2.length (e.2.map cX))::[.pt lp cs t,eH sv xs,.ob (ze dM xs)],⟨u,rfl,rfl⟩,aW hS⟩
   rw[zzb (by omega)]at hr
   refine Gp ?_;refine⟨⟨i+1,by omega,rfl,hr,aW hS⟩,?_⟩;simp only[zzw];omega
  rw[zzb (by omega)]at hr
  refine Gp ?_;refine⟨⟨i+1,by omega,rfl,hr,aW hS⟩,?_⟩;simp only[zzw];omega
 have hx:xs[i]?=none:=yyr (by omega);rw[hx]at hr
 rw[hr];exact⟨_,⟨rfl,rfl⟩,hS⟩
def bYo(bF:List da)(base size:Int)(x:v_)(d:DS):de ⟨bF,base,size,some x⟩ d =
  ((⟨bF,base,size,if (if x.fresh=true then d.remove x.file else d.cut x.file x.oe).2=0 then none else some x⟩,(if x.fresh=true then d.remove x.file else d.cut x.file x.oe).1),(if x.fresh=true then d.remove x.file else d.cut x.file x.oe).2):=rfl
def QD(lp dp:Nat)(g:cU)(d:DS)(N:Nat)(cG:d.Ok N)(hN:N<=140737488355328)(dS:d.ops<=100000):
  SP 286 [Δ lp] [.ob (dc lp dp g),.ob (bX dp d)] (cC (Γ (de g d).2) [.ob (dc lp dp (de g d).1.1),.ob (bX dp (de g d).1.2)]):=by
 refine Enzz λW F w hS=>?_;apply cHi;delta NV aI bU cV ai cT;obtain⟨sv,tv,xs,hx,hS⟩:=dc.iff.1 hS;obtain⟨bF,base,size,du⟩:=g;simp only at hx hS;cases du with
 | none=>
  rw[show de ⟨bF,base,size,none⟩ d=((⟨bF,base,size,none⟩,d),0) from rfl];obtain⟨rfl,hS⟩:=Ab.1 (SL.bZ hS (t:=.ob (eX tv none)::.pt lp (eI sv tv dp base size) 186::eH sv xs::.ob (ze dM xs)::.ob (bX dp d)::F) Xi);refine Gp ?_;refine zq ?_;have hS:=(Ab (v:=.pointer none)).2 ⟨rfl,hS⟩;exact⟨_,⟨rfl,rfl⟩,dc.iff.2 ⟨sv,.pointer none,xs,hx,aW hS⟩⟩
 | some x=>
  obtain⟨tb,rfl,hS⟩:=Ac.1 (SL.bZ hS (t:=.ob (eX tv (some x))::.pt lp (eI sv tv dp base size) 186::eH sv xs::.ob (ze dM xs)::.ob (bX dp d)::F) Xi);rw[bYo];refine Gp ?_;refine zp ?_;refine Gp ?_;refine yU (λhf=>?_) (λhf=>?_)
  ·simp only[zzc hf];refine Gn λw hS=>?_;refine Cg (yP dp d N cG dS x.file) λw hS=>?_;refine za (λh=>?_) (λh=>?_)
   ·rw[zzc h];refine Gn λw hS=>?_;have hS:=(Ab (v:=.pointer none)).2 ⟨rfl,hS⟩;exact⟨_,⟨rfl,rfl⟩,dc.iff.2 ⟨sv,.pointer none,xs,hx,aW hS⟩⟩
   rw[zzb h];have hS:=(Ac (v:=Δ tb) (x:=x)).2 ⟨tb,rfl,SL.bZ hS (t:=.pt tb [Γ x.file,Γ x.oe,.bool x.fresh] 454::.pt lp (eI sv (Δ tb) dp base size) 186::eH sv xs::.ob (ze dM xs)::.ob (bX dp (d.remove x.file).1)::F) Xi⟩;exact⟨_,⟨rfl,rfl⟩,dc.iff.2 ⟨sv,_,xs,hx,aW hS⟩⟩
  have hf:¬x.fresh=true:=by rw[hf];decide
  simp only[zzb hf];refine Gn λw hS=>?_;refine Cg (Zt dp d N cG hN dS x.file x.oe) λw hS=>?_;refine za (λh=>?_) (λh=>?_)
  ·rw[zzc h];refine Gn λw hS=>?_;have hS:=(Ab (v:=.pointer none)).2 ⟨rfl,hS⟩;exact⟨_,⟨rfl,rfl⟩,dc.iff.2 ⟨sv,.pointer none,xs,hx,aW hS⟩⟩
  rw[zzb h];have hS:=(Ac (v:=Δ tb) (x:=x)).2 ⟨tb,rfl,SL.bZ hS (t:=.pt tb [Γ x.file,Γ x.oe,.bool x.fresh] 454::.pt lp (eI sv (Δ tb) dp base size) 186::eH sv xs::.ob (ze dM xs)::.ob (bX dp (d.cut x.file x.oe).1)::F) Xi⟩;exact⟨_,⟨rfl,rfl⟩,dc.iff.2 ⟨sv,_,xs,hx,aW hS⟩⟩
def X8(lp dp:Nat)(g:cU)(d:DS)(X:Μ)(p:Φ)(y:Except Int hU)(r:Ε)(post:Β):Prop:=match y with
 | .error e=>(∃z,r= .tuple #[.agg #[Γ 0,.bool false,Θ],Γ z]/\z=e/\z≠0)/\post=[.ob (dc lp dp g),.ob (bX dp d),X]
 | .ok x=>∃a c,r= .tuple #[.agg #[Γ x.file,.bool x.fresh,.slice a x.b.length c],Γ 0]/\post=[.ob (bI (.slice a x.b.length c) 5 1 x.b.length (x.b.map cX)),.ob (dc lp dp g),.ob (bX dp d),X]
def cU.Ok.xs{g:cU}{N:Nat}(h:g.Ok N){xs:List dK}(hx:xs.map dK.pl=g.bF):(∀s∈xs.map dK.pl,kR s N)/\xs.length<=N/\0<=cI g.bF/\cI g.bF<=1099511627776+N:=by
 refine⟨by rw[hx];exact h.bF,?_,th h.bF⟩;have:=h.ln;rw[<- hx,zzn]at this;exact this
def QJ(X:Μ)(lp dp:Nat)(g:cU)(d:DS)(v:Ε)(p:Φ)(hv:dP X v p)(hp:p.length<=140737488355328){M:Nat}(hg:g.Ok M)(hM:M<=1000000000000000):
  SP 285 [Δ lp,v] [.ob (dc lp dp g),.ob (bX dp d),X] (X8 lp dp g d X p (eN g d.off p)):=by
 refine Enzz λW F w hS=>?_;apply cHh;delta NU aI bU a_ bV G2 ai bR;obtain⟨sv,tv,xs,hx,hS⟩:=dc.iff.1 hS;obtain⟨cG,hl,hh0,Ff⟩:=hg.xs hx;have tg:=hg.b0;have EW:=hg.b1;have vC:=hg.s1;have xA:=hg.s0;have mv:cI (xs.map dK.pl)=cI g.bF:=by rw[hx]
 refine Gm λb w hS=>?_;refine Cc (Z9 X v p hv hp) ?_;clear hS;rintro r post hQ w hS;unfold sQ at hQ;by_cases wZ:1048576<p.length
 ·rw[zzc wZ]at hQ
  obtain⟨rfl,rfl⟩:=hQ;have dZ:eN g d.off p= .error 1:=by unfold eN;rw[zzc wZ]
  rw[dZ];(try simp only[app]at hS);refine Gp ?_
  refine za (λ_=>?_) (λh=>absurd (by decide) h);refine Gn λw hS=>?_;exact⟨_,⟨⟨1,rfl,rfl,by decide⟩,rfl⟩,SL.bZ (dc.iff.2 ⟨sv,tv,xs,hx,SL.bZ hS (t:=.pt lp (eI sv tv dp g.base g.size) 186::eH sv xs::.ob (ze dM xs)::.ob (eX tv g.du)::.ob (bX dp d)::X::F) Xi⟩) Xi⟩
 rw[zzb wZ]at hQ
 obtain⟨u,rfl,rfl⟩:=hQ;try simp only[app]at hS
 have hu:=hS.rD .hd;obtain⟨au,cu,eu,_⟩:=bI.at hS .hd;subst eu;refine Gp ?_;refine za (λh=>absurd rfl h) (λ_=>?_);refine Gp ?_;refine Cg (zM dp d) λw hS=>?_;have gC:∀{w:Ζ} {l:Β},SL W (.pt lp (eI sv tv dp g.base g.size) 186::eH sv xs::.ob (ze dM xs)::.ob (eX tv g.du)::l) w->SL W (.ob (dc lp dp g)::l) w:=λh=>dc.iff.2 ⟨sv,tv,xs,hx,h⟩;refine yU (λho=>?_) (λho=>?_)
 ·have dZ:eN g d.off p= .error 8:=by unfold eN;rw[zzb wZ,zzc ho]
  rw[dZ];refine Gn λw hS=>?_;exact⟨_,⟨⟨8,rfl,rfl,by decide⟩,rfl⟩,SL.bZ (gC (SL.bZ hS (t:=.pt lp (eI sv tv dp g.base g.size) 186::eH sv xs::.ob (ze dM xs)::.ob (eX tv g.du)::.ob (bX dp d)::X::F) Xi)) Xi⟩
 refine Gp ?_;refine Cg (ye lp (eI sv tv dp g.base g.size) 186 sv xs rfl cG hM (by omega)) λw hS=>?_;rw[mv];refine za (λh1=>?_) (λh1=>?_)
 ·have dZ:eN g d.off p= .error 7:=by unfold eN;rw[zzb wZ,zzb (by rw[ho];decide),zzc h1]
  rw[dZ];refine Gn λw hS=>?_;exact⟨_,⟨⟨7,rfl,rfl,by decide⟩,rfl⟩,SL.bZ (gC (SL.bZ hS (t:=.pt lp (eI sv tv dp g.base g.size) 186::eH sv xs::.ob (ze dM xs)::.ob (eX tv g.du)::.ob (bX dp d)::X::F) Xi)) Xi⟩
 refine Gp ?_;refine⟨λvs w=>∃f:Int,vs=[Γ f]/\eN g d.off p=mu g f p/\-1000000<=f/\f<=1000000/\SL W (.pt b [Γ 0,.bool false,Θ] 343::.pt lp (eI sv tv dp g.base g.size) 186::eH sv xs::.ob (ze dM xs)::.ob (eX tv g.du)::.ob (bX dp d)::.ob (bI (.slice au (cZ p).length cu) 5 1 (cZ p).length ((cZ p).map cX))::X::F) w,?_,?_⟩
 ·refine Gp ?_;refine zK hS Xh ?_;refine bY (λh2=>?_) (λh2=>?_)
  ·refine Gp ?_;have e:((xs.length:Nat):Int)-1=((xs.length-1:Nat):Int):=by omega
   rw[e];have hj:xs.length-1<xs.length:=by omega
   refine ZR hS Xh hj ?_;have hm:(xs[xs.length-1]'hj).pl∈xs.map dK.pl:=zzv.2 ⟨_,zzg hj,rfl⟩;have mU:g.bF.getLast?=some (xs[xs.length-1]'hj).pl:=by
    rw[<- hx,uum,xx0,zzd hj];rfl
   have mV:=cG _ hm;generalize xs[xs.length-1]'hj=x at *
   have sw:eN g d.off p=if x.pl.l.length=0\/(x.pl.size:Int)+(cZ p).length<=g.size then .ok ⟨x.pl.file,false,cZ p⟩ else mu g (x.pl.file+1) p:=by
    unfold eN;rw[zzb wZ,zzb (by rw[ho];decide),zzb (by omega),mU]
   have jY:x.pl.l.length=x.es.length:=by simp[dK.pl,Ag]
   have Uu:x.pl.size=x.size:=rfl;have A6:x.pl.file=x.file:=rfl;have k1:=mV.f0;have k2:=mV.f1;have k3:=mV.sz;rw[jY,Uu,A6]at sw
   rw[A6]at k1 k2
   rw[Uu]at k3
   have vB:=kD p;unfold fx dK.lv;refine Gm λb w hS=>?_;refine za (λh3=>?_) (λh3=>?_)
   ·rw[zzc (.inl (by omega))]at sw
    rw[sw];refine Gn λw hS=>?_;exact⟨_,⟨au,cu,rfl,rfl⟩,SL.bZ (gC (SL.bZ hS (t:=.pt lp (eI sv tv dp g.base g.size) 186::eH sv xs::.ob (ze dM xs)::.ob (eX tv g.du)::.ob (bI (.slice au (cZ p).length cu) 5 1 (cZ p).length ((cZ p).map cX))::.ob (bX dp d)::X::F) Xi)) Xi⟩
   refine bY (λh4=>?_) (λh4=>?_)
   ·rw[zzc (.inr (by omega))]at sw
    rw[sw];refine Gn λw hS=>?_;exact⟨_,⟨au,cu,rfl,rfl⟩,SL.bZ (gC (SL.bZ hS (t:=.pt lp (eI sv tv dp g.base g.size) 186::eH sv xs::.ob (ze dM xs)::.ob (eX tv g.du)::.ob (bI (.slice au (cZ p).length cu) 5 1 (cZ p).length ((cZ p).map cX))::.ob (bX dp d)::X::F) Xi)) Xi⟩
   rw[zzb (by omega)]at sw
   refine Gp ?_;exact⟨x.file+1,rfl,sw,by omega,by omega,aW hS⟩
  have sw:eN g d.off p=mu g g.base p:=by
   have IT:g.bF=[]:=by
    rw[<- hx];have:xs=[]:=zzp (by omega);rw[this];rfl
   unfold eN;rw[zzb wZ,zzb (by rw[ho];decide),zzb (by omega),IT];rfl
  exact⟨g.base,rfl,sw,by omega,by omega,aW hS⟩
 clear hS;rintro v8 w ⟨f,eP,sw,f0,f1,hS⟩;cases eP;rw[sw];unfold mu;refine bY (λh2=>?_) (λh2=>?_)
 ·rw[zzc h2];refine Gn λw hS=>?_;exact⟨_,⟨⟨7,rfl,rfl,by decide⟩,rfl⟩,SL.bZ (gC (SL.bZ hS (t:=.pt lp (eI sv tv dp g.base g.size) 186::eH sv xs::.ob (ze dM xs)::.ob (eX tv g.du)::.ob (bX dp d)::X::F) Xi)) Xi⟩
 rw[zzb h2];refine Gp ?_;refine Cg (ye lp (eI sv tv dp g.base g.size) 186 sv xs rfl cG hM (by omega)) λw hS=>?_;rw[mv];refine Cc (Y7 (cI g.bF+1)) ?_;clear hS;rintro r post hQ w hS;unfold Gy at hQ;rw[zzb (by omega)]at hQ
 obtain⟨y,rfl,rfl⟩:=hQ;try simp only[app]at hS
 have hy:=hS.rD .hd;obtain⟨ay,cy,ey,_⟩:=bI.at hS .hd;subst ey;refine Gm λb w hS=>?_;refine yI (F:=_) (ZD _ 2 _ [_,_] [cZ (dN (cI g.bF+1).toNat),cZ p] [.ob (bI (.slice ay (cZ (dN (cI g.bF+1).toNat)).length cy) 5 1 (cZ (dN (cI g.bF+1).toNat)).length ((cZ (dN (cI g.bF+1).toNat)).map cX)),.ob (bI (.slice au (cZ p).length cu) 5 1 (cZ p).length ((cZ p).map cX))] rfl rfl ?_ ?_ (by omega)) hS Xp ?_
 ·intro i hi
  match i,hi with
  | 0,_=>exact⟨_,.hd,dP.own⟩
  | 1,_=>exact⟨_,.tl .hd,dP.own⟩
 ·have:=kD p;have:=kD (dN (cI g.bF+1).toNat);have:=AK (cI g.bF+1).toNat;simp;omega
 clear hS;rintro c post rfl w hS;(try simp only[app]at hS);have e2:[cZ (dN (cI g.bF+1).toNat),cZ p].flatten=cZ (dN (cI g.bF+1).toNat)++cZ p:=by simp
 rw[e2]at hS
 have hc:=hS.rD .hd;obtain⟨ac,cc,ec,_⟩:=bI.at hS .hd;subst ec;refine Gn λw hS=>?_;have e3:(cZ (dN (cI g.bF+1).toNat)).length+(cZ p).length=(cZ (dN (cI g.bF+1).toNat)++cZ p).length:=by rw[zza]
 rw[e3];exact⟨_,⟨ac,cc,rfl,rfl⟩,SL.bZ (gC (SL.bZ hS (t:=.pt lp (eI sv tv dp g.base g.size) 186::eH sv xs::.ob (ze dM xs)::.ob (eX tv g.du)::.ob (bI (.slice ac (cZ (dN (cI g.bF+1).toNat)++cZ p).length cc) 5 1 (cZ (dN (cI g.bF+1).toNat)++cZ p).length ((cZ (dN (cI g.bF+1).toNat)++cZ p).map cX))::.ob (bX dp d)::X::F) Xi)) Xi⟩
def Y'(lp dp:Nat)(g:cU)(d:DS)(X:Μ)(y:Except Int hU)(r:Ε)(post:Β):Prop:=match y with
 | .error e=>e≠0/\r= .tuple #[.agg #[Γ 0,.bool false,Θ],Γ e]/\post=[.ob (dc lp dp g),.ob (bX dp d),X]
 | .ok x=>∃a c,r= .tuple #[.agg #[Γ x.file,.bool x.fresh,.slice a x.b.length c],Γ (de g d).2]/\post=[.ob (bI (.slice a x.b.length c) 5 1 x.b.length (x.b.map cX)),.ob (dc lp dp (de g d).1.1),.ob (bX dp (de g d).1.2),X]
def ZJ(X:Μ)(lp dp:Nat)(g:cU)(d:DS)(v:Ε)(p:Φ)(hv:dP X v p)(hp:p.length<=140737488355328){M N:Nat}(hg:g.Ok M)(hM:M<=1000000000000000)(cG:d.Ok N)(hN:N<=140737488355328)(dS:d.ops<=100000):
  SP 219 [Δ lp,v] [.ob (dc lp dp g),.ob (bX dp d),X] (Y' lp dp g d X (eN g d.off p)):=by
 refine Enzz λW F w hS=>?_;apply cF1;delta M1 aI ai bR;refine Gm λb w hS=>?_;refine Cc (QJ X lp dp g d v p hv hp hg hM) ?_;clear hS;rintro r post hQ w hS;cases dZ:eN g d.off p with
 | error e=>
  rw[dZ]at hQ
  obtain⟨⟨z,rfl,rfl,hz⟩,rfl⟩:=hQ;refine Gm λb w hS=>?_;refine za (λh=>absurd h hz) (λ_=>?_);refine Gn λw hS=>?_;exact⟨_,⟨hz,rfl,rfl⟩,aW hS⟩
 | ok x=>
  rw[dZ]at hQ
  obtain⟨a,c,rfl,rfl⟩:=hQ;refine Gm λb w hS=>?_;refine za (λ_=>?_) (λh=>absurd rfl h);refine Cg (QD lp dp g d N cG hN dS) λw hS=>?_;exact⟨_,⟨a,c,rfl,rfl⟩,aW hS⟩
def eH.at{W w:Ζ}{l:Β}{v:Ε}{t:Ι}{xs:List dK}{j:Nat}(h:SL W (.ob (dq v t 4 xs.length (xs.map fx).flatten)::l) w)(hj:j<xs.length):
  ∃b o cap A B,v= .slice (some ⟨b,o,none⟩) xs.length cap/\A.length=o+j*4/\SL W (.pt b (A++(fx xs[j]++B)) t::l) w /\
   ∀y w' l',SL W (.pt b (A++(fx y++B)) t::l') w'->SL W (.ob (dq v t 4 (xs.set j y).length ((xs.set j y).map fx).flatten)::l') w':=by
 obtain⟨b,pre,cap,rest,rfl,hc,hl,hr,hS⟩:=dq.block h (by omega);have e:(xs.map fx).flatten=((xs.take j).map fx).flatten++(fx xs[j]++((xs.drop (j+1)).map fx).flatten):=by
  have pS:xs=xs.take j++xs[j]::xs.drop (j+1):=by rw[<- yyq hj,yyl]
  have e:=yyu (λl=>(List.map fx l).flatten) pS;simp only[zzs,zzo,yys,zz5]at e;exact e
 have el:((xs.take j).map fx).flatten.length=j*4:=by rw[Sz,zzf];omega
 refine⟨b,pre.length,cap,pre++((xs.take j).map fx).flatten,((xs.drop (j+1)).map fx).flatten++rest,rfl,by rw[zza,el],?_,λy w' l' h'=>?_⟩
 ·rw[e]at hS
  simp only[zzk]at hS ⊢;exact hS
 have e2:((xs.set j y).map fx).flatten=((xs.take j).map fx).flatten++(fx y++((xs.drop (j+1)).map fx).flatten):=by
  rw[xxc,zzc hj];simp only[zzs,zzo,yys,zz5]
 have:=dq.mk (b:=b) (t:=t) (sz:=4) (n:=xs.length) (cells:=((xs.set j y).map fx).flatten) (pre:=pre) (rest:=rest) (cap:=cap) hc (by rw[Sz,yyh]) hr rfl (by rw[e2];simp only[zzk]at h' ⊢;exact h');show SL W (.ob (dq _ t 4 (xs.set j y).length _)::l') w';rw[yyh];exact this
def Bl{A B:Ξ}{cs:Ξ}{i:Nat}{u:Ε}(h:cs[i]?=some u):(A++(cs++B))[A.length+i]?=some u:=by
 rw[yya (by omega),xx9,zzt (zzj.1 h).1];exact h
def Wa{A B:Ξ}{cs:Ξ}{i:Nat}{u:Ε}(h:i<cs.length):(A++(cs++B)).set (A.length+i) u=A++(cs.set i u++B):=by
 rw[vvr _ _ (by omega),xx9,wwn _ _ h]
def aww{g:cU}{d:DS}{p:Φ}{e:Int}(h:eN g d.off p= .error e):fj g d p=((g,d),(0,e)):=by
 unfold fj;rw[h]
def awy{g:cU}{d:DS}{p:Φ}{x:hU}(h:eN g d.off p= .ok x)(hm:(de g d).2≠0):fj g d p=((de g d).1,(0,(de g d).2)):=by
 unfold fj;rw[h];simp only;rw[zzc hm]
def awv{g:cU}{d:DS}{p:Φ}{x:hU}(h:eN g d.off p= .ok x)(hm:(de g d).2=0)(ha:((de g d).1.2.append x.file x.b).2≠0):
  fj g d p=(((de g d).1.1,((de g d).1.2.append x.file x.b).1),(0,((de g d).1.2.append x.file x.b).2)):=by
 unfold fj;rw[h];simp only;rw[zzb (by simp[hm]),zzc ha]
def awz{g:cU}{d:DS}{p:Φ}{x:hU}(h:eN g d.off p= .ok x)(hm:(de g d).2=0)(ha:((de g d).1.2.append x.file x.b).2=0)(hs:(((de g d).1.2.append x.file x.b).1.sync x.file).2≠0):
  fj g d p=(((de g d).1.1,(((de g d).1.2.append x.file x.b).1.sync x.file).1),(0,(((de g d).1.2.append x.file x.b).1.sync x.file).2)):=by
 unfold fj;rw[h];simp only;rw[zzb (by simp[hm]),zzb (by simp[ha]),zzc hs]
def awx{g:cU}{d:DS}{p:Φ}{x:hU}(h:eN g d.off p= .ok x)(hm:(de g d).2=0)(ha:((de g d).1.2.append x.file x.b).2=0)(hs:(((de g d).1.2.append x.file x.b).1.sync x.file).2=0):
  fj g d p=(({(de g d).1.1 with bF:=jD g.bF x p},(((de g d).1.2.append x.file x.b).1.sync x.file).1),(cI (jD g.bF x p),0)):=by
 unfold fj;rw[h];simp only;rw[zzb (by simp[hm]),zzb (by simp[ha]),zzb (by simp[hs]),(tH g d).1]
def V2(s:DS)(f:Int)(b:Φ):(s.append f b).1.ops<=s.ops+1:=by
 unfold DS.append;split<;>simp[DS.cE]
def b_j(s:DS)(f:Int):(s.sync f).1.ops<=s.ops+1:=by
 unfold DS.sync;split
 ·simp
 split<;>simp[DS.cE]
def V3(s:DS)(f n:Int):(s.cut f n).1.ops<=s.ops+1:=by
 unfold DS.cut;split
 ·simp
 split
 ·simp
 split<;>simp[DS.cE]
def V5(s:DS)(f:Int):(s.remove f).1.ops<=s.ops+1:=by
 unfold DS.remove;split
 ·simp
 split<;>simp[DS.cE]
def V4(g:cU)(d:DS):(de g d).1.2.ops<=d.ops+1:=by
 unfold de;split
 ·simp
 simp only;split
 ·exact V5 _ _
 exact V3 _ _ _
def Zg(X:Μ)(lp dp:Nat)(g:cU)(d:DS)(v:Ε)(p:Φ)(hv:dP X v p)(hp:p.length<=140737488355328){M N:Nat}(hg:g.Ok M)(hM:M<=1000000000000)(cG:d.Ok N)(hN:N<=140737480000000)(dS:d.ops<=90000):
  SP 163 [Δ lp,v] [.ob (dc lp dp g),.ob (bX dp d),X] (cC (.tuple #[Γ (fj g d p).2.1,Γ (fj g d p).2.2]) [.ob (dc lp dp (fj g d p).1.1),.ob (bX dp (fj g d p).1.2),X]):=by
 refine Enzz λW F w hS=>?_;apply cEk;delta L_ aI bU a_ cV aR bV ai bR;obtain⟨va,vc,rfl,Jc⟩:=hv.sl hS Xh;refine Cc (ZJ X lp dp g d _ p hv hp hg (by omega) cG (by omega) (by omega)) ?_;clear hS;rintro r post hQ w hS;cases dZ:eN g d.off p with
 | error e=>
  rw[dZ]at hQ
  obtain⟨hz,rfl,rfl⟩:=hQ;rw[aww dZ];refine Gm λb w hS=>?_;refine⟨λvs w=>vs=[Γ e]/\SL W (.ob (dc lp dp g)::.ob (bX dp d)::X::F) w,?_,?_⟩
  ·refine Gp ?_;refine za (λh=>absurd h hz) (λ_=>⟨rfl,aW hS⟩)
  clear hS;rintro v7 w ⟨eP,hS⟩;cases eP;refine⟨λvs w=>vs=[Γ e]/\SL W (.ob (dc lp dp g)::.ob (bX dp d)::X::F) w,?_,?_⟩
  ·refine Gp ?_;refine za (λh=>absurd h hz) (λ_=>⟨rfl,hS⟩)
  clear hS;rintro v7 w ⟨eP,hS⟩;cases eP;refine Gp ?_;refine za (λ_=>?_) (λh=>absurd hz h);(exact cA hS)
 | ok x=>
  rw[dZ]at hQ
  obtain⟨a,c,rfl,rfl⟩:=hQ;have hw:=FY hg dZ;have Fo:=FU (g:=g) cG;have AT:=JF (d:=d) hg;have AU:=tH g d;have sr:=V4 g d;have pK:=hw.bl;have hpp:=hw.pl;refine Gm λb w hS=>?_;obtain⟨wb,rfl⟩:∃k,k=b:=⟨b,rfl⟩;by_cases hm:(de g d).2=0
  ·
   have S7:=Fo.append x.file x.b;have hao:=V2 (de g d).1.2 x.file x.b;have cNk:=S7.sync x.file;have uz:=awx dZ hm;have Cz:=awv dZ hm;have A2:=awz dZ hm;generalize fj g d p=G at *
   generalize de g d=m at *
   obtain⟨⟨g1,d1⟩,me⟩:=m;simp only at *
   subst hm;refine⟨λvs w=>vs=[Γ (d1.append x.file x.b).2]/\SL W (.pt wb [Γ x.file,.bool x.fresh,.slice a x.b.length c] 343::.ob (bI (.slice a x.b.length c) 5 1 x.b.length (x.b.map cX))::.ob (dc lp dp g1)::.ob (bX dp (d1.append x.file x.b).1)::X::F) w,?_,?_⟩
   ·refine Gp ?_;refine za (λ_=>?_) (λh=>absurd rfl h);obtain⟨sv,tv,xs,hx,hS⟩:=dc.iff.1 (SL.bZ hS (t:=.ob (dc lp dp g1)::.pt wb [Γ x.file,.bool x.fresh,.slice a x.b.length c] 343::.ob (bI (.slice a x.b.length c) 5 1 x.b.length (x.b.map cX))::.ob (bX dp d1)::X::F) Xi);refine Gn λw hS=>?_;refine Cg (He (.ob (bI (.slice a x.b.length c) 5 1 x.b.length (x.b.map cX))) dp d1 N Fo (by omega) x.file _ x.b (λhS h=>mZ hS h) (by omega)) λw hS=>?_;have hS:=dc.iff.2 ⟨sv,tv,xs,hx,SL.bZ hS (t:=.pt lp (eI sv tv dp g1.base g1.size) 186::eH sv xs::.ob (ze dM xs)::.ob (eX tv g1.du)::.pt wb [Γ x.file,.bool x.fresh,.slice a x.b.length c] 343::.ob (bI (.slice a x.b.length c) 5 1 x.b.length (x.b.map cX))::.ob (bX dp (d1.append x.file x.b).1)::X::F) Xi⟩;exact aW hS
   clear hS;rintro v7 w ⟨eP,hS⟩;cases eP;by_cases ha:(d1.append x.file x.b).2=0
   ·rw[ha];refine⟨λvs w=>vs=[Γ ((d1.append x.file x.b).1.sync x.file).2]/\SL W (.pt wb [Γ x.file,.bool x.fresh,.slice a x.b.length c] 343::.ob (bI (.slice a x.b.length c) 5 1 x.b.length (x.b.map cX))::.ob (dc lp dp g1)::.ob (bX dp ((d1.append x.file x.b).1.sync x.file).1)::X::F) w,?_,?_⟩
    ·refine Gp ?_;refine za (λ_=>?_) (λh=>absurd rfl h);obtain⟨sv,tv,xs,hx,hS⟩:=dc.iff.1 (SL.bZ hS (t:=.ob (dc lp dp g1)::.pt wb [Γ x.file,.bool x.fresh,.slice a x.b.length c] 343::.ob (bI (.slice a x.b.length c) 5 1 x.b.length (x.b.map cX))::.ob (bX dp (d1.append x.file x.b).1)::X::F) Xi);refine Gn λw hS=>?_;refine Cg (Yj dp (d1.append x.file x.b).1 _ S7 (by omega) x.file) λw hS=>?_;have hS:=dc.iff.2 ⟨sv,tv,xs,hx,SL.bZ hS (t:=.pt lp (eI sv tv dp g1.base g1.size) 186::eH sv xs::.ob (ze dM xs)::.ob (eX tv g1.du)::.pt wb [Γ x.file,.bool x.fresh,.slice a x.b.length c] 343::.ob (bI (.slice a x.b.length c) 5 1 x.b.length (x.b.map cX))::.ob (bX dp ((d1.append x.file x.b).1.sync x.file).1)::X::F) Xi⟩;exact aW hS
    clear hS;rintro v7 w ⟨eP,hS⟩;cases eP;by_cases hs:((d1.append x.file x.b).1.sync x.file).2=0
    ·rw[hs];have hG:=uz ha hs;subst hG;clear uz Cz A2 hao;generalize ((d1.append x.file x.b).1.sync x.file).1=d3 at *
     refine Gp ?_;refine za (λh=>absurd rfl h) (λ_=>?_);obtain⟨sv,tv,xs,hx,hS⟩:=dc.iff.1 (SL.bZ hS (t:=.ob (dc lp dp g1)::.pt wb [Γ x.file,.bool x.fresh,.slice a x.b.length c] 343::.ob (bX dp d3)::X::F) Xi);obtain⟨A7,jY,_,_⟩:=AT.xs hx;have mv:cI (xs.map dK.pl)=cI g.bF:=by rw[hx,AU.1]
     have Iy:=hw.hd;have xd:=th hg.bF;have bUk:=Vy hg hw;refine⟨λvs w=>vs=[]/\∃jQ c_,c_.map dK.pl=tI g.bF x/\c_.length<=xs.length+1/\SL W (.pt lp (eI jQ tv dp g1.base g1.size) 186::eH jQ c_::.ob (ze dM c_)::.ob (eX tv g1.du)::.pt wb [Γ x.file,.bool x.fresh,.slice a x.b.length c] 343::.ob (bX dp d3)::X::F) w,?_,?_⟩
     ·refine Gp ?_;unfold tI;refine yU (λhf=>?_) (λhf=>?_)
      ·rw[zzc hf];refine Gn λw hS=>?_;refine Cg (ye lp (eI sv tv dp g1.base g1.size) 186 sv xs rfl A7 (by omega) (by omega)) λw hS=>?_;refine Gm λb w hS=>?_;rw[mv]at hS
       have tz:=dq.one hS (v:=sv) (t:=268) (sz:=4) (n:=xs.length) (cells:=(xs.map fx).flatten) Xh;refine ZQ (m:=1) (cs:=[Γ x.file,Γ (cI g.bF+1),Γ 0,Θ]) hS Xr (j8 hS .hd rfl) rfl rfl (by simp[Value.oneCell']) (by omega) (by omega) ?_;clear hS;intro jQ w hS;have tz:=dq.one hS (v:=jQ) .hd;refine Gn λw hS=>?_;have hS:=dq.rB (a:=none) (t:=205) (sz:=1) hS;have hS:=ze.nil (A:=gF) (SL.bZ hS (t:=.ob (dq Θ 205 1 0 [])::.ob (ze dM xs)::.pt lp (eI jQ tv dp g1.base g1.size) 186::.ob (dq jQ 268 4 (xs.length+1) ((xs.map fx).flatten++[Γ x.file,Γ (cI g.bF+1),Γ 0,Θ]))::.ob (eX tv g1.du)::.pt wb [Γ x.file,.bool x.fresh,.slice a x.b.length c] 343::.ob (bX dp d3)::X::F) Xi);have hS:=(dM.iff (x:=⟨x.file,cI g.bF+1,0,[],none,0⟩)).2 (SL.bZ hS (t:=.ob (dq Θ 205 1 0 [])::.ob (ze gF [])::.ob (ze dM xs)::.pt lp (eI jQ tv dp g1.base g1.size) 186::.ob (dq jQ 268 4 (xs.length+1) ((xs.map fx).flatten++[Γ x.file,Γ (cI g.bF+1),Γ 0,Θ]))::.ob (eX tv g1.du)::.pt wb [Γ x.file,.bool x.fresh,.slice a x.b.length c] 343::.ob (bX dp d3)::X::F) Xi);have hS:=ze.snoc (SL.bZ hS (t:=.ob (ze dM xs)::.ob (dM ⟨x.file,cI g.bF+1,0,[],none,0⟩)::.pt lp (eI jQ tv dp g1.base g1.size) 186::.ob (dq jQ 268 4 (xs.length+1) ((xs.map fx).flatten++[Γ x.file,Γ (cI g.bF+1),Γ 0,Θ]))::.ob (eX tv g1.du)::.pt wb [Γ x.file,.bool x.fresh,.slice a x.b.length c] 343::.ob (bX dp d3)::X::F) Xi);have e1:xs.length+1=(xs++[(⟨x.file,cI g.bF+1,0,[],none,0⟩:dK)]).length:=by simp
       have e2:(xs.map fx).flatten++[Γ x.file,Γ (cI g.bF+1),Γ 0,Θ]=((xs++[(⟨x.file,cI g.bF+1,0,[],none,0⟩:dK)]).map fx).flatten:=by simp[fx,dK.lv]
       rw[e1,e2]at hS
       refine⟨jQ,xs++[⟨x.file,cI g.bF+1,0,[],none,0⟩],?_,by simp,aW hS⟩;rw[zzs,hx,AU.1];rfl
      rw[zzb (by rw[hf];decide)];exact⟨rfl,sv,xs,by rw[hx,AU.1],by omega,aW hS⟩
     clear hS A7 mv;rintro w ⟨-,jQ,c_,mW,re,hS⟩;obtain⟨A,s,hA⟩:=JG hw;rw[F0 _ _ _ hA];have hle:0<c_.length:=by
      have:=yyu List.length mW;rw[hA]at this;simp at this;omega
     have hj:c_.length-1<c_.length:=by omega
     have pS:c_=c_.take (c_.length-1)++[c_[c_.length-1]]:=by
      conv=>lhs;rw[<- yyl (c_.length-1) c_]
      rw[yyq hj,yy3 (by omega)]
     have EN:A=(c_.take (c_.length-1)).map dK.pl/\s=(c_[c_.length-1]).pl:=by
      rw[pS,zzs]at mW
      rw[hA]at mW
      have:=List.append_inj' mW rfl;exact⟨this.1.symm,by simpa using this.2.symm⟩
     obtain⟨wU,vC⟩:=EN;subst wU vC;have Ug:=bUk (c_[c_.length-1]).pl (by rw[hA];simp);have z1:=Ug.sz;have z2:=Ug.ln;have hS:=ze.take (t:=c_.length-1) (SL.bZ hS (t:=.ob (ze dM c_)::eH jQ c_::.pt lp (eI jQ tv dp g1.base g1.size) 186::.ob (eX tv g1.du)::.pt wb [Γ x.file,.bool x.fresh,.slice a x.b.length c] 343::.ob (bX dp d3)::X::F) Xi) (zzd hj);have hS:=dM.iff.1 hS;obtain⟨rb,ro,rc,AA,BB,rfl,hAA,hS,mQ⟩:=eH.at (SL.bZ hS (t:=eH jQ c_::.ob (dq (c_[c_.length-1]).lv 205 1 (c_[c_.length-1]).es.length (gr (c_[c_.length-1]).es))::.ob (ze gF (c_[c_.length-1]).es)::.ob (ze dM (c_.eraseIdx (c_.length-1)))::.pt lp (eI jQ tv dp g1.base g1.size) 186::.ob (eX tv g1.du)::.pt wb [Γ x.file,.bool x.fresh,.slice a x.b.length c] 343::.ob (bX dp d3)::X::F) Xi) hj;generalize Uo:c_[c_.length-1]=x0 at *
     have z1:x0.size<=M:=z1;have z2:x0.es.length<=M:=by simpa [dK.pl,Ag] using z2
     refine Gn λw hS=>?_;have e:((c_.length:Nat):Int)-1=((c_.length-1:Nat):Int):=by omega
     rw[e];refine zG hj ?_;rw[<- hAA];refine Gn λw hS=>?_;refine zV hS Xh (Bl (i:=2) (u:=Γ x0.size) rfl) ?_;refine Gp ?_;refine ZA hS Xu (Bl (i:=2) (u:=Γ x0.size) rfl) rfl ?_;clear hS;intro w hS;rw[Wa (by rw[Gu];decide)]at hS
     have e5:(fx x0).set 2 (Γ ((x0.size+x.b.length:Nat):Int))=[Γ x0.file,Γ x0.first,Γ ((x0.size+x.b.length:Nat):Int),x0.lv]:=rfl;rw[e5]at hS
     refine Gn λw hS=>?_;refine zV hS Xh (Bl (i:=3) (u:=x0.lv) rfl) ?_;refine Zn (cs:=p.map cX) hS (λw' c gA=>hv.src gA (.tl Xh)) (by simp) (uQ _) (by omega) ?_;clear hS;intro u w hS _;have hu:=hS.rD .hd;obtain⟨ua,uc,eu,_⟩:=bI.at hS .hd;subst eu;refine zV hS Xh (Bl (i:=3) (u:=x0.lv) rfl) ?_;refine Gm λb w hS=>?_;refine zV hS Xh (Bl (i:=3) (u:=x0.lv) rfl) ?_;refine Gp ?_;refine ZQ (t:=205) (sz:=1) (n:=x0.es.length) (cells:=gr x0.es) (m:=1) (cs:=[.slice ua p.length uc]) hS Xr (j8 hS .hd rfl) rfl rfl (by simp[Value.oneCell']) (by omega) (by omega) ?_;clear hS;intro v' w hS;have tz:=dq.one hS (v:=v') .hd;obtain⟨a',c',ev,_⟩:=dq.at hS (v:=v') .hd;subst ev;refine Gp ?_;refine ZA hS Xu (Bl (i:=3) (u:=x0.lv) rfl) tz ?_;clear hS;intro w hS;rw[Wa (by show 3<4;decide)]at hS
     have e6:([Γ x0.file,Γ x0.first,Γ ((x0.size+x.b.length:Nat):Int),x0.lv]:Ξ).set 3 (.slice a' (x0.es.length+1) c')=fx ⟨x0.file,x0.first,x0.size+x.b.length,x0.es++[(.slice ua p.length uc,p)],a',c'⟩:=by
      simp[fx,dK.lv]
     rw[e6]at hS
     let y:dK:=⟨x0.file,x0.first,x0.size+x.b.length,x0.es++[(.slice ua p.length uc,p)],a',c'⟩
     have ou:(c_.set (c_.length-1) y).map dK.pl=(c_.take (c_.length-1)).map dK.pl++[uZ x0.pl x.b.length p]:=by
      rw[xxc,zzc hj,yy3 (by omega),zzs];congr 1;simp[y,dK.pl,uZ,oL]
     have xu:=(Wd hg hw).1;rw[F0 _ _ _ hA,<- ou]at xu
     have hS:=mQ y w _ (SL.bZ hS (t:=.pt rb (AA++(fx y++BB)) 268::.ob (dq (.slice a' (x0.es.length+1) c') 205 1 (x0.es.length+1) (gr x0.es++[.slice ua p.length uc]))::.ob (bI (.slice ua p.length uc) 5 1 p.length (p.map cX))::.ob (ze gF x0.es)::.ob (ze dM (c_.eraseIdx (c_.length-1)))::.pt lp (eI (.slice (some ⟨rb,ro,none⟩) c_.length rc) tv dp g1.base g1.size) 186::.ob (eX tv g1.du)::.ob (bX dp d3)::X::F) Xi);have hS:=SL.bZ hS (t:=.ob (bI (.slice ua p.length uc) 5 1 p.length (p.map cX))::.ob (ze gF x0.es)::.ob (dq (.slice a' (x0.es.length+1) c') 205 1 (x0.es.length+1) (gr x0.es++[.slice ua p.length uc]))::.ob (ze dM (c_.eraseIdx (c_.length-1)))::eH (.slice (some ⟨rb,ro,none⟩) c_.length rc) (c_.set (c_.length-1) y)::.pt lp (eI (.slice (some ⟨rb,ro,none⟩) c_.length rc) tv dp g1.base g1.size) 186::.ob (eX tv g1.du)::.ob (bX dp d3)::X::F) Xi;have hS:SL W (.ob (gF (.slice ua p.length uc,p))::.ob (ze gF x0.es)::.ob (dq (.slice a' (x0.es.length+1) c') 205 1 (x0.es.length+1) (gr x0.es++[.slice ua p.length uc]))::.ob (ze dM (c_.eraseIdx (c_.length-1)))::eH (.slice (some ⟨rb,ro,none⟩) c_.length rc) (c_.set (c_.length-1) y)::.pt lp (eI (.slice (some ⟨rb,ro,none⟩) c_.length rc) tv dp g1.base g1.size) 186::.ob (eX tv g1.du)::.ob (bX dp d3)::X::F) w:=hS;have hS:=ze.snoc (hS.perm (.swap _ _ _));have e7:x0.es.length+1=y.es.length:=by simp[y]
     have e8:gr x0.es++[.slice ua p.length uc]=gr y.es:=by simp[y,gr]
     rw[e7,e8]at hS
     have hS:=(dM.iff (x:=y)).2 (SL.bZ hS (t:=.ob (dq (.slice a' y.es.length c') 205 1 y.es.length (gr y.es))::.ob (ze gF (x0.es++[(.slice ua p.length uc,p)]))::.ob (ze dM (c_.eraseIdx (c_.length-1)))::eH (.slice (some ⟨rb,ro,none⟩) c_.length rc) (c_.set (c_.length-1) y)::.pt lp (eI (.slice (some ⟨rb,ro,none⟩) c_.length rc) tv dp g1.base g1.size) 186::.ob (eX tv g1.du)::.ob (bX dp d3)::X::F) Xi);have hS:=ze.put hS hj;refine Gp ?_;refine Cg (ye lp (eI (.slice (some ⟨rb,ro,none⟩) c_.length rc) tv dp g1.base g1.size) 186 (.slice (some ⟨rb,ro,none⟩) c_.length rc) (c_.set (c_.length-1) y) rfl xu (by omega) (by rw[yyh];omega)) λw hS=>?_;rw[ou];have hS:=(dc.iff (g:={bF:=(c_.take (c_.length-1)).map dK.pl++[uZ x0.pl x.b.length p],base:=g1.base,size:=g1.size,du:=g1.du})).2 ⟨_,tv,c_.set (c_.length-1) y,ou,SL.bZ hS (t:=.pt lp (eI (.slice (some ⟨rb,ro,none⟩) c_.length rc) tv dp g1.base g1.size) 186::eH (.slice (some ⟨rb,ro,none⟩) c_.length rc) (c_.set (c_.length-1) y)::.ob (ze dM (c_.set (c_.length-1) y))::.ob (eX tv g1.du)::.ob (bX dp d3)::X::F) Xi⟩;exact cA hS
    have hG:=A2 ha hs;subst hG;refine Gp ?_;refine za (λ_=>?_) (λh=>absurd hs h);(exact cA hS)
   have hG:=Cz ha;subst hG;refine⟨λvs w=>vs=[Γ (d1.append x.file x.b).2]/\SL W (.ob (dc lp dp g1)::.ob (bX dp (d1.append x.file x.b).1)::X::F) w,?_,?_⟩
   ·refine Gp ?_;refine za (λh=>absurd h ha) (λ_=>⟨rfl,aW hS⟩)
   clear hS;rintro v7 w ⟨eP,hS⟩;cases eP;refine Gp ?_;refine za (λ_=>?_) (λh=>absurd ha h);(exact cA hS)
  rw[awy dZ hm];refine⟨λvs w=>vs=[Γ (de g d).2]/\SL W (.ob (dc lp dp (de g d).1.1)::.ob (bX dp (de g d).1.2)::X::F) w,?_,?_⟩
  ·refine Gp ?_;refine za (λh=>absurd h hm) (λ_=>⟨rfl,aW hS⟩)
  clear hS;rintro v7 w ⟨eP,hS⟩;cases eP;refine⟨λvs w=>vs=[Γ (de g d).2]/\SL W (.ob (dc lp dp (de g d).1.1)::.ob (bX dp (de g d).1.2)::X::F) w,?_,?_⟩
  ·refine Gp ?_;refine za (λh=>absurd h hm) (λ_=>⟨rfl,hS⟩)
  clear hS;rintro v7 w ⟨eP,hS⟩;cases eP;refine Gp ?_;refine za (λ_=>?_) (λh=>absurd hm h);(exact cA hS)
def cBx{g:cU}{d:DS}{p:Φ}{k e:Int}(hk:0<=k)(h:eN g d.off p= .error e):gk g d p k=((g,d),e):=by
 unfold gk;rw[zzb (by omega),h]
def cBz{g:cU}{d:DS}{p:Φ}{k:Int}{x:hU}(hk:0<=k)(h:eN g d.off p= .ok x)(hm:(de g d).2≠0):gk g d p k=((de g d).1,(de g d).2):=by
 unfold gk;rw[zzb (by omega),h];simp only;rw[zzc hm]
def cBv{g:cU}{d:DS}{p:Φ}{k:Int}{x:hU}(hk:0<=k)(h:eN g d.off p= .ok x)(hm:(de g d).2=0)(ha:((de g d).1.2.append x.file (x.b.take (k.toNat % x.b.length))).2≠0):
  gk g d p k=(((de g d).1.1,((de g d).1.2.append x.file (x.b.take (k.toNat % x.b.length))).1),((de g d).1.2.append x.file (x.b.take (k.toNat % x.b.length))).2):=by
 unfold gk;rw[zzb (by omega),h];simp only;rw[zzb (by simp[hm]),zzc ha]
def cBy{g:cU}{d:DS}{p:Φ}{k:Int}{x:hU}(hk:0<=k)(h:eN g d.off p= .ok x)(hm:(de g d).2=0)(ha:((de g d).1.2.append x.file (x.b.take (k.toNat % x.b.length))).2=0):
  gk g d p k=(({(de g d).1.1 with du:=some ⟨x.file,if x.fresh=true then 0 else lH g.bF,x.fresh⟩},((de g d).1.2.append x.file (x.b.take (k.toNat % x.b.length))).1),0):=by
 unfold gk;rw[zzb (by omega),h];simp only;rw[zzb (by simp[hm]),zzb (by simp[ha]),(tH g d).1]
def Q5(X:Μ)(lp dp:Nat)(g:cU)(d:DS)(v:Ε)(p:Φ)(k:Int)(hv:dP X v p)(hp:p.length<=140737488355328){M N:Nat}(hg:g.Ok M)(hM:M<=1000000000000)(cG:d.Ok N)(hN:N<=140737480000000)(dS:d.ops<=90000):
  SP 344 [Δ lp,v,Γ k] [.ob (dc lp dp g),.ob (bX dp d),X] (cC (Γ (gk g d p k).2) [.ob (dc lp dp (gk g d p k).1.1),.ob (bX dp (gk g d p k).1.2),X]):=by
 refine Enzz λW F w hS=>?_;apply cIv;delta OG aI bU a_ cV bV cL ai bR;obtain⟨va,vc,rfl,Jc⟩:=hv.sl hS Xh;refine bY (λhk=>?_) (λhk=>?_)
 ·have:gk g d p k=((g,d),1):=by unfold gk;rw[zzc hk]
  rw[this];(exact cA hS)
 have hk:0<=k:=by omega
 refine Cc (ZJ X lp dp g d _ p hv hp hg (by omega) cG (by omega) (by omega)) ?_;clear hS;rintro r post hQ w hS;cases dZ:eN g d.off p with
 | error e=>
  rw[dZ]at hQ
  obtain⟨hz,rfl,rfl⟩:=hQ;rw[cBx hk dZ];refine Gm λb w hS=>?_;refine⟨λvs w=>vs=[Γ e]/\SL W (.ob (dc lp dp g)::.ob (bX dp d)::X::F) w,?_,?_⟩
  ·refine Gp ?_;refine za (λh=>absurd h hz) (λ_=>⟨rfl,aW hS⟩)
  clear hS;rintro v7 w ⟨eP,hS⟩;cases eP;refine Gp ?_;refine za (λ_=>?_) (λh=>absurd hz h);(exact cA hS)
 | ok x=>
  rw[dZ]at hQ
  obtain⟨a,c,rfl,rfl⟩:=hQ;have hw:=FY hg dZ;have Fo:=FU (g:=g) cG;have AT:=JF (d:=d) hg;have AU:=tH g d;have sr:=V4 g d;have pK:=hw.bl;have hpp:=hw.pl;have xw:=hw.pos;refine Gm λb w hS=>?_;obtain⟨wb,rfl⟩:∃k,k=b:=⟨b,rfl⟩;by_cases hm:(de g d).2=0
  ·have uz:=cBy hk dZ hm;have Cz:=cBv hk dZ hm;generalize gk g d p k=G at *
   generalize de g d=m at *
   obtain⟨⟨g1,d1⟩,me⟩:=m;simp only at *
   subst hm;obtain⟨kn,rfl⟩:=wwb hk;simp only[zzw]at Cz uz;generalize hq:kn % x.b.length=q at *
   have Fu:q<=x.b.length:=by
    have:=vvi kn (show 0<x.b.length by omega);omega
   refine⟨λvs w=>vs=[Γ (d1.append x.file (x.b.take q)).2]/\SL W (.pt wb [Γ x.file,.bool x.fresh,.slice a x.b.length c] 343::.ob (bI (.slice a x.b.length c) 5 1 x.b.length (x.b.map cX))::.ob (dc lp dp g1)::.ob (bX dp (d1.append x.file (x.b.take q)).1)::X::F) w,?_,?_⟩
   ·refine Gp ?_;refine za (λ_=>?_) (λh=>absurd rfl h);obtain⟨sv,tv,xs,hx,hS⟩:=dc.iff.1 (SL.bZ hS (t:=.ob (dc lp dp g1)::.pt wb [Γ x.file,.bool x.fresh,.slice a x.b.length c] 343::.ob (bI (.slice a x.b.length c) 5 1 x.b.length (x.b.map cX))::.ob (bX dp d1)::X::F) Xi);refine Gn λw hS=>?_;rw[hq];have dH:dP (.ob (bI (.slice a x.b.length c) 5 1 x.b.length (x.b.map cX))) (.slice a x.b.length c) x.b:=dP.own;refine WH hS Xh dH Fu ?_;intro u hu;refine Cg (He (.ob (bI (.slice a x.b.length c) 5 1 x.b.length (x.b.map cX))) dp d1 N Fo (by omega) x.file u (x.b.take q) (λhS h=>hu.src hS h) (by rw[zzf];omega)) λw hS=>?_;have hS:=dc.iff.2 ⟨sv,tv,xs,hx,SL.bZ hS (t:=.pt lp (eI sv tv dp g1.base g1.size) 186::eH sv xs::.ob (ze dM xs)::.ob (eX tv g1.du)::.pt wb [Γ x.file,.bool x.fresh,.slice a x.b.length c] 343::.ob (bI (.slice a x.b.length c) 5 1 x.b.length (x.b.map cX))::.ob (bX dp (d1.append x.file (x.b.take q)).1)::X::F) Xi⟩;exact aW hS
   clear hS;rintro v7 w ⟨eP,hS⟩;cases eP;by_cases ha:(d1.append x.file (x.b.take q)).2=0
   ·rw[ha];have hG:=uz ha;subst hG;refine Gp ?_;refine za (λh=>absurd rfl h) (λ_=>?_);obtain⟨sv,tv,xs,hx,hS⟩:=dc.iff.1 (SL.bZ hS (t:=.ob (dc lp dp g1)::.pt wb [Γ x.file,.bool x.fresh,.slice a x.b.length c] 343::.ob (bX dp (d1.append x.file (x.b.take q)).1)::X::F) Xi);refine Gp ?_;refine⟨_,rfl,zE hS ?_⟩;clear hS;intro tb w hS;have Uj:=aif (SL.bZ hS (t:=.ob (eX tv g1.du)::F) Xi);refine Gn λw hS=>?_;cases hf:x.fresh with
    | true=>
     rw[hf]at hS
     refine zp ?_;simp only[ww8];have hS:=(Ac (v:=Δ tb) (x:=⟨x.file,0,true⟩)).2 ⟨tb,rfl,SL.bZ hS (t:=.pt tb [Γ x.file,Γ 0,.bool true] 454::.pt lp (eI sv (Δ tb) dp g1.base g1.size) 186::eH sv xs::.ob (ze dM xs)::.ob (bX dp (d1.append x.file (x.b.take q)).1)::X::F) Xi⟩;have hS:=(dc.iff (g:={bF:=g1.bF,base:=g1.base,size:=g1.size,du:=some ⟨x.file,0,true⟩})).2 ⟨sv,_,xs,hx,SL.bZ hS (t:=.pt lp (eI sv (Δ tb) dp g1.base g1.size) 186::eH sv xs::.ob (ze dM xs)::.ob (eX (Δ tb) (some ⟨x.file,0,true⟩))::.ob (bX dp (d1.append x.file (x.b.take q)).1)::X::F) Xi⟩;exact cA hS
    | false=>
     rw[hf]at hS
     refine zq ?_;simp only[vvm,vvo];obtain⟨_,jY,_,_⟩:=AT.xs hx;obtain⟨s,AS,hsf⟩:=hw.nN hf;rw[<- AU.1,<- hx]at AS
     have hle:0<xs.length:=by
      rcases yy8 xs.length with h0|h0
      ·rw[zzp h0]at AS;simp at AS
      exact h0
     have hj:xs.length-1<xs.length:=by omega
     have hsx:s=(xs[xs.length-1]'hj).pl:=by
      rw[uum,xx0,zzd hj]at AS
      exact (xx5 AS).symm
     have IL:lH g.bF=((xs[xs.length-1]'hj).size:Nat):=by
      unfold lH;rw[<- AU.1,<- hx,AS,hsx];rfl
     rw[IL];refine Gn λw hS=>?_;refine zK hS (v:=sv) (t:=268) (sz:=4) (n:=xs.length) (cells:=(xs.map fx).flatten) Xh ?_;refine Gp ?_;have e:((xs.length:Nat):Int)-1=((xs.length-1:Nat):Int):=by omega
     rw[e];refine Y3 (i:=2) hS Xh hj (u:=Γ ((xs[xs.length-1]'hj).size:Nat)) rfl ?_;generalize (xs[xs.length-1]'hj).size=z at *
     refine Gn λw hS=>?_;have hS:=(Ac (v:=Δ tb) (x:=⟨x.file,(z:Int),false⟩)).2 ⟨tb,rfl,SL.bZ hS (t:=.pt tb [Γ x.file,Γ (z:Int),.bool false] 454::.pt lp (eI sv (Δ tb) dp g1.base g1.size) 186::eH sv xs::.ob (ze dM xs)::.ob (bX dp (d1.append x.file (x.b.take q)).1)::X::F) Xi⟩;have hS:=(dc.iff (g:={bF:=g1.bF,base:=g1.base,size:=g1.size,du:=some ⟨x.file,(z:Int),false⟩})).2 ⟨sv,_,xs,hx,SL.bZ hS (t:=.pt lp (eI sv (Δ tb) dp g1.base g1.size) 186::eH sv xs::.ob (ze dM xs)::.ob (eX (Δ tb) (some ⟨x.file,(z:Int),false⟩))::.ob (bX dp (d1.append x.file (x.b.take q)).1)::X::F) Xi⟩;exact cA hS
   have hG:=Cz ha;subst hG;refine Gp ?_;refine za (λ_=>?_) (λh=>absurd ha h);(exact cA hS)
  rw[cBz hk dZ hm];refine⟨λvs w=>vs=[Γ (de g d).2]/\SL W (.ob (dc lp dp (de g d).1.1)::.ob (bX dp (de g d).1.2)::X::F) w,?_,?_⟩
  ·refine Gp ?_;refine za (λh=>absurd h hm) (λ_=>⟨rfl,aW hS⟩)
  clear hS;rintro v7 w ⟨eP,hS⟩;cases eP;refine Gp ?_;refine za (λ_=>?_) (λh=>absurd hm h);(exact cA hS)
def Zp(lp dp:Nat)(g:cU)(d:DS)(n:Int){M N:Nat}(hg:g.Ok M)(hM:M<=1000000000000)(cG:d.Ok N)(dS:d.ops+g.bF.length<=100000):
  SP 182 [Δ lp,Γ n] [.ob (dc lp dp g),.ob (bX dp d)] (cC (Γ (gR g d n).2) [.ob (dc lp dp (gR g d n).1.1),.ob (bX dp (gR g d n).1.2)]):=by
 refine Enzz λW F w hS=>?_;apply cE3;delta Ms aI bU a_ bV ai;obtain⟨sv,tv,xs,hx,hS⟩:=dc.iff.1 hS;refine Gp ?_;refine Cg (zM dp d) λw hS=>?_;refine yU (λho=>?_) (λho=>?_)
 ·have e:gR g d n=((g,d),8):=by unfold gR;rw[zzc ho]
  rw[e];have hS:=(dc.iff (g:=g)).2 ⟨sv,tv,xs,hx,SL.bZ hS (t:=.pt lp (eI sv tv dp g.base g.size) 186::eH sv xs::.ob (ze dM xs)::.ob (eX tv g.du)::.ob (bX dp d)::F) Xi⟩;exact cA hS
 have e:gR g d n=(({g with bF:=(gE g.bF d n).1.1},(gE g.bF d n).1.2),(gE g.bF d n).2):=by unfold gR;rw[zzb (by rw[ho];decide)]
 rw[e];have gC:∀{w:Ζ} {sv:Ε} {xs:List dK} {d':DS},SL W (.pt lp (eI sv tv dp g.base g.size) 186::eH sv xs::.ob (ze dM xs)::.ob (eX tv g.du)::.ob (bX dp d')::F) w->SL W (.ob (dc lp dp {g with bF:=xs.map dK.pl})::.ob (bX dp d')::F) w:=λh=>(dc.iff (g:={g with bF:=_})).2 ⟨_,tv,_,rfl,h⟩;refine⟨λvs w=>vs=[]/\∃a c c_ d',gE g.bF d n=gE (c_.map dK.pl) d' n/\(∀s∈c_.map dK.pl,kR s M)/\c_.length<=M/\d'.Ok N/\d'.ops+c_.length<=100000/\SL W (.pt lp (eI (.slice a c_.length c) tv dp g.base g.size) 186::eH (.slice a c_.length c) c_::.ob (ze dM c_)::.ob (eX tv g.du)::.ob (bX dp d')::F) w,
  λ_ w=>match w.cell? ⟨lp,0,none⟩ with|some (.slice _ n _)=>n|_=>0,?_,?_⟩
 ·obtain⟨a,c,rfl,_⟩:=dq.at hS (v:=sv) (t:=268) (sz:=4) (n:=xs.length) (cells:=(xs.map fx).flatten) Xh;have hl:xs.length=g.bF.length:=by rw[<- hx,zzn]
  exact⟨rfl,a,c,xs,d,by rw[hx],by rw[hx];exact hg.bF,by rw[hl];exact hg.ln,cG,by rw[hl];exact dS,aW hS⟩
 clear hS hx;rintro w ⟨-,a,c,c_,d',A4,C8,hlen,TY,IY,hS⟩;rw[A4];have w9:=hS.cell (b:=lp) (o:=0) .hd rfl;refine bY (λh1=>?_) (λh1=>?_)
 ·match c_,h1,C8,hlen,A4,IY,hS,w9 with
  | x0::x1::r,_,C8,hlen,A4,IY,hS,w9=>
  have xA:=C8 x0.pl (by simp);have k9:gE ((x0::x1::r).map dK.pl) d' n=if x0.pl.next-1<=n then (if (d'.remove x0.pl.file).2≠0 then (((x0::x1::r).map dK.pl,(d'.remove x0.pl.file).1),(d'.remove x0.pl.file).2) else gE ((x1::r).map dK.pl) (d'.remove x0.pl.file).1 n) else (((x0::x1::r).map dK.pl,d'),0):=by
   simp only[zzo];rw[gE]
  have k0:=xA.n0;have k1:=xA.n1;have k2:=xA.ln;have o8:x0.pl.next=x0.pl.first+x0.pl.l.length:=rfl;refine Gp ?_;refine ZR (j:=0) hS Xh (by simp) ?_;show zQ _ _ [.agg (fx x0).toArray] _ _;refine Cg (y6 x0 xA (by omega)) λw hS=>?_;refine za (λh2=>?_) (λh2=>?_)
  ·rw[zzc h2]at k9
   refine Gn λw hS=>?_;refine Y3 (j:=0) (i:=0) hS Xh (by simp) (u:=Γ x0.file) rfl ?_;refine Cg (yP dp d' N TY (by omega) x0.file) λw hS=>?_;have uC:=TY.remove x0.file;have I5:=V5 d' x0.file;have A6:x0.pl.file=x0.file:=rfl;rw[A6]at k9
   refine za (λh3=>?_) (λh3=>?_)
   ·rw[k9,zzc h3];have hS:=gC (aW hS);exact cA hS
   rw[zzb h3]at k9
   rw[k9]at A4 ⊢
   refine Gp ?_;refine Yd (k:=1) (SL.bZ hS (t:=eH (.slice a (x0::x1::r).length c) (x0::x1::r)::.pt lp (eI (.slice a (x0::x1::r).length c) tv dp g.base g.size) 186::.ob (ze dM (x0::x1::r))::.ob (eX tv g.du)::.ob (bX dp (d'.remove x0.file).1)::F) Xi) (by simp) ?_;clear hS;intro u hS;have e1:(x0::x1::r).length-1=(x1::r).length:=by simp
   have e2:((x0::x1::r).map fx).flatten.drop (1*4)=((x1::r).map fx).flatten:=by simp[fx]
   rw[e1,e2]at hS
   obtain⟨ua,uc,rfl,_⟩:=dq.at hS (v:=u) .hd;have hS:=ze.take (t:=0) (x:=x0) (SL.bZ hS (t:=.ob (ze dM (x0::x1::r))::.ob (dq (.slice ua (x1::r).length uc) 268 4 (x1::r).length ((x1::r).map fx).flatten)::.pt lp (eI (.slice a (x0::x1::r).length c) tv dp g.base g.size) 186::.ob (eX tv g.du)::.ob (bX dp (d'.remove x0.file).1)::F) Xi) rfl;have e3:(x0::x1::r).eraseIdx 0=x1::r:=rfl;rw[e3]at hS
   refine Gn λw hS=>?_;have gB:=hS.cell (b:=lp) (o:=0) (cs:=eI (.slice ua (x1::r).length uc) tv dp g.base g.size) (t:=186) Xh rfl;refine⟨⟨rfl,ua,uc,x1::r,(d'.remove x0.file).1,rfl,λs hs=>C8 s (by simp at hs ⊢;exact .inr hs),by simp at hlen ⊢;omega,uC,by simp at IY ⊢;omega,aW hS⟩,?_⟩;dsimp only;rw[gB,w9];simp
  rw[k9,zzb h2];have hS:=gC (aW hS);exact cA hS
 have k9:gE (c_.map dK.pl) d' n=((c_.map dK.pl,d'),0):=by
  match c_,h1 with
  | [],_=>rfl
  | [x],_=>rfl
  | _::_::_,h1=>simp at h1;omega
 rw[k9];have hS:=gC (aW hS);exact cA hS
def qr(lp dp:Nat)(g:cU)(d:DS){M N:Nat}(tg:0<=g.base)(EW:g.base<=12288)(cG:d.Ok N)(hR:d.R.length<=100000):
  SP 195 [Δ lp] [.ob (dc lp dp g),.ob (bX dp d)] (λv post=>post=[.ob (bI v 3 1 (fJ g.base d.R).length ((fJ g.base d.R).map (Value.int .i64))),.ob (dc lp dp g),.ob (bX dp d)]):=by
 refine Enzz λW F w hS=>?_;apply cFd;delta MC aI bU ai bR;obtain⟨sv,tv,xs,hx,hS⟩:=dc.iff.1 hS;refine Gp ?_;refine Cc (ZF dp d N cG hR) ?_;clear hS;rintro fl post rfl w hS;try simp only[app]at hS
 refine zt hS (t:=3) (sz:=1) (n:=d.R.length) (cells:=d.R.map λx=>Γ x.id) Xh ?_;have hS:SL W (.ob (bI Θ 3 1 (fJ g.base (d.R.take 0)).length ((fJ g.base (d.R.take 0)).map (Value.int .i64)))::_) w:=bI.nil hS;refine⟨λvs w=>∃(u:Ε) (i:Nat),i<=d.R.length/\vs=[u,Γ i]/\SL W (.ob (bI u 3 1 (fJ g.base (d.R.take i)).length ((fJ g.base (d.R.take i)).map (Value.int .i64)))::.pt lp (eI sv tv dp g.base g.size) 186::eH sv xs::.ob (ze dM xs)::.ob (eX tv g.du)::.ob (bX dp d)::.ob (bI fl 3 1 d.R.length (d.R.map λx=>Γ x.id))::F) w,
  λvs _=>match vs with|[_,.int _ i]=>(d.R.length-i).toNat|_=>0,⟨Θ,0,by omega,rfl,aW hS⟩,?_⟩
 clear hS;rintro v3 v12 w ⟨u,i,hi,eP,hS⟩;cases eP;refine bY (λh=>?_) (λh=>?_)
 ·have cx:i<d.R.length:=by omega
  have hu:(d.R.map λx=>Γ x.id)[i]?=some (Γ d.R[i].id):=by simp[cx]
  have cMt:(fJ g.base (d.R.take i)).length<=100000:=by
   unfold fJ;have:=yym (λf=>decide (g.base<=f/\f<g.base+4096)) ((d.R.take i).map PF.id);rw[zzn,zzf]at this
   omega
  have kZ:fJ g.base (d.R.take (i+1))=fJ g.base (d.R.take i)++if g.base<=d.R[i].id/\d.R[i].id<g.base+4096 then [d.R[i].id] else []:=by
   unfold fJ;rw[wwt,zzd cx,zzs,yy0];congr 1;simp only[Option.toList_some,zzo,yy4,vv0,List.filter_nil,zzy]
  have mU:∀{w:Ζ} {u:Ε},(fJ g.base (d.R.take (i+1))=fJ g.base (d.R.take i))->SL W (.ob (bI u 3 1 (fJ g.base (d.R.take i)).length ((fJ g.base (d.R.take i)).map (Value.int .i64)))::.pt lp (eI sv tv dp g.base g.size) 186::eH sv xs::.ob (ze dM xs)::.ob (eX tv g.du)::.ob (bX dp d)::.ob (bI fl 3 1 d.R.length (d.R.map λx=>Γ x.id))::F) w ->
    (∃(u':Ε) (i':Nat),i'<=d.R.length/\[u,Γ ((i+1:Nat):Int)]=[u',Γ i']/\SL W (.ob (bI u' 3 1 (fJ g.base (d.R.take i')).length ((fJ g.base (d.R.take i')).map (Value.int .i64)))::.pt lp (eI sv tv dp g.base g.size) 186::eH sv xs::.ob (ze dM xs)::.ob (eX tv g.du)::.ob (bX dp d)::.ob (bI fl 3 1 d.R.length (d.R.map λx=>Γ x.id))::F) w):=λe h=>⟨_,i+1,by omega,rfl,by rw[e];exact h⟩
  refine yg hS (t:=3) Xh cx hu ?_;refine bY (λh1=>?_) (λh1=>?_)
  ·refine bY (λh2=>?_) (λh2=>?_)
   ·rw[zzc ⟨h1,h2⟩]at kZ
    refine Gm λb w hS=>?_;refine zJ (m:=1) (cs:=[Γ d.R[i].id]) hS Xr (j8 hS .hd rfl) rfl rfl (by simp[Value.oneCell']) (by omega) (by omega) ?_;clear hS;intro v' w hS;have e1:(fJ g.base (d.R.take i)).length+1=(fJ g.base (d.R.take (i+1))).length:=by rw[kZ,zza];rfl
    have e2:(fJ g.base (d.R.take i)).map (Value.int .i64)++[Γ d.R[i].id]=(fJ g.base (d.R.take (i+1))).map (Value.int .i64):=by rw[kZ,zzs];rfl
    rw[e1,e2]at hS
    refine Gp ?_;exact⟨⟨v',i+1,by omega,rfl,aW hS⟩,by dsimp only;omega⟩
   rw[zzb (by omega),zzx]at kZ
   refine Gp ?_;exact⟨mU kZ hS,by dsimp only;omega⟩
  rw[zzb (by omega),zzx]at kZ
  refine Gp ?_;exact⟨mU kZ hS,by dsimp only;omega⟩
 have jL:i=d.R.length:=by omega
 subst jL;rw[zz0]at hS
 have hS:=(dc.iff (g:=g)).2 ⟨sv,tv,xs,hx,SL.bZ hS (t:=.pt lp (eI sv tv dp g.base g.size) 186::eH sv xs::.ob (ze dM xs)::.ob (eX tv g.du)::.ob (bI v3 3 1 (fJ g.base d.R).length ((fJ g.base d.R).map (Value.int .i64)))::.ob (bX dp d)::F) Xi⟩;exact⟨_,rfl,aW hS⟩
def czu(f:Nat):∀b:Φ,b.length<f->(∀p∈(jh b).1,p.length<=1048576)/\(jh b).1.length<=(jh b).2:=by
 induction f with
 | zero=>intro b h;omega
 | succ f ih=>
  intro b hb;cases h:gQ b with
  | error e=>rw[DF h];exact⟨by simp,by simp⟩
  | ok x=>
   obtain⟨p,n⟩:=x;have h2:=DM h;obtain⟨i1,i2⟩:=ih (b.drop n) (by rw[zzr];omega);rw[Gc h];refine⟨λq hq=>?_,?_⟩
   ·rcases zz8.1 hq with rfl|hq
    ·exact h2.2.2.1
    exact i1 q hq
   show (p::(jh (b.drop n)).1).length<=n+(jh (b.drop n)).2;rw[zzh];omega
def Wk{q:Φ}{f:Int}{l:List (Φ)}{n:Nat}(h:gP q=some (f,l,n)):1<=f/\f<=1099511627776/\n<=q.length/\l.length<=q.length/\∀p∈l,p.length<=1048576:=by
 obtain⟨h1,h2⟩:=czu (q.length+1) q (by omega);have h3:=czt (q.length+1) q (by omega);unfold gP at h;split at h
 ·cases h
 rename_i hd l' hs;rw[hs]at h1 h2
 cases hh:oX hd with
 | none=>rw[hh]at h;cases h
 | some k=>
  rw[hh]at h
  cases h;have hk:1<=f/\f<=1099511627776:=by
   unfold oX at hh;split at hh
   ·unfold E5 at hh;split at hh
    ·split at hh
     ·rename_i hc;cases hh;exact⟨hc.2.1,hc.2.2⟩
     cases hh
    cases hh
   cases hh
  refine⟨hk.1,hk.2,h3,?_,λp hp=>h1 p (.tail _ hp)⟩;rw[zzh]at h2;omega
def p3(R:List PF)(base:Int)(N:Nat):Prop:=∀x∈R,base<=x.id->x.id<base+4096->x.b.length<=N
def p3.all{R:List PF}{N:Nat}(h:∀x∈R,x.b.length<=N)(base:Int):p3 R base N:=λx hx _ _=>h x hx
def p3.at_{R:List PF}{base:Int}{N:Nat}(h:p3 R base N){f:Int}(hf:base<=f/\f<base+4096):∀x,dJ PF.id R f=some x->x.b.length<=N:=λx hx=>by
 obtain⟨h1,h2⟩:=uh hx;have h2:x.id=f:=h2;exact h x h1 (by omega) (by omega)
def U9{L:List da}{R:List PF}{f:Int}{last:Bool}{M N:Nat}(hR:∀x,dJ PF.id R f=some x->x.b.length<=N)(hN:N<=M)(f0:0<=f)(f1:f<=100000)(hL:∀s∈L,kR s M):(∀s∈(iY L R f last).2,kR s M)/\(iY L R f last).2.length<=L.length+1:=by
 have hq:(((dJ PF.id R f).map PF.b).getD []).length<=N:=by
  cases hg:dJ PF.id R f with
  | none=>simp
  | some x=>exact hR x hg
 unfold iY;generalize ((dJ PF.id R f).map PF.b).getD []=q at *
 simp only;cases hr:gP q with
 | none=>exact⟨hL,by simp⟩
 | some y=>
  obtain⟨k,l,n⟩:=y;have:=Wk hr;simp only;split
  ·exact⟨hL,by simp⟩
  refine⟨λs hs=>?_,by simp⟩;rcases zz1.1 hs with hs|hs
  ·exact hL s hs
  rw[zz3.1 hs];exact⟨f0,f1,this.1,this.2.1,by show n<=M;omega,by show l.length<=M;omega,this.2.2.2.2⟩
def QC(lp dp:Nat)(g:cU)(d:DS)(f:Int)(last:Bool){M B N:Nat}(hg:g.Ok M)(hM:M<=1000000000000)(cG:d.Ok B)(hB:B<=140737488355328)(hfN:∀x,dJ PF.id d.R f=some x->x.b.length<=N)(hN:N<=10000000000):
  SP 196 [Δ lp,Γ f,.bool last] [.ob (dc lp dp g),.ob (bX dp d)] (cC (.tuple #[.bool (iY g.bF d.R f last).1.1,.bool (iY g.bF d.R f last).1.2]) [.ob (dc lp dp {g with bF:=(iY g.bF d.R f last).2}),.ob (bX dp d)]):=by
 refine Enzz λW F w hS=>?_;apply cFe;delta MD aI bU a_ aR bV cL G0 ai bR;obtain⟨sv,tv,xs,hx,hS⟩:=dc.iff.1 hS;obtain⟨A7,jY,hh0,Ff⟩:=hg.xs hx;have mv:cI (xs.map dK.pl)=cI g.bF:=by rw[hx]
 have Fc:g.bF.length=xs.length:=by rw[<- hx,zzn]
 refine Gp ?_;refine Cc (Ya dp d B cG hB f) ?_;clear hS;rintro r post hQ w hS;have hq:(((dJ PF.id d.R f).map PF.b).getD []).length<=N:=by
  cases hg:dJ PF.id d.R f with
  | none=>simp
  | some x=>exact hfN x hg
 have vw:iY g.bF d.R f last=match gP (((dJ PF.id d.R f).map PF.b).getD []) with
  | none=>((false,last),g.bF)
  | some (first,l,n)=>if (last=false/\(n≠(((dJ PF.id d.R f).map PF.b).getD []).length\/l.length=0))\/(0<g.bF.length/\first≠cI g.bF+1)\/1099511627776<first+l.length-1 then ((true,false),g.bF)
   else ((true,true),g.bF++[⟨f,first,n,l⟩]):=rfl
 have dH:∃(X:Μ) (a:Option Addr) (c:Nat) (bb:Bool),r= .tuple #[.slice a (((dJ PF.id d.R f).map PF.b).getD []).length c,.bool bb]/\dP X (.slice a (((dJ PF.id d.R f).map PF.b).getD []).length c) (((dJ PF.id d.R f).map PF.b).getD [])/\SL W (X::.ob (bX dp d)::.pt lp (eI sv tv dp g.base g.size) 186::eH sv xs::.ob (ze dM xs)::.ob (eX tv g.du)::F) w:=by
  unfold BT at hQ;cases hg:dJ PF.id d.R f with
  | none=>
   rw[hg]at hQ
   obtain⟨rfl,rfl⟩:=hQ;try simp only[app]at hS
   exact⟨.mem bw.emp,none,0,false,rfl,dP.nil,SL.bZ hS.JD Xi⟩
  | some x=>
   rw[hg]at hQ
   obtain⟨u,rfl,rfl⟩:=hQ;try simp only[app]at hS
   obtain⟨a,c,rfl,_⟩:=bI.at hS (v:=u) (t:=5) (sz:=1) (n:=x.b.length) (cells:=x.b.map cX) Xh;exact⟨.ob (bI (.slice a x.b.length c) 5 1 x.b.length (x.b.map cX)),a,c,true,rfl,dP.own,aW hS⟩
 clear hS hQ;obtain⟨X,a,c,bb,rfl,hX,hS⟩:=dH;rw[vw];clear vw;generalize ((dJ PF.id d.R f).map PF.b).getD []=q at *
 refine Gp ?_;refine Cc (Y8 X _ q hX (by omega)) ?_;clear hS;rintro r post hQ w hS;unfold D2 at hQ;cases hr:gP q with
 | none=>
  rw[hr]at hQ
  obtain⟨rfl,rfl⟩:=hQ;(try simp only[app]at hS);refine Gp ?_
  refine za (λ_=>?_) (λh=>absurd (by decide) h);have hS:=(dc.iff (g:=g)).2 ⟨sv,tv,xs,hx,SL.bZ hS (t:=.pt lp (eI sv tv dp g.base g.size) 186::eH sv xs::.ob (ze dM xs)::.ob (eX tv g.du)::.ob (bX dp d)::F) Xi⟩;exact cA hS
 | some y=>
  obtain⟨first,l,n⟩:=y;have uC:=Wk hr;rw[hr]at hQ
  obtain⟨u,es,he,rfl,rfl⟩:=hQ;try simp only[app]at hS
  have vp:l.length=es.length:=by rw[<- he,Ag]
  obtain⟨ua,uc,rfl,_⟩:=dq.at hS (v:=u) .hd;obtain⟨r1,r2,r3,r4,r5⟩:=uC;simp only[vp,Fc];have cNh:kR (dK.pl ⟨f,first,n,es,ua,uc⟩) M\/True:=.inr trivial;refine Gp ?_;refine za (λh=>absurd rfl h) (λ_=>?_);refine Gm λb w hS=>?_;obtain⟨sb,rfl⟩:∃k,k=b:=⟨b,rfl⟩;obtain⟨I,hI⟩:∃I:Ξ->Ζ->Prop,I=λvs w=>∃bad:Bool,vs=[.bool bad]/\(bad=true↔((last=false/\(n≠q.length\/es.length=0))\/(0<xs.length/\first≠cI g.bF+1)\/1099511627776<first+es.length-1)) /\
   SL W (.pt sb [Γ f,Γ first,Γ n,.slice ua es.length uc] 268::.ob (dq (.slice ua es.length uc) 205 1 es.length (gr es))::.ob (ze gF es)::.ob (bX dp d)::.pt lp (eI sv tv dp g.base g.size) 186::eH sv xs::.ob (ze dM xs)::.ob (eX tv g.du)::F) w:=⟨_,rfl⟩
  refine⟨I,?_,?_⟩
  ·have gL:∀(w:Ζ) (K:Ε->Ζ->Prop),¬(last=false/\(n≠q.length\/es.length=0))->SL W (.pt sb [Γ f,Γ first,Γ n,.slice ua es.length uc] 268::.ob (dq (.slice ua es.length uc) 205 1 es.length (gr es))::.ob (ze gF es)::.ob (bX dp d)::.pt lp (eI sv tv dp g.base g.size) 186::eH sv xs::.ob (ze dM xs)::.ob (eX tv g.du)::F) w ->
     (∀(bad:Bool) w,(bad=true↔((last=false/\(n≠q.length\/es.length=0))\/(0<xs.length/\first≠cI g.bF+1)\/1099511627776<first+es.length-1))->SL W (.pt sb [Γ f,Γ first,Γ n,.slice ua es.length uc] 268::.ob (dq (.slice ua es.length uc) 205 1 es.length (gr es))::.ob (ze gF es)::.ob (bX dp d)::.pt lp (eI sv tv dp g.base g.size) 186::eH sv xs::.ob (ze dM xs)::.ob (eX tv g.du)::F) w->K (.bool bad) w) ->
     (Y9 (Δ lp) λv54=>zl 0 v54 λv55=>zl 0 v55 λv56=>cn v56 w λv57=>zd v57 λv58=>zc .gtr v58 (Γ 0) λv59=>
      dm v59
      (Y9 (Δ lp) λv63=>zl 0 v63 λv64=>aF 101 [v64] w λv65 KL=>zc .add v65 (Γ 1) λv66=>zc .neq (Γ first) v66 λv67=>
       dm v67 (K (.bool true) KL)
       (zg 4 (Δ sb) KL λv71=>aF 152 [v71] KL λv72 w_6=>zc .sub v72 (Γ 1) λv73=>zc .gtr v73 (Γ 1099511627776) λv74=>K v74 w_6))
      (zg 4 (Δ sb) w λcCt=>aF 152 [cCt] w λcCu w_7=>zc .sub cCu (Γ 1) λcCw=>zc .gtr cCw (Γ 1099511627776) λcCy=>K cCy w_7)):=by
    intro w K hn hS hK;clear bb;refine Gp ?_;refine zK hS (v:=sv) (t:=268) (sz:=4) (n:=xs.length) (cells:=(xs.map fx).flatten) Xh ?_;refine bY (λh1=>?_) (λh1=>?_)
    ·refine Gp ?_;refine Cg (ye lp (eI sv tv dp g.base g.size) 186 sv xs rfl A7 (by omega) (by omega)) λw hS=>?_;rw[mv];refine za (λh2=>?_) (λh2=>?_)
     ·refine hK true _ ⟨λ_=>.inr (.inl ⟨by omega,by omega⟩),λ_=>rfl⟩ (aW hS)
     refine Gp ?_;refine Cg (yV f first n ua es.length uc (by omega) (by omega)) λw hS=>?_;refine hK _ _ ⟨λh=>.inr (.inr (by simpa using h)),λh=>?_⟩ (aW hS);rcases h with h|h|h
     ·exact absurd h hn
     ·omega
     simpa using h
    refine Gp ?_;refine Cg (yV f first n ua es.length uc (by omega) (by omega)) λw hS=>?_;refine hK _ _ ⟨λh=>.inr (.inr (by simpa using h)),λh=>?_⟩ (aW hS);rcases h with h|h|h
    ·exact absurd h hn
    ·omega
    simpa using h
   cases last with
   | false=>
    refine z7 ?_;refine zq ?_;refine bY (λh1=>?_) (λh1=>?_)
    ·rw[hI];exact⟨true,rfl,⟨λ_=>.inl ⟨rfl,.inl (by omega)⟩,λ_=>rfl⟩,aW hS⟩
    refine bY (λh2=>?_) (λh2=>?_)
    ·rw[hI];exact⟨true,rfl,⟨λ_=>.inl ⟨rfl,.inr (by omega)⟩,λ_=>rfl⟩,aW hS⟩
    exact gL w (λv w=>I [v] w) (by omega) (aW hS) (λbad w hb h=>by rw[hI];exact⟨bad,rfl,hb,h⟩)
   | true=>
    refine z7 ?_;refine zp ?_;exact gL w (λv w=>I [v] w) (by simp) (aW hS) (λbad w hb h=>by rw[hI];exact⟨bad,rfl,hb,h⟩)
  clear hS;rw[hI];rintro v75 w ⟨bad,eP,fB,hS⟩;cases eP;cases bad with
  | true=>
   refine zq ?_;rw[zzc (fB.1 rfl)];have hS:=(dc.iff (g:=g)).2 ⟨sv,tv,xs,hx,SL.bZ hS (t:=.pt lp (eI sv tv dp g.base g.size) 186::eH sv xs::.ob (ze dM xs)::.ob (eX tv g.du)::.ob (bX dp d)::F) Xi⟩;exact cA hS
  | false=>
   refine zp ?_;rw[zzb (λh=>by have:=fB.2 h;cases this)];refine Gm λb w hS=>?_;refine ZQ (t:=268) (sz:=4) (n:=xs.length) (cells:=(xs.map fx).flatten) (m:=1) (cs:=[Γ f,Γ first,Γ n,.slice ua es.length uc]) hS Xr (j8 hS .hd rfl) rfl rfl (by simp[Value.oneCell']) (by omega) (by omega) ?_;clear hS;intro jQ w hS;have tz:=dq.one hS (v:=jQ) .hd;refine Gn λw hS=>?_;have hS:=(dM.iff (x:=⟨f,first,n,es,ua,uc⟩)).2 (SL.bZ hS (t:=.ob (dq (.slice ua es.length uc) 205 1 es.length (gr es))::.ob (ze gF es)::.ob (ze dM xs)::.ob (bX dp d)::.pt lp (eI jQ tv dp g.base g.size) 186::.ob (dq jQ 268 4 (xs.length+1) ((xs.map fx).flatten++[Γ f,Γ first,Γ n,.slice ua es.length uc]))::.ob (eX tv g.du)::F) Xi);have hS:=ze.snoc (hS.bZ (t:=.ob (ze dM xs)::.ob (dM ⟨f,first,n,es,ua,uc⟩)::.ob (bX dp d)::.pt lp (eI jQ tv dp g.base g.size) 186::.ob (dq jQ 268 4 (xs.length+1) ((xs.map fx).flatten++[Γ f,Γ first,Γ n,.slice ua es.length uc]))::.ob (eX tv g.du)::F) Xi);have e1:xs.length+1=(xs++[(⟨f,first,n,es,ua,uc⟩:dK)]).length:=by simp
   have e2:(xs.map fx).flatten++[Γ f,Γ first,Γ n,.slice ua es.length uc]=((xs++[(⟨f,first,n,es,ua,uc⟩:dK)]).map fx).flatten:=by simp[fx,dK.lv]
   rw[e1,e2]at hS
   have ou:(xs++[(⟨f,first,n,es,ua,uc⟩:dK)]).map dK.pl=g.bF++[⟨f,first,n,l⟩]:=by
    rw[zzs,hx];simp[dK.pl,he]
   have hS:=(dc.iff (g:={g with bF:=g.bF++[⟨f,first,n,l⟩]})).2 ⟨jQ,tv,xs++[⟨f,first,n,es,ua,uc⟩],ou,SL.bZ hS (t:=.pt lp (eI jQ tv dp g.base g.size) 186::eH jQ (xs++[⟨f,first,n,es,ua,uc⟩])::.ob (ze dM (xs++[⟨f,first,n,es,ua,uc⟩]))::.ob (eX tv g.du)::.ob (bX dp d)::F) Xi⟩;exact cA hS
def qa(lp dp:Nat)(g:cU)(d:DS)(iv:Ε)(ids:Ω)(whole:Bool){M N:Nat}(hg:g.Ok M)(hM:M<=1000000000000)(cG:d.Ok N)(hN:N<=140737488355328)(dS:d.ops<=100000)(dO:whole=true->ids≠[]->g.bF≠[])(cx:ids.length<=100000):
  SP 197 [Δ lp,iv,.bool whole] [.ob (dc lp dp g),.ob (bX dp d),.ob (bI iv 3 1 ids.length (ids.map (Value.int .i64)))]
   (cC (Γ (jl g.bF d ids whole).2) [.ob (dc lp dp g),.ob (bX dp (jl g.bF d ids whole).1),.ob (bI iv 3 1 ids.length (ids.map (Value.int .i64)))]):=by
 refine Enzz λW F w hS=>?_;apply cFf;delta ME aI bU a_ bV cL ai;obtain⟨sv,tv,xs,hx,hS⟩:=dc.iff.1 hS;obtain⟨A7,jY,_,_⟩:=hg.xs hx;have gC:∀{w:Ζ} {d':DS},SL W (.pt lp (eI sv tv dp g.base g.size) 186::eH sv xs::.ob (ze dM xs)::.ob (eX tv g.du)::.ob (bX dp d')::.ob (bI iv 3 1 ids.length (ids.map (Value.int .i64)))::F) w->SL W (.ob (dc lp dp g)::.ob (bX dp d')::.ob (bI iv 3 1 ids.length (ids.map (Value.int .i64)))::F) w:=λh=>(dc.iff (g:=g)).2 ⟨_,tv,_,hx,h⟩;refine zt hS (v:=iv) (t:=3) (sz:=1) (n:=ids.length) (cells:=ids.map (Value.int .i64)) Xh ?_;refine bY (λh=>?_) (λh=>?_)
 ·have:ids=[]:=zzp (by omega);subst this;have hS:=gC (aW hS);exact⟨_,⟨rfl,rfl⟩,hS⟩
 have hj:ids.length-1<ids.length:=by omega
 have Fc:ids.getLast?=some (ids[ids.length-1]'hj):=by rw[xx0,zzd hj]
 have bUm:ids≠[]:=λe=>by rw[e]at h;simp at h
 have hu:(ids.map (Value.int .i64))[ids.length-1]?=some (Γ (ids[ids.length-1]'hj)):=by simp[hj]
 generalize (ids[ids.length-1]'hj)=f at *
 refine zt hS (v:=iv) (t:=3) (sz:=1) (n:=ids.length) (cells:=ids.map (Value.int .i64)) Xh ?_;refine Gp ?_;have e:((ids.length:Nat):Int)-1=((ids.length-1:Nat):Int):=by omega
 rw[e];refine yg hS (v:=iv) (t:=3) Xh hj hu ?_;cases whole with
 | false=>
  have hb:jl g.bF d ids false=d.remove f:=by unfold jl;rw[Fc];rfl
  rw[hb];refine z7 ?_;refine zq ?_;refine Gp ?_;refine Cg (yP dp d N cG dS f) λw hS=>?_;have hS:=gC (aW hS);exact⟨_,⟨rfl,rfl⟩,hS⟩
 | true=>
  have hb:jl g.bF d ids true=if lH g.bF<gf d.R f then d.cut f (lH g.bF) else (d,0):=by unfold jl;rw[Fc];rfl
  rw[hb];refine z7 ?_;refine zp ?_;have hn:=dO rfl bUm;have hle:0<xs.length:=by
   rcases yy8 xs.length with h0|h0
   ·rw[<- hx,zzp h0]at hn;exact absurd rfl hn
   exact h0
  have oh:xs.length-1<xs.length:=by omega
  have IL:lH g.bF=((xs[xs.length-1]'oh).size:Nat):=by
   unfold lH;rw[<- hx,uum,xx0,zzd oh];rfl
  rw[IL];refine Gn λw hS=>?_;refine zK hS (v:=sv) (t:=268) (sz:=4) (n:=xs.length) (cells:=(xs.map fx).flatten) Xh ?_;refine Gp ?_;have e:((xs.length:Nat):Int)-1=((xs.length-1:Nat):Int):=by omega
  rw[e];refine Y3 (i:=2) hS Xh oh (u:=Γ ((xs[xs.length-1]'oh).size:Nat)) rfl ?_;generalize (xs[xs.length-1]'oh).size=z at *
  refine Gp ?_;refine Cg (YB dp d f) λw hS=>?_;refine za (λh1=>?_) (λh1=>?_)
  ·rw[zzc h1];refine Gp ?_;refine Cg (Zt dp d N cG (by omega) dS f (z:Int)) λw hS=>?_;have hS:=gC (aW hS);exact⟨_,⟨rfl,rfl⟩,hS⟩
  rw[zzb h1];have hS:=gC (aW hS);exact⟨_,⟨rfl,rfl⟩,hS⟩
def BS(dp:Nat)(y:DS × Except Int cU)(r:Ε)(post:Β):Prop:=match y.2 with
 | .error e=>e≠0/\r= .tuple #[.pointer none,Γ e]/\post=[.ob (bX dp y.1)]
 | .ok g=>∃lp:Nat,r= .tuple #[Δ lp,Γ 0]/\post=[.ob (dc lp dp g),.ob (bX dp y.1)]
def U_{R:List PF}{M N:Nat}{base:Int}(hR:p3 R base N)(hN:N<=M)(b0:0<=base)(b1:base<=12288):∀(ids:Ω) (prev:Option Int) (L:List da) (wh:Bool) (k:Nat),(∀f∈ids,base<=f/\f<base+4096)->(∀s∈L,kR s M)->L.length<=k->∀{L' xY},lI R ids prev L wh=some (L',xY)->(∀s∈L',kR s M)/\L'.length<=k+ids.length
 | [],prev,L,wh,k,_,hL,hk,L',xY,h=>by
  cases h;exact⟨hL,by simpa using hk⟩
 | f::r,prev,L,wh,k,hf,hL,hk,L',xY,h=>by
  rw[Bb]at h
  obtain⟨f0,f1⟩:=hf f (.head _);obtain⟨k1,k2⟩:=U9 (last:=r.isEmpty) (hR.at_ ⟨f0,f1⟩) hN (by omega) (by omega) hL;split at h
  ·cases h
  split at h
  ·cases h
  have:=U_ hR hN b0 b1 r _ _ _ (k+1) (λx hx=>hf x (.tail _ hx)) k1 (by omega) h;exact⟨this.1,by simp at this ⊢;omega⟩
def UA{base:Int}{R:List PF}{f:Int}(h:f∈fJ base R):base<=f/\f<base+4096:=by
 unfold fJ at h;have:=(xx6.1 h).2;simpa using this
def Uz(base:Int)(R:List PF):(fJ base R).length<=R.length:=by
 unfold fJ;have:=yym (λf=>decide (base<=f/\f<base+4096)) (R.map PF.id)
 rwa [zzn]at this
def b_c{d d':DS}{base size:Int}{N:Nat}(hw:p3 d.R base N)(hR:d.R.length<=100000){g:cU}(h:eV d base size=(d',.ok g)):g.Ok (N+100000)/\d.off=false:=by
 unfold eV at h;split at h
 ·cases h
 rename_i hb;split at h
 ·cases h
 rename_i ho;split at h
 ·cases h
 rename_i L wh hl;obtain⟨k1,k2⟩:=U_ (M:=N+100000) hw (by omega) (by omega) (by omega) _ _ [] _ 0 (λf hf=>UA hf) (by simp) (by simp) hl;have:=Uz base d.R;have hL:(⟨L,base,size,none⟩:cU).Ok (N+100000):=⟨k1,by show 0<=base;omega,by show base<=12288;omega,by show 64<=size;omega,by show size<=65536;omega,by show L.length<=_;omega⟩;split at h
 ·cases h
 cases h;exact⟨hL,by simpa using ho⟩
def VZ(dp:Nat)(d:DS)(base size:Int){N B:Nat}(cG:d.Ok B)(hB:B<=140737488355328)(hw:p3 d.R base N)(hN:N<=1000000000)(hR:d.R.length<=100000)(dS:d.ops<=100000):
  SP 138 [Δ dp,Γ base,Γ size] [.ob (bX dp d)] (BS dp (eV d base size)):=by
 refine Enzz λW F w hS=>?_;apply cDt;delta LC aI cL ai cT bR;by_cases Im:base<0\/12288<base\/size<64\/65536<size
 ·have e:eV d base size=(d,.error 1):=by unfold eV;rw[zzc Im]
  rw[e];have hE:∀{w:Ζ},SL W (.ob (bX dp d)::F) w->∃post,BS dp (d,.error 1) (.tuple #[.pointer none,Γ 1]) post/\SL W (app post F) w:=λh=>⟨_,⟨by decide,rfl,rfl⟩,h⟩;refine Gp ?_;refine za (λh=>hE hS) (λh1=>?_);refine Gp ?_;refine za (λh=>hE hS) (λh2=>?_);refine Gp ?_;refine za (λh=>hE hS) (λh3=>?_);refine Gp ?_;refine za (λh=>hE hS) (λh4=>by omega)
 refine Gp ?_;refine za (λh=>by omega) (λ_=>?_);refine Gp ?_;refine za (λh=>by omega) (λ_=>?_);refine Gp ?_;refine za (λh=>by omega) (λ_=>?_);refine Gp ?_;refine za (λh=>by omega) (λ_=>?_);refine Cg (zM dp d) λw hS=>?_;refine yU (λho=>?_) (λho=>?_)
 ·have e:eV d base size=(d,.error 8):=by unfold eV;rw[zzb Im,zzc ho]
  rw[e];exact⟨_,⟨by decide,rfl,rfl⟩,hS⟩
 have eo:eV d base size=match lI d.R (fJ base d.R) none [] true with
  | none=>(d,.error 3)
  | some (L,whole)=>if (jl L d (fJ base d.R) whole).2≠0 then ((jl L d (fJ base d.R) whole).1,.error (jl L d (fJ base d.R) whole).2) else ((jl L d (fJ base d.R) whole).1,.ok ⟨L,base,size,none⟩):=by
  unfold eV;rw[zzb Im,zzb (by rw[ho];decide)];rfl
 rw[eo];have hi:∀f∈fJ base d.R,base<=f/\f<base+4096:=λf hf=>UA hf;have cx:=Uz base d.R;refine Gp ?_;refine⟨_,rfl,zE hS ?_⟩;clear hS;intro lp w hS;have hS:=(Ab (v:=.pointer none)).2 ⟨rfl,hS⟩;have hS:=dq.rB (a:=none) (t:=268) (sz:=4) hS;have hS:=ze.nil (A:=dM) hS;have hS:=SL.bZ hS (t:=.pt lp (eI Θ (.pointer none) dp base size) 186::.ob (dq Θ 268 4 0 [])::.ob (ze dM [])::.ob (eX (.pointer none) none)::.ob (bX dp d)::F) Xi;have hS:=(dc.iff (g:=⟨[],base,size,none⟩)).2 ⟨_,_,[],rfl,hS⟩;refine Cc (qr lp dp ⟨[],base,size,none⟩ d (M:=0) (N:=B) (by show 0<=base;omega) (by show base<=12288;omega) cG hR) ?_;clear hS;rintro iv post rfl w hS;(try simp only[app]at hS);generalize vt:fJ base d.R=ids at *
 refine zt hS (v:=iv) (t:=3) (sz:=1) (n:=ids.length) (cells:=ids.map (Value.int .i64)) Xh ?_;refine⟨λvs w=>∃(wh:Bool) (i:Nat) (L:List da),i<=ids.length/\vs=[.bool wh,Γ i]/\lI d.R ids none [] true=lI d.R (ids.drop i) (if i=0 then none else ids[i-1]?) L wh/\(∀s∈L,kR s (N+100000))/\L.length<=i/\(wh=true->0<i->L≠[])/\SL W (.ob (dc lp dp ⟨L,base,size,none⟩)::.ob (bX dp d)::.ob (bI iv 3 1 ids.length (ids.map (Value.int .i64)))::F) w,
  λvs _=>match vs with|[_,.int _ i]=>(ids.length-i).toNat|_=>0,⟨true,0,[],by omega,rfl,rfl,by simp,by simp,λ_ h=>by omega,aW hS⟩,?_⟩
 clear hS;rintro v10 v43 w ⟨wh,i,L,tn,eP,jM,SZ,Ih,hwh,hS⟩;cases eP;have SY:(⟨L,base,size,none⟩:cU).Ok (N+100000):=⟨SZ,by show 0<=base;omega,by show base<=12288;omega,by show 64<=size;omega,by show size<=65536;omega,by show L.length<=_;omega⟩;refine bY (λh1=>?_) (λh1=>?_)
 ·have hj:i<ids.length:=by omega
  have hu:(ids.map (Value.int .i64))[i]?=some (Γ ids[i]):=by simp[hj]
  have tj:=hi _ (zzg hj);rw[yyq hj,Bb]at jM
  refine yg hS (v:=iv) (t:=3) Xh hj hu ?_;refine zt hS (v:=iv) (t:=3) (sz:=1) (n:=ids.length) (cells:=ids.map (Value.int .i64)) Xh ?_;refine Gp ?_;have mU:decide (((i:Nat):Int)=((ids.length:Nat):Int)-1)=(ids.drop (i+1)).isEmpty:=by
   rw[uuv,uud,List.isEmpty_iff,List.drop_eq_nil_iff];omega
  rw[mU];obtain⟨k1,k2⟩:=U9 (L:=L) (f:=ids[i]) (last:=(ids.drop (i+1)).isEmpty) (M:=N+100000) (hw.at_ tj) (by omega) (by omega) (by omega) SZ;have rj:(iY L d.R ids[i] (ids.drop (i+1)).isEmpty).1.1=true->(iY L d.R ids[i] (ids.drop (i+1)).isEmpty).1.2=true->(iY L d.R ids[i] (ids.drop (i+1)).isEmpty).2≠[]:=by
   unfold iY;simp only;split
   ·intro h;cases h
   split
   ·intro _ h;cases h
   intro _ _;simp
  refine Cg (QC lp dp ⟨L,base,size,none⟩ d ids[i] (ids.drop (i+1)).isEmpty SY (by omega) cG hB (hw.at_ tj) (by omega)) λw hS=>?_;generalize hLG:iY L d.R ids[i] (ids.drop (i+1)).isEmpty=y at *
  obtain⟨⟨is,ok⟩,L2⟩:=y;simp only at hS jM k1 k2 rj ⊢;cases ok with
  | false=>
   refine zq ?_;rw[zzc rfl]at jM
   rw[jM];exact⟨_,⟨by decide,rfl,rfl⟩,aW hS⟩
  | true=>
   refine zp ?_;rw[zzb (by decide)]at jM
   have pP:∀{w:Ζ},(¬vk (if i=0 then none else ids[i-1]?) ids[i]=true)->SL W (.ob (dc lp dp ⟨L2,base,size,none⟩)::.ob (bX dp d)::.ob (bI iv 3 1 ids.length (ids.map (Value.int .i64)))::F) w ->
     ∃(wh:Bool) (i':Nat) (L:List da),i'<=ids.length/\[Value.bool is,Γ ((i+1:Nat):Int)]=[.bool wh,Γ i']/\lI d.R ids none [] true=lI d.R (ids.drop i') (if i'=0 then none else ids[i'-1]?) L wh/\(∀s∈L,kR s (N+100000))/\L.length<=i'/\(wh=true->0<i'->L≠[])/\SL W (.ob (dc lp dp ⟨L,base,size,none⟩)::.ob (bX dp d)::.ob (bI iv 3 1 ids.length (ids.map (Value.int .i64)))::F) w:=by
    intro w hp hS;refine⟨is,i+1,L2,by omega,rfl,?_,k1,by omega,λh _=>rj h rfl,hS⟩;rw[zzb hp]at jM
    rw[jM,zzb (by omega),Nat.add_sub_cancel,zzd hj]
   refine bY (λh2=>?_) (λh2=>?_)
   ·have tq:i-1<ids.length:=by omega
    have uv:=hi _ (zzg tq);refine Gp ?_;have e:((i:Nat):Int)-1=((i-1:Nat):Int):=by omega
    rw[e];have Jb:(ids.map (Value.int .i64))[i-1]?=some (Γ (ids[i-1]'tq)):=by simp[tq]
    refine yg hS (v:=iv) (t:=3) Xh tq Jb ?_;have T7:vk (if i=0 then none else ids[i-1]?) ids[i]=decide (ids[i]≠(ids[i-1]'tq)+1):=by
     rw[zzb (by omega),zzd tq];rfl
    refine bY (λh3=>?_) (λh3=>?_)
    ·rw[zzc (by rw[T7];simpa using h3)]at jM
     rw[jM];exact⟨_,⟨by decide,rfl,rfl⟩,aW hS⟩
    refine Gp ?_;exact⟨pP (by rw[T7];simpa using h3) (aW hS),by dsimp only;omega⟩
   refine Gp ?_;have vr:i=0:=by omega
   exact⟨pP (by rw[zzc vr];simp[vk]) (aW hS),by dsimp only;omega⟩
 have jL:i=ids.length:=by omega
 rw[jL,vv1]at jM
 rw[jM];simp only[lI];have Tb:=Hl (L:=L) (ids:=ids) (wh:=wh) cG;refine Cg (qa lp dp ⟨L,base,size,none⟩ d iv ids wh SY (by omega) cG (by omega) dS (λh dO=>hwh h (by rw[jL];exact xx2.2 dO)) (by omega)) λw hS=>?_;simp only at hS ⊢;refine za (λh2=>?_) (λh2=>?_)
 ·rw[zzc h2];exact⟨_,⟨h2,rfl,rfl⟩,aW hS⟩
 rw[zzb h2];exact⟨_,⟨lp,rfl,rfl⟩,aW hS⟩
def QF(dp:Nat)(d:DS)(base size:Int){N:Nat}(cG:d.Ok N)(hN:N<=1000000000)(hR:d.R.length<=100000)(dS:d.ops<=100000):
  SP 138 [Δ dp,Γ base,Γ size] [.ob (bX dp d)] (BS dp (eV d base size)):=
 VZ dp d base size cG (by omega) (p3.all cG.len base) hN hR dS
section
variable (lp dp:Nat) (g:cU) {M:Nat} (hg:g.Ok M) (hM:M<=1000000000000)
include hg hM
def Z1:SP 101 [Δ lp] [.ob (dc lp dp g)] (cC (Γ (cI g.bF)) [.ob (dc lp dp g)]):=by
 intro W F w hS;obtain⟨sv,tv,xs,hx,hS⟩:=dc.iff.1 hS;obtain⟨h1,h2,_,_⟩:=hg.xs hx;refine yI (ye lp (eI sv tv dp g.base g.size) 186 sv xs rfl h1 (by omega) (by omega)) hS Xp ?_;rintro v post ⟨rfl,rfl⟩ w hS;try simp only[app]at hS
 rw[hx];exact⟨_,⟨rfl,rfl⟩,dc.iff.2 ⟨sv,tv,xs,hx,aW hS⟩⟩
def Zv:SP 102 [Δ lp] [.ob (dc lp dp g)] (cC (Γ (eZ g.bF)) [.ob (dc lp dp g)]):=by
 intro W F w hS;obtain⟨sv,tv,xs,hx,hS⟩:=dc.iff.1 hS;obtain⟨h1,h2,_,_⟩:=hg.xs hx;refine yI (bXy lp (eI sv tv dp g.base g.size) 186 sv xs rfl (by omega)) hS Xp ?_;rintro v post ⟨rfl,rfl⟩ w hS;try simp only[app]at hS
 rw[hx];exact⟨_,⟨rfl,rfl⟩,dc.iff.2 ⟨sv,tv,xs,hx,aW hS⟩⟩
def Yb(n:Int)(hn : -9000000000000000000<=n/\n<=9000000000000000000):SP 136 [Δ lp,Γ n] [.ob (dc lp dp g)] (D1 [.ob (dc lp dp g)] (mE g.bF n)):=by
 intro W F w hS;obtain⟨sv,tv,xs,hx,hS⟩:=dc.iff.1 hS;obtain⟨h1,h2,_,_⟩:=hg.xs hx;refine yI (QO lp (eI sv tv dp g.base g.size) 186 sv xs n rfl h1 (by omega) (by omega) hn) hS Xp ?_;intro r post hQ w hS;rw[hx]at hQ
 cases hr:mE g.bF n with
 | none=>
  rw[hr]at hQ
  obtain⟨rfl,rfl⟩:=hQ;try simp only[app]at hS
  exact⟨_,⟨rfl,rfl⟩,dc.iff.2 ⟨sv,tv,xs,hx,aW hS⟩⟩
 | some b=>
  rw[hr]at hQ
  obtain⟨u,rfl,rfl⟩:=hQ;try simp only[app]at hS
  have hS:=(dc.iff (g:=g)).2 ⟨sv,tv,xs,hx,SL.bZ hS (t:=.pt lp (eI sv tv dp g.base g.size) 186::eH sv xs::.ob (ze dM xs)::.ob (eX tv g.du)::.ob (bI u 5 1 b.length (b.map cX))::F) Xi⟩;exact⟨_,⟨u,rfl,rfl⟩,aW hS⟩
end
def VY{d d':DS}{base size:Int}{N:Nat}(hw:p3 d.R base N)(hR:d.R.length<=100000){g:cU}(h:eV d base size=(d',.ok g)):ij g (N+100000):=by
 have hk:=(b_c hw hR h).1;unfold eV at h;split at h
 ·cases h
 split at h
 ·cases h
 split at h
 ·cases h
 rename_i L wh hl;obtain⟨k1,k2⟩:=Va _ _ [] _ trivial (by decide) hl;split at h
 ·cases h
 cases h;exact⟨hk,k1,k2,λx hx=>by cases hx⟩
def JV{d d':DS}{base size:Int}{N:Nat}(cG:d.Ok N)(hR:d.R.length<=100000){g:cU}(h:eV d base size=(d',.ok g)):ij g (N+100000):=VY (p3.all cG.len base) hR h
def UF:∀(l:Α) (a N:Nat),a<=N->l.Pairwise (· < ·)->(∀x∈l,a<=x/\x<N)->l.length+a<=N
 | [],a,N,h,_,_=>by simpa using h
 | x::l,a,N,_,hp,hx=>by
  have h1:=hx x (.head _);obtain⟨nH,pQ⟩:=yyj.1 hp;have:=UF l (x+1) N (by omega) pQ λy hy=>⟨nH y hy,(hx y (.tail _ hy)).2⟩;rw[zzh];omega
def DS.Ok.DA{s:DS}{N:Nat}(h:s.Ok N):s.R.length<=16384:=by
 have hs:(s.R.map λx=>x.id.toNat).Pairwise (· < ·):=by
  rw[wwq];refine List.Pairwise.imp_of_mem (λ{a b} ha hb dd=>?_) h.sorted;have h1:=h.ids a ha;have h2:=h.ids b hb;have dd:a.id<b.id:=dd;omega
 have:=UF _ 0 16384 (by decide) hs λn hn=>by
  obtain⟨x,hx,rfl⟩:=zzv.1 hn;have:=h.ids x hx;omega
 simpa using this
abbrev iH(b:Nat):Ε:=Δ b
abbrev nM(gp dp lp pp:Nat)(aw:Int)(rv:Ε):Ξ:=[iH gp,iH dp,iH lp,iH pp,Γ aw,rv]
def db(kp gp dp lp pp:Nat)(H:bw)(k:cN):zC:=jF λrv:Ε=>zH (jc H rv k.reqs) [.pt kp (nM gp dp lp pp k.aw rv) 90,.ob (gm gp k.ts),.ob (dc lp dp k.g),.ob (gy pp k.plan),.ob (bX dp k.d)]
section
variable {W w:Ζ} {l F:Β} {kp gp dp lp pp:Nat} {H:bw} {k:cN}
def db.iff:SL W (.ob (db kp gp dp lp pp H k)::l) w↔∃rv,jc H rv k.reqs/\SL W (.pt kp (nM gp dp lp pp k.aw rv) 90::.ob (gm gp k.ts)::.ob (dc lp dp k.g)::.ob (gy pp k.plan)::.ob (bX dp k.d)::l) w:=by
 unfold db;simp only[SL.ex,SL.fact,zzu,zzq]
def db.put(k:cN){rv:Ε}(hS:SL W l w)(hr:jc H rv k.reqs)(p:gx [.pt kp (nM gp dp lp pp k.aw rv) 90,.ob (gm gp k.ts),.ob (dc lp dp k.g),.ob (gy pp k.plan),.ob (bX dp k.d)] l F):SL W (.ob (db kp gp dp lp pp H k)::F) w:=db.iff.2 ⟨rv,hr,hS.pick p⟩
def db.eO{g:cU}{d:DS}{ts:List (List Cell)}{plan:List fQ}{aw:Int}{reqs:List Rq}{rv:Ε}(hS:SL W l w)(hr:jc H rv reqs)(p:gx [.pt kp (nM gp dp lp pp aw rv) 90,.ob (gm gp ts),.ob (dc lp dp g),.ob (gy pp plan),.ob (bX dp d)] l F):SL W (.ob (db kp gp dp lp pp H ⟨g,d,ts,plan,aw,reqs⟩)::F) w:=db.iff.2 ⟨rv,hr,hS.pick p⟩
def db.mono{H':bw}(hh:H.le H')(h:SL W (.ob (db kp gp dp lp pp H k)::l) w):SL W (.ob (db kp gp dp lp pp H' k)::l) w:=by
 obtain⟨rv,hr,hS⟩:=db.iff.1 h;exact db.iff.2 ⟨rv,hr.mono hh,hS⟩
def db.jm{W w:Ζ}{l F:Β}{H H':bw}{kp gp dp lp pp:Nat}{k:cN}(hh:H.le H')(hS:SL W l w)(r:fY (.ob (db kp gp dp lp pp H k)) l F):SL W (.ob (db kp gp dp lp pp H' k)::F) w:=db.mono hh (hS.perm r.perm)
def db.open(hS:SL W l w)(r:fY (.ob (db kp gp dp lp pp H k)) l F):∃rv,jc H rv k.reqs/\SL W (.pt kp (nM gp dp lp pp k.aw rv) 90::.ob (gm gp k.ts)::.ob (dc lp dp k.g)::.ob (gy pp k.plan)::.ob (bX dp k.d)::F) w:=db.iff.1 (hS.perm r.perm)
end
structure BO(k:cN)(N m:Nat):Prop where
 g:ij k.g N
 d:k.d.Ok N
 le:N<=1000000000
 ops:k.d.ops<=80000
 pl:k.plan.length<=1024
 mC:∀f∈k.plan,iZ f=true
 ts:k.ts.length<=8
 ok:sF k.ts
 room:small k.ts (4096*m)
 rq:k.reqs.length<=64
def z_(o:Option (List Rq))(H:bw)(u:Ε):Prop:=match o with
 | none=>∃x,u= .tuple #[x,.bool false]
 | some L=>∃x,u= .tuple #[x,.bool true]/\jc H x L
def VD{L L':List Rq}{n:il}(h:oz L n=some L'):L'.length<=64:=by
 unfold oz at h;split at h
 ·exact (Ek h).1
 split at h
 ·rename_i L2 h2;split at h
  ·cases h;exact (B2 h2).1
  cases h
 cases h
def Qy(H:bw)(v:Ε)(L:List Rq)(n:il)(hv:jc H v L)(hL:L.length<=64)(hn:lg n.id):
  SP 277 [v,agg (kI n)] [.mem H] (λu post=>∃H',H.le H'/\z_ (oz L n) H' u/\post=[.mem H']):=by
 refine Enzz λW F w hS=>?_;apply cG8;delta NL aI a_ aR ai;refine zw hS λb w hS=>?_;obtain⟨kind,id,table,weight,at_,dz,done⟩:=n;have hn:lg id:=hn;unfold kI at hS;unfold oz;refine bY (λhk=>?_) (λhk=>?_)
 ·rw[zzc hk];refine Gp ?_;refine Cc (ZI H v L id dz done hv (by omega) hn) ?_;clear hS;rintro u post ⟨H',hh,rfl,hq⟩ w hS;simp only;cases hc:lW L id dz done with
  | none=>
   rw[hc]at hq
   obtain rfl:=hq;(try simp only[app]at hS);refine Gp ?_
   exact⟨_,⟨H',hh,⟨_,rfl⟩,rfl⟩,aW hS⟩
  | some L'=>
   rw[hc]at hq
   obtain⟨x,rfl,hx⟩:=hq;(try simp only[app]at hS);refine Gp ?_
   exact⟨_,⟨H',hh,⟨_,rfl,hx⟩,rfl⟩,aW hS⟩
 rw[zzb hk];refine Gp ?_;refine Cc (Zl H v L table weight at_ hv (by omega)) ?_;clear hS;rintro u post ⟨H',hh,rfl,hq⟩ w hS;simp only;cases hc:pw L table weight at_ with
 | none=>
  rw[hc]at hq
  obtain rfl:=hq;refine Gn λw hS=>?_;exact⟨_,⟨H',hh,⟨_,rfl⟩,rfl⟩,aW hS⟩
 | some L'=>
  rw[hc]at hq
  obtain⟨x,rfl,hx⟩:=hq;refine Gn λw hS=>?_;refine zo hx ?_;refine Gp ?_;by_cases he:id=(L'.length:Int)
  ·rw[zzl he];exact⟨_,⟨H',hh,(by simp only;rw[zzc he];exact⟨_,rfl,hx⟩),rfl⟩,aW hS⟩
  rw[zzz he];exact⟨_,⟨H',hh,(by simp only;rw[zzb he];exact⟨_,rfl⟩),rfl⟩,aW hS⟩
def bFc{n:Nat}{L:List Rq}{t:cD}{i:Nat}(hi:i<t.ops.length)(h:(n:Int)<=t.ops[i].table):fW n L t=none:=by
 unfold fW;rw[zzb];rintro ⟨_,h2⟩;unfold sJ at h2;rw[zz6]at h2
 have:=zzm (h2 _ (zzg hi));omega
def cBj{n:Nat}{t:cD}(h:∀j (hj:j<t.ops.length),t.ops[j].table<(n:Int)):sJ n t=true:=by
 unfold sJ;rw[zz6];intro o ho;obtain⟨j,hj,rfl⟩:=yyi ho;exact zzl (h j hj)
def bZj{L:List Rq}{l:List il}{i:Nat}(h:i<l.length):fT L (l.drop i)=match oz L l[i] with|some L'=>fT L' (l.drop (i+1))|none=>none:=by
 rw[yyq h];rfl
structure BM(t:cD):Prop where
 ids:∀n∈t.notes,lg n.id
 ops:t.ops.length<=140737488351232
 iN:t.notes.length<=140737488351232
def Zu(kp gp dp lp pp:Nat)(H:bw)(k:cN)(x:iA)(t:cD)(hx:gZ H x t)(hi:BM t)(lD:k.reqs.length<=64):
  SP 202 [iH kp,agg (eJ x)] [.ob (db kp gp dp lp pp H k),.mem H] (λu post=>∃H',H.le H'/\z_ (fW k.ts.length k.reqs t) H' u/\post=[.ob (db kp gp dp lp pp H' k),.mem H']):=by
 refine Enzz λW F w hS=>?_;apply cFk;delta MJ aI bU a_ aR cL ai cP bR;refine zw hS λxb w hS=>?_;obtain⟨rv,hr,hS⟩:=db.open (k:=k) hS Xr;unfold eJ at hS;rw[hx.aw]at hS
 have vy:=hi.ops;have nG:=hi.iN;refine Gp ?_;refine zo hx.ops ?_;obtain⟨F2,uk⟩:∃F2,F2= .ob (dc lp dp k.g)::.ob (gy pp k.plan)::.ob (bX dp k.d)::F:=⟨_,rfl⟩;have hS:=SL.bZ hS (t:=.pt kp (nM gp dp lp pp k.aw rv) 90::.ob (gm gp k.ts)::.pt xb [Γ t.aw,x.ov,x.nv] 214::.mem H::.ob (dc lp dp k.g)::.ob (gy pp k.plan)::.ob (bX dp k.d)::F) Xi;rw[<- uk]at hS
 have gC:∀{w:Ζ} {H':bw} {u:Ε},H.le H'->z_ (fW k.ts.length k.reqs t) H' u->SL W (.pt kp (nM gp dp lp pp k.aw rv) 90::.ob (gm gp k.ts)::.mem H'::F2) w->∃post,(∃H',H.le H'/\z_ (fW k.ts.length k.reqs t) H' u/\post=[.ob (db kp gp dp lp pp H' k),.mem H'])/\SL W (app post F) w:=λhh hq hS=>by
  rw[uk]at hS
  have hS:=db.put k hS (hr.mono hh) Xp;exact⟨_,⟨_,hh,hq,rfl⟩,aW hS⟩
 refine⟨λvs w=>∃i:Nat,vs=[Γ i]/\i<=t.ops.length/\(∀j (hj:j<t.ops.length),j<i->t.ops[j].table<(k.ts.length:Int))/\SL W (.pt kp (nM gp dp lp pp k.aw rv) 90::.ob (gm gp k.ts)::.pt xb [Γ t.aw,x.ov,x.nv] 214::.mem H::F2) w,
  λvs _=>match vs with|[.int _ i]=>(t.ops.length-i).toNat|_=>0,⟨0,rfl,by omega,λj hj h=>by omega,hS⟩,?_⟩
 clear hS;rintro Gs w ⟨i,eP,cx,eE,hS⟩;cases eP;refine bY (λh=>?_) (λh=>?_)
 ·have cx:i<t.ops.length:=by omega
  refine zD hS Xh wJ hx.ops (x:=t.ops[i]) (by simp[cx]) cx ?_;refine Gm λb w hS=>?_;refine Cg (qJ gp k.ts) λw hS=>?_;refine za (λh2=>?_) (λh2=>?_)
  ·refine gC (bw.le_refl H) ?_ (aW hS);rw[bFc cx h2];exact⟨_,rfl⟩
  refine Gp ?_;refine⟨⟨i+1,rfl,by omega,λj hj iX=>?_,aW hS⟩,by dsimp only;omega⟩;by_cases e:j=i
  ·subst e;omega
  exact eE j hj (by omega)
 have vD:=cBj (n:=k.ts.length) (t:=t) λj hj=>eE j hj (by omega);clear eE;refine Gp ?_;refine zo hx.iN ?_;have uw:∀{o},fT k.reqs t.notes=o->ep t=true->fW k.ts.length k.reqs t=o:=λh hm=>by unfold fW;rw[zzc ⟨hm,vD⟩,h]
 have Fb:fT k.reqs t.notes=none->fW k.ts.length k.reqs t=none:=λh=>by unfold fW;split;exact h;rfl
 refine⟨λvs w=>∃(i:Nat) (L:List Rq) (u:Ε) (H2:bw),vs=[u,Γ i]/\i<=t.notes.length/\L.length<=64/\fT k.reqs t.notes=fT L (t.notes.drop i)/\H.le H2/\jc H2 u L/\SL W (.pt kp (nM gp dp lp pp k.aw rv) 90::.ob (gm gp k.ts)::.pt xb [Γ t.aw,x.ov,x.nv] 214::.mem H2::F2) w,
  λvs _=>match vs with|[_,.int _ i]=>(t.notes.length-i).toNat|_=>0,⟨0,k.reqs,rv,H,rfl,by omega,lD,rfl,bw.le_refl H,hr,aW hS⟩,?_⟩
 clear hS;rintro u v35 w ⟨i,L,_,H2,eP,cx,hL,fp,fA,hu,hS⟩;cases eP;have ou:=hx.mono fA;refine bY (λh=>?_) (λh=>?_)
 ·have cx:i<t.notes.length:=by omega
  rw[bZj cx]at fp
  refine zD hS Xh wI ou.iN (x:=t.notes[i]) (by simp[cx]) cx ?_;have hid:=hi.ids _ (zzg cx);generalize t.notes[i]=n at *
  refine Gm λb w hS=>?_;refine Cc (Qy H2 u L n hu hL hid) ?_;clear hS;rintro u post ⟨H3,gb,hq,rfl⟩ w hS;cases hc:oz L n with
  | none=>
   rw[hc]at hq fp
   obtain⟨x,rfl⟩:=hq;(try simp only[app]at hS);refine Gp ?_
   refine zq ?_;refine gC (bw.le_trans fA gb) ?_ (aW hS);rw[Fb fp];exact⟨_,rfl⟩
  | some L'=>
   have re:=VD hc;rw[hc]at hq fp
   obtain⟨x,rfl,mW⟩:=hq;(try simp only[app]at hS);refine Gp ?_
   refine zp ?_;refine Gp ?_;exact⟨⟨i+1,L',x,H3,rfl,by omega,re,fp,bw.le_trans fA gb,mW,aW hS⟩,by dsimp only;omega⟩
 have jL:i=t.notes.length:=by omega
 subst jL;rw[vv1]at fp
 refine zA hS Xh rfl ?_;have e:([Γ t.aw,x.ov,x.nv]:Ξ)=eJ x:=by unfold eJ;rw[hx.aw]
 rw[e];refine Cg (zZ H2 x t ou) λw hS=>?_;refine gC fA ?_ (aW hS);cases hm:ep t with
 | true=>rw[uw fp hm];exact⟨_,rfl,hu⟩
 | false=>rw[show fW k.ts.length k.reqs t=none by unfold fW;rw[hm];rfl];exact⟨_,rfl⟩
def qy(kp gp dp lp pp:Nat)(H:bw)(k:cN)(x:iA)(t:cD)(L:List Rq)(lv:Ε)(hx:gZ H x t)(hl:jc H lv L)(hn:t.ops.length<=1000000)(hk:∀o∈t.ops,lg o.key):
  SP 203 [iH kp,agg (eJ x),lv] [.ob (db kp gp dp lp pp H k),.mem H] (cC (.tuple #[]) [.ob (db kp gp dp lp pp H (k.An t L)),.mem H]):=by
 refine Enzz λW F w hS=>?_;apply cFl;delta MK bU a_ cV aR;refine zw hS λxb w hS=>?_;obtain⟨rv,hr,hS⟩:=db.open (k:=k) hS Xr;unfold eJ at hS;rw[hx.aw]at hS
 have h1:=dx.one hl;refine Gn λw hS=>?_;refine Cg (bF6 H gp k.ts x.ov t.ops hx.ops hn hk) λw hS=>?_;have hS:SL W (.ob (db kp gp dp lp pp H (k.An t L))::_) _:=db.eO hS hl Xp;exact cA hS
structure BU(g:cU)(d:DS)(f n:Int)(es:List (Φ))(p:Φ):Prop where
 off:d.off=false
 du:oG d f n es p false
 m2:∀a,a≠1->0<=a->∃g2 d2,de g {d with arm:=a}=((g2,d2),0)/\gw g2 d2 f n es/\0<=d2.arm/\(a=0->d2.arm=0)/\d2.ops=d.ops+1/\g2.bF=g.bF/\g2.base=g.base/\g2.size=g.size
 m1:∃d2,de g {d with arm:=1}=((g,d2),8)/\d2.R=d.R/\d2.off=true/\d2.ops=d.ops+1
def cB4{g:cU}{d:DS}{f n:Int}{es:List (Φ)}(h:gw g d f n es){p:Φ}(hp:p.length<=1048576)(hn:n+es.length<=100000)(ha:0<=d.arm){k:Int}(hk:0<=k):
  (∃d',gk g d p k=((g,d'),8)/\oG d' f n es p false/\d'.off=true/\d'.ops=d.ops+1/\d.arm=1) \/
  (∃g' d',gk g d p k=((g',d'),0)/\BU g' d' f n es p/\0<=d'.arm/\(d.arm=0->d'.arm=0)/\d'.ops=d.ops+1/\g'.bF=g.bF/\g'.base=g.base/\g'.size=g.size):=by
 obtain⟨x,A,l0,pre,dZ,hr⟩:=FZ h hp hn;have iu:=h.off;have hm:de g d=((g,d),0):=by unfold de;rw[h.du]
 obtain⟨jX,f0,f1⟩:=hr.may h iu
 let t:=x.b.take (k.toNat % x.b.length)
 let d1:DS:={d.cE with R:=kH d.R x.file t}
 have dd:k.toNat % x.b.length<x.b.length:=vvi _ hr.pos;have hT:oG d1 f n es p false:=hr.du hp (m:=k.toNat % x.b.length) (by omega) (λ_=>dd) (by rw[<- h.files]);by_cases h1:d.arm=1
 ·left;have e:d.cE.off=true:=by simp[DS.cE,h1]
  have e2:d.cE.err=8:=by unfold DS.err;rw[e];rfl
  refine⟨d1,?_,hT,e,by simp[DS.cE,d1],h1⟩;unfold gk;rw[zzb (by omega),iu,dZ];simp only[hm];rw[zzb (by simp),append_eq jX,e2,zzc (by simp)]
 right;have e:d.cE.off=false:=by simp[DS.cE,h1]
 have e2:d.cE.err=0:=by unfold DS.err;rw[e];rfl
 have tc:=hr.app t;rw[<- h.files]at tc
 have nE:ph f (A.map ez++[⟨x.file,pre.length,pre++t⟩]):=hr.chain.sX.snoc (by rw[zzn];exact hr.file);have jC:d1.R=A.map ez++[⟨x.file,pre.length,pre++t⟩]:=tc;have mS:∀a,DS.find {d1 with arm:=a} x.file=0:=λa=>by
  unfold DS.find;rw[zzb (by rw[(hr.may h (d':={d1 with arm:=a}) e).1];simp)];have hs:=nE.sorted;show (if ix PF.id d1.R x.file=true then (0:Int) else 5)=0;rw[jC,zzc (Df (x:=⟨x.file,pre.length,pre++t⟩) hs)]
 have sh:0<=d1.arm:=by show 0<=if 0<d.arm then d.arm-1 else d.arm;split<;>omega
 have AI:∀a,(DS.cE {d1 with arm:=a}).off=decide (a=1):=λa=>rfl;refine⟨{g with du:=some ⟨x.file,if x.fresh=true then 0 else lH g.bF,x.fresh⟩},d1,?_,⟨e,hT,λa l4 ta=>?_,?_⟩,sh,λh0=>by simp[DS.cE,d1,h0],by simp[DS.cE,d1],rfl,rfl,rfl⟩
 ·exact cBw hk (by rw[iu];exact dZ) hm (by rw[append_eq jX,e2])
 ·have w_:(DS.cE {d1 with arm:=a}).off=false:=by rw[AI];exact zzz l4
  have CE:0<=(DS.cE {d1 with arm:=a}).arm/\(a=0->(DS.cE {d1 with arm:=a}).arm=0):=by
   show (0<=if 0<a then a-1 else a)/\(a=0->(if 0<a then a-1 else a)=0);split<;>omega
  unfold de;simp only;cases uw:x.fresh with
  | true=>
   obtain⟨hA,pR⟩:=hr.fresh uw;have xy:DS.remove {d1 with arm:=a} x.file=({DS.cE {d1 with arm:=a} with R:=A.map ez},0):=by
    unfold DS.remove;rw[zzb (by simp[mS]),zzb (by simp[w_])];have:jA PF.id d1.R x.file=A.map ez:=by rw[jC,RT (x:=⟨x.file,pre.length,pre++t⟩) nE.sorted]
    exact yyu (λR=>(({DS.cE {d1 with arm:=a} with R:=R},0):DS × Int)) this
   simp only[ww8,xy];refine⟨_,_,rfl,⟨h.chain,h.gv,by show A.map ez=_;rw[hA],h.nil,h.base,h.b0,h.b1,h.s0,h.s1,h.n1,h.fi,w_,rfl⟩,CE.1,CE.2,by simp[DS.cE],rfl,rfl,rfl⟩
  | false=>
   obtain⟨hA,fS⟩:=hr.nN uw;have hlen:gf d1.R x.file=(pre++t).length:=by
    unfold gf;rw[jC,Cr (x:=⟨x.file,pre.length,pre++t⟩) nE.sorted]
   have CG:DS.cut {d1 with arm:=a} x.file (pre.length:Nat)=({DS.cE {d1 with arm:=a} with R:=g.bF.map ez},0):=by
    unfold DS.cut;rw[zzb (by simp[mS]),zzb (by show ¬((pre.length:Int)<0\/gf d1.R x.file<pre.length);rw[hlen,zza];omega),zzb (by simp[w_])];have:ka d1.R x.file (jd pre.length)=g.bF.map ez:=by
     rw[jC,KC (x:=⟨x.file,pre.length,pre++t⟩) nE.sorted,hA];simp only[jd,wwp,Nat.min_self]
    rw[zzw];exact yyu (λR=>(({DS.cE {d1 with arm:=a} with R:=R},0):DS × Int)) this
   simp only[vvm,vvo,fS,CG,ww8];refine⟨_,_,rfl,⟨h.chain,h.gv,rfl,h.nil,h.base,h.b0,h.b1,h.s0,h.s1,h.n1,h.fi,w_,rfl⟩,CE.1,CE.2,by simp[DS.cE],rfl,rfl,rfl⟩
 have w_:(DS.cE {d1 with arm:=1}).off=true:=rfl;unfold de;simp only;cases uw:x.fresh with
 | true=>
  have xy:DS.remove {d1 with arm:=1} x.file=(DS.cE {d1 with arm:=1},8):=by
   unfold DS.remove;rw[zzb (by simp[mS]),zzc w_]
  simp only[ww8,xy];exact⟨_,rfl,rfl,rfl,by simp[DS.cE]⟩
 | false=>
  obtain⟨hA,fS⟩:=hr.nN uw;have hlen:gf d1.R x.file=(pre++t).length:=by
   unfold gf;rw[jC,Cr (x:=⟨x.file,pre.length,pre++t⟩) nE.sorted]
  have CG:DS.cut {d1 with arm:=1} x.file (pre.length:Nat)=(DS.cE {d1 with arm:=1},8):=by
   unfold DS.cut;rw[zzb (by simp[mS]),zzb (by show ¬((pre.length:Int)<0\/gf d1.R x.file<pre.length);rw[hlen,zza];omega),zzc w_]
  simp only[vvm,vvo,fS,CG];exact⟨_,rfl,rfl,rfl,by simp[DS.cE]⟩
def cB6{g g1:cU}{d d1:DS}{p:Φ}{k:Int}(hk:0<=k)(hm:de g d=((g1,d1),0))(hs:g1.bF=g.bF)(hb:g1.base=g.base)(hz:g1.size=g.size)(ho:d.off=false)(vy:d1.off=false)(ht:g1.du=none):gk g d p k=gk g1 d1 p k\/∃e,eN g1 false p= .error e:=by
 cases hx:eN g1 false p with
 | error e=>exact .inr ⟨e,rfl⟩
 | ok x=>
  left;have hp:eN g false p=eN g1 false p:=by
   unfold eN mu;rw[hs,hb,hz]
  have CR:de g1 d1=((g1,d1),0):=by unfold de;rw[ht]
  unfold gk;rw[ho,vy,hp,hx];simp only[hm,CR,hs,hb,hz];rw[zzb (show ¬k<0 by omega),zzb (show ¬k<0 by omega)]
def cB5{g:cU}{d d2:DS}{p:Φ}{k:Int}(hk:0<=k){x:hU}(hx:eN g d.off p= .ok x)(hm:de g d=((g,d2),8)):gk g d p k=((g,d2),8):=by
 unfold gk;rw[zzb (by omega),hx];simp only[hm];rw[zzc (by decide)]
def aw2{g:cU}{d d2:DS}{p:Φ}{x:hU}(hx:eN g d.off p= .ok x)(hm:de g d=((g,d2),8)):fj g d p=((g,d2),(0,8)):=by
 unfold fj;rw[hx];simp only[hm];rw[zzc (by decide)]
def FX{g g1:cU}(hs:g1.bF=g.bF)(hb:g1.base=g.base)(hz:g1.size=g.size)(off:Bool)(p:Φ):eN g off p=eN g1 off p:=by
 unfold eN mu;rw[hs,hb,hz]
def St(g:cU)(d:DS)(es:List (Φ))(m:Option (Φ)):Prop:=
 (gw g d 8192 1 es/\g.base=8192)\/((∃p,BU g d 8192 1 es p)/\g.base=8192)\/(d.off=true/\∃q w,oG d 8192 1 es q w/\(w=true->m=some q))
def St.append{g:cU}{d:DS}{es:List (Φ)}{m:Option (Φ)}(h:St g d es m)(ha:0<=d.arm)(ho:d.off=false){p:Φ}(hp:p.length<=1048576)(hl:es.length<=1000):
  (∃g' d',fj g d p=((g',d'),((1+es.length:Int),0))/\gw g' d' 8192 1 (es++[p])/\g'.base=8192/\d'.ops<=d.ops+3/\(d.arm=0->d'.arm=0)) \/
  (∃g' d',fj g d p=((g',d'),(0,8))/\St g' d' es (some p)/\d'.off=true/\d'.ops<=d.ops+3/\d.arm≠0):=by
 have CQ:∀{g:cU} {d:DS},gw g d 8192 1 es->g.base=8192->0<=d.arm->(∃g' d',fj g d p=((g',d'),((1+es.length:Int),0))/\gw g' d' 8192 1 (es++[p])/\g'.base=8192/\d'.ops<=d.ops+2/\(d.arm=0->d'.arm=0)) \/
   (∃g' d',fj g d p=((g',d'),(0,8))/\St g' d' es (some p)/\d'.off=true/\d'.ops<=d.ops+2/\d.arm≠0):=by
  intro g d h1 h2 ha;rcases aw1 h1 hp (by omega) (by rw[h2];omega) ha with ⟨g',d',e,k1,k2,k3,k4,k5,_⟩|⟨d',e,k1,k2,k3,k4⟩
  ·exact .inl ⟨g',d',e,k1,by rw[k5,h2],by omega,k4⟩
  exact .inr ⟨g,d',e,.inr (.inr ⟨k2,p,true,k1,λ_=>rfl⟩),k2,k3,k4⟩
 rcases h with ⟨h1,h2⟩|⟨⟨q,h1⟩,h2⟩|⟨h1,_⟩
 ·rcases CQ h1 h2 ha with ⟨g',d',e,k1,k2,k3,k4⟩|⟨g',d',e,k1,k2,k3,k4⟩
  ·exact .inl ⟨g',d',e,k1,k2,by omega,k4⟩
  exact .inr ⟨g',d',e,k1,k2,by omega,k4⟩
 ·obtain⟨g0,d0,m0,l0,_,_,_,s0,b0,z0⟩:=h1.m2 0 (by decide) (by decide);obtain⟨x,_,_,_,dZ,_⟩:=FZ l0 hp (by omega);rw[<- FX s0 b0 z0]at dZ
  by_cases l4:d.arm=1
  ·obtain⟨d2,e,r1,r2,r3⟩:=h1.m1;have e:de g d=((g,d2),8):=by rw[<- e,<- l4]
   exact .inr ⟨g,d2,aw2 (by rw[ho];exact dZ) e,.inr (.inr ⟨r2,q,false,h1.du.sM r1,λh=>by cases h⟩),r2,by omega,by omega⟩
  obtain⟨g2,d2,e,l2,a2,a3,o2,s2,b2,z2⟩:=h1.m2 d.arm l4 ha;have e:de g d=((g2,d2),0):=e;have IZ:eN g2 false p= .ok x:=by rw[<- FX s2 b2 z2];exact dZ
  rw[aw3 e s2 b2 z2 ho l2.off l2.du IZ];rcases CQ l2 (by rw[b2,h2]) a2 with ⟨g',d',e,k1,k2,k3,k4⟩|⟨g',d',e,k1,k2,k3,k4⟩
  ·exact .inl ⟨g',d',e,k1,k2,by omega,λh=>k4 (a3 h)⟩
  exact .inr ⟨g',d',e,k1,k2,by omega,λh=>k4 (a3 h)⟩
 rw[ho]at h1;cases h1
def St.cBt{g:cU}{d:DS}{es:List (Φ)}{m:Option (Φ)}(h:St g d es m)(ha:0<=d.arm)(ho:d.off=false){p:Φ}(hp:p.length<=1048576)(hl:es.length<=1000){k:Int}(hk:0<=k):
  ∃g' d' e,gk g d p k=((g',d'),e)/\St g' d' es none/\d'.ops<=d.ops+2/\((e=0/\d'.off=false/\(d.arm=0->d'.arm=0))\/(e=8/\d'.off=true/\d.arm≠0)):=by
 have CQ:∀{g:cU} {d:DS},gw g d 8192 1 es->g.base=8192->0<=d.arm->∃g' d' e,gk g d p k=((g',d'),e)/\St g' d' es none/\d'.ops<=d.ops+1/\((e=0/\d'.off=false/\(d.arm=0->d'.arm=0))\/(e=8/\d'.off=true/\d.arm≠0)):=by
  intro g d h1 h2 ha;rcases cB4 h1 hp (by omega) ha hk with ⟨d',e,k1,k2,k3,k4⟩|⟨g',d',e,k1,k2,k3,k4,k5,k6,k7⟩
  ·exact⟨g,d',8,e,.inr (.inr ⟨k2,p,false,k1,λh=>by cases h⟩),by omega,.inr ⟨rfl,k2,by omega⟩⟩
  exact⟨g',d',0,e,.inr (.inl ⟨⟨p,k1⟩,by rw[k6,h2]⟩),by omega,.inl ⟨rfl,k1.off,k3⟩⟩
 rcases h with ⟨h1,h2⟩|⟨⟨q,h1⟩,h2⟩|⟨h1,_⟩
 ·obtain⟨g',d',e,k1,k2,k3,k4⟩:=CQ h1 h2 ha;exact⟨g',d',e,k1,k2,by omega,k4⟩
 ·obtain⟨g0,d0,m0,l0,_,_,_,s0,b0,z0⟩:=h1.m2 0 (by decide) (by decide);obtain⟨x,_,_,_,dZ,_⟩:=FZ l0 hp (by omega);rw[<- FX s0 b0 z0]at dZ
  by_cases l4:d.arm=1
  ·obtain⟨d2,e,r1,r2,r3⟩:=h1.m1;have e:de g d=((g,d2),8):=by rw[<- e,<- l4]
   exact⟨g,d2,8,cB5 hk (by rw[ho];exact dZ) e,.inr (.inr ⟨r2,q,false,h1.du.sM r1,λh=>by cases h⟩),by omega,.inr ⟨rfl,r2,by omega⟩⟩
  obtain⟨g2,d2,e,l2,a2,a3,o2,s2,b2,z2⟩:=h1.m2 d.arm l4 ha;have e:de g d=((g2,d2),0):=e;have IZ:eN g2 false p= .ok x:=by rw[<- FX s2 b2 z2];exact dZ
  rcases cB6 (p:=p) (k:=k) hk e s2 b2 z2 ho l2.off l2.du with h3|⟨e',h3⟩
  ·rw[h3];obtain⟨g',d',e,k1,k2,k3,k4⟩:=CQ l2 (by rw[b2,h2]) a2;refine⟨g',d',e,k1,k2,by omega,?_⟩;rcases k4 with ⟨k5,k6,k7⟩|⟨k5,k6,k7⟩
   ·exact .inl ⟨k5,k6,λh=>k7 (a3 h)⟩
   exact .inr ⟨k5,k6,λh=>k7 (a3 h)⟩
  rw[IZ]at h3;cases h3
 rw[ho]at h1;cases h1
def St.open{g:cU}{d:DS}{es:List (Φ)}{m:Option (Φ)}(h:St g d es m)(keep:Ω)(hl:es.length<=1000){size:Int}(s0:64<=size)(s1:size<=65536):
  ∃g2 d2 iK,eV (d.eD keep) 8192 size=(d2,.ok g2)/\gw g2 d2 8192 1 iK/\g2.base=8192/\d2.arm=0/\d2.ops<=d.ops+1/\(iK=es\/∃p,m=some p/\iK=es++[p]):=by
 have Ui:∀{q w},oG d 8192 1 es q w->∃g2 d2 iK,eV (d.eD keep) 8192 size=(d2,.ok g2)/\gw g2 d2 8192 1 iK/\g2.base=8192/\d2.arm=0/\d2.ops<=d.ops+1/\(iK=es\/(w=true/\iK=es++[q])):=by
  intro q w hT;obtain⟨g2,d2,iK,h1,h2,h3,h4,h5,h6,h7⟩:=cCc hT keep (base:=8192) (size:=size) (by decide) (by decide) s0 s1 (by decide) (by omega) (by decide) (by omega) ⟨rfl,rfl⟩;exact⟨g2,d2,iK,h1,h2,h5,h3,h4,h7⟩
 rcases h with ⟨h1,h2⟩|⟨⟨q,h1⟩,h2⟩|⟨h1,q,w,h2,h3⟩
 ·have hR:(d.eD keep).R=g.bF.map ez:=by show eT d.R keep=_;rw[h1.files,Rx]
  have hle:=h1.chain.sB;rw[h1.gv]at hle
  have:=JX (d:=d.eD keep) (base:=8192) (size:=size) h1.chain hR rfl (by decide) (by decide) s0 s1 (by decide) (by omega) (by decide) (by rw[h1.gv];omega);exact⟨_,_,es,this,⟨h1.chain,h1.gv,hR,λ_=>⟨rfl,rfl⟩,yyd _,(by decide:(0:Int)<=8192),(by decide:(8192:Int)<=12288),s0,s1,by decide,by show (8192:Int)+es.length+2<=8192+4096;omega,rfl,rfl⟩,rfl,rfl,Nat.le_succ _,.inl rfl⟩
 ·obtain⟨g2,d2,iK,k1,k2,k3,k4,k5,k6⟩:=Ui h1.du;rcases k6 with k6|⟨k6,_⟩
  ·exact⟨g2,d2,iK,k1,k2,k3,k4,k5,.inl k6⟩
  cases k6
 obtain⟨g2,d2,iK,k1,k2,k3,k4,k5,k6⟩:=Ui h2;rcases k6 with k6|⟨k6,k7⟩
 ·exact⟨g2,d2,iK,k1,k2,k3,k4,k5,.inl k6⟩
 exact⟨g2,d2,iK,k1,k2,k3,k4,k5,.inr ⟨q,h3 k6,k7⟩⟩
def gw.st{g:cU}{d:DS}{es:List (Φ)}(h:gw g d 8192 1 es)(hb:g.base=8192)(m:Option (Φ)):St g d es m:=.inl ⟨h,hb⟩
def iP.head{L:List da}(h:iP L)(hL:L≠[]):cI L=eZ L+(cR L).length-1:=by
 induction L with
 | nil=>exact absurd rfl hL
 | cons s r ih=>
  cases r with
  | nil=>simp[cI,eZ,cR,da.next]
  | cons t r=>
   have h1:=ih h.2 (by simp);have h2:cI (s::t::r)=cI (t::r):=by simp only[cI,uug]
   have h3:=h.1;rw[h2,h1,pB s (t::r),zza];simp only[da.next]at h3;show eZ (t::r)+_-1=s.first+_-1;have:eZ (t::r)=t.first:=rfl;rw[this];omega
def iP.read:∀{L:List da},iP L->∀i:Nat,mE L (eZ L+i)=(cR L)[i]?
 | [],_,i=>by simp[mE,cR]
 | [s],_,i=>by
  have e:eZ [s]=s.first:=rfl;rw[e,mE,pB];have he:cR []=([]:List (Φ)):=rfl;rw[he,zzx];by_cases h:i<s.l.length
  ·rw[zzc ⟨by omega,by show s.first+i<s.first+s.l.length;omega⟩];congr 1;omega
  rw[zzb (by rintro ⟨_,h2⟩;have h2:s.first+i<s.first+s.l.length:=h2;omega),yyr (by omega)];rfl
 | s::t::r,h,i=>by
  have e:eZ (s::t::r)=s.first:=rfl;have e2:eZ (t::r)=t.first:=rfl;have h1:=h.1;simp only[da.next]at h1;rw[e,mE,pB];by_cases hi:i<s.l.length
  ·rw[zzc ⟨by omega,by show s.first+i<s.first+s.l.length;omega⟩,zzt hi];congr 1;omega
  rw[zzb (by rintro ⟨_,h2⟩;have h2:s.first+i<s.first+s.l.length:=h2;omega),yya (by omega)];have:=iP.read h.2 (i-s.l.length);rw[e2]at this
  rw[<- this];congr 1;omega
def runT(cM:Nat):List cD->Tr->Option Tr
 | [],t=>some t
 | x::r,t=>match stepT cM t x with
  | some t'=>runT cM r t'
  | none=>none
def DB(cM:Nat):∀(xs:List cD) (x:cD) (t t1:Tr),runT cM xs t=some t1->runT cM (xs++[x]) t=stepT cM t1 x
 | [],x,t,t1,h=>by
  cases h;show (match stepT cM t x with|some t'=>runT cM [] t'|none=>none)=_;cases stepT cM t x<;>rfl
 | y::xs,x,t,t1,h=>by
  have h:(match stepT cM t y with|some t'=>runT cM xs t'|none=>none)=some t1:=h;show (match stepT cM t y with|some t'=>runT cM (xs++[x]) t'|none=>none)=_;cases hs:stepT cM t y with
  | none=>rw[hs]at h;cases h
  | some t'=>rw[hs]at h;exact DB cM xs x t' t1 h
def Rc{x:cD}(h:ep x=true):nA (gh x)= .ok x:=by
 obtain⟨b,e1,e2⟩:=RN h;unfold gh;rw[e1];exact e2
def B6{x:cD}(h:ep x=true):(gh x).length<=29+x.ops.length*71+x.notes.length*63/\(gh x).length<=306973:=by
 obtain⟨b,e1,_⟩:=RN h;have:=a_4 h e1;obtain⟨h0,_⟩:=oy.1 h;unfold gh;rw[e1];show b.length<=_/\b.length<=_;omega
def Wo(cM:Nat):∀(xs:List cD) (t:Tr),(∀x∈xs,ep x=true)->tL cM (xs.map gh) t=runT cM xs t
 | [],_,_=>rfl
 | x::xs,t,h=>by
  rw[zzo,tL,Rc (h x (.head _))];show _=(match stepT cM t x with|some t'=>runT cM xs t'|none=>none);simp only;cases stepT cM t x with
  | none=>rfl
  | some t'=>exact Wo cM xs t' λy hy=>h y (.tail _ hy)
structure iT(cM:Nat)(k:cN)(xs:List cD)(m:Option cD):Prop where
 st:St k.g k.d (xs.map gh) (m.map gh)
 may:∀x∈xs,ep x=true
 run:runT cM xs (rI cM)=some k.tr
 len:k.ts.length=cM
 KN:∀x,m=some x->ep x=true/\∃t,stepT cM k.tr x=some t
def iT.plan{cM:Nat}{k:cN}{xs:List cD}{m:Option cD}(h:iT cM k xs m)(p:List fQ):iT cM {k with plan:=p} xs m:=⟨h.st,h.may,h.run,h.len,h.KN⟩
def Ks{cM:Nat}{t:Tr}{x:cD}{L:List Rq}(hf:fW cM t.2.1 x=some L)(hl:t.2.2<x.aw):stepT cM t x=some ((fw t.1 x.ops).1,L,x.aw):=by
 unfold stepT;rw[hf];simp only;rw[zzc hl]
def Cm{n:Nat}{L L':List Rq}{x:cD}(h:fW n L x=some L'):ep x=true/\sJ n x=true/\fT L x.notes=some L':=by
 unfold fW at h;split at h
 ·rename_i hc;exact⟨hc.1,hc.2,h⟩
 cases h
def cLd{cM:Nat}{k:cN}{xs:List cD}{m:Option cD}(h:iT cM k xs m)(ha:0<=k.d.arm)(ho:k.d.off=false)(hl:xs.length<=900){x:cD}{L:List Rq}(hf:fW cM k.reqs x=some L)(dd:k.aw<x.aw):
  ((k.gu x L).2=0/\iT cM (k.gu x L).1 (xs++[x]) none/\(k.gu x L).1.tr=((fw k.ts x.ops).1,L,x.aw)/\(k.gu x L).1.plan=k.plan/\(k.gu x L).1.d.off=false/\(k.d.arm=0->(k.gu x L).1.d.arm=0)/\(k.gu x L).1.d.ops<=k.d.ops+3) \/
  ((k.gu x L).2=8/\iT cM (k.gu x L).1 xs (some x)/\(k.gu x L).1.tr=k.tr/\(k.gu x L).1.plan=k.plan/\(k.gu x L).1.d.off=true/\k.d.arm≠0/\(k.gu x L).1.d.ops<=k.d.ops+3):=by
 obtain⟨hm,ht,hn⟩:=Cm hf;have hb:=(B6 hm).2;have hs:stepT cM k.tr x=some ((fw k.ts x.ops).1,L,x.aw):=Ks (t:=k.tr) hf dd;rcases h.st.append ha ho (p:=gh x) (by omega) (by rw[zzn];omega) with ⟨g',d',e,k1,k2,k3,k4⟩|⟨g',d',e,k1,k2,k3,k4⟩
 ·left;have hw:k.gu x L=(cN.An {k with g:=g',d:=d'} x L,0):=by
   unfold cN.gu;simp only[e];rw[zzc trivial]
  rw[hw];refine⟨rfl,⟨?_,?_,?_,?_,λy hy=>by cases hy⟩,rfl,rfl,k1.off,k4,k3⟩
  ·rw[zzs];exact k1.st k2 _
  ·intro y hy;rcases zz1.1 hy with hy|hy
   ·exact h.may y hy
   rw[zz3.1 hy];exact hm
  ·rw[DB cM xs x _ _ h.run,hs];rfl
  show (fw k.ts x.ops).1.length=cM;rw[J9,h.len]
 right;have hw:k.gu x L=({k with g:=g',d:=d'},8):=by
  unfold cN.gu;simp only[e];rw[zzb (by decide)]
 rw[hw];exact⟨rfl,⟨k1,h.may,h.run,h.len,λy hy=>by cases hy;exact⟨hm,_,hs⟩⟩,rfl,rfl,k2,k4,k3⟩
def cB2{cM:Nat}{k:cN}{xs:List cD}{m:Option cD}(h:iT cM k xs m)(ha:0<=k.d.arm)(ho:k.d.off=false)(hl:xs.length<=900){x:cD}(hm:ep x=true){n:Int}(hn:0<=n):
  iT cM (k.j_ x n).1 xs none/\(k.j_ x n).1.tr=k.tr/\(k.j_ x n).1.plan=k.plan/\(k.j_ x n).1.d.ops<=k.d.ops+2 /\
   (((k.j_ x n).2=0/\(k.j_ x n).1.d.off=false/\(k.d.arm=0->(k.j_ x n).1.d.arm=0))\/((k.j_ x n).2=8/\(k.j_ x n).1.d.off=true/\k.d.arm≠0)):=by
 have hb:=(B6 hm).2;obtain⟨g',d',e,h1,h2,h3,h4⟩:=h.st.cBt ha ho (p:=gh x) (by omega) (by rw[zzn];omega) hn;have hw:k.j_ x n=({k with g:=g',d:=d'},e):=by unfold cN.j_;simp only[h1]
 rw[hw];exact⟨⟨h2,h.may,h.run,h.len,λy hy=>by cases hy⟩,rfl,rfl,h3,h4⟩
def iT.open{cM:Nat}(t1:1<=cM)(t8:cM<=8){k:cN}{xs:List cD}{m:Option cD}(h:iT cM k xs m)(keep:Ω)(hl:xs.length<=900){size:Int}(s0:64<=size)(s1:size<=65536):
  ∃k' c_,kC (k.d.eD keep) cM size=(k'.d,.ok k')/\iT cM k' c_ none/\k'.plan=[]/\k'.d.off=false/\k'.d.arm=0/\k'.d.ops<=k.d.ops+1/\gw k'.g k'.d 8192 1 (c_.map gh)/\(c_=xs\/∃x,m=some x/\c_=xs++[x]):=by
 obtain⟨g2,d2,iK,e,l2,b2,a2,o2,Iw⟩:=h.st.open keep (by rw[zzn];omega) s0 s1;have hx:∃c_,iK=c_.map gh/\(∀x∈c_,ep x=true)/\(∃t,runT cM c_ (rI cM)=some t/\t.1.length=cM)/\(c_=xs\/∃x,m=some x/\c_=xs++[x]):=by
  rcases Iw with rfl|⟨p,hp,rfl⟩
  ·exact⟨xs,rfl,h.may,⟨_,h.run,h.len⟩,.inl rfl⟩
  cases m with
  | none=>cases hp
  | some x=>
   have hp:some (gh x)=some p:=hp;cases hp;obtain⟨w1,t,w2⟩:=h.KN x rfl;refine⟨xs++[x],by simp,λy hy=>?_,⟨t,by rw[DB cM xs x _ _ h.run,w2],?_⟩,.inr ⟨x,rfl,rfl⟩⟩
   ·rcases zz1.1 hy with hy|hy
    ·exact h.may y hy
    rw[zz3.1 hy];exact w1
   unfold stepT at w2;split at w2
   ·split at w2
    ·cases w2;show (fw k.ts x.ops).1.length=cM;rw[J9,h.len]
    cases w2
   cases w2
 obtain⟨c_,rfl,jX,⟨t,xz,k9⟩,hor⟩:=hx;refine⟨⟨g2,d2,t.1,[],t.2.2,t.2.1⟩,c_,?_,⟨l2.st b2 _,jX,xz,k9,λy hy=>by cases hy⟩,rfl,l2.off,a2,o2,l2,hor⟩;unfold kC;rw[zzb (by omega)];simp only[e];have ri:eZ g2.bF=1:=by
  by_cases hL:g2.bF=[]
  ·rw[hL];rfl
  rw[l2.chain.low hL]
 rw[zzb (λhh=>hh.1 ri),l2.gv,zzw,Wo cM c_ _ jX,xz]
def lj:List fQ->fQ × List fQ
 | []=>(⟨0,0⟩,[])
 | f::r=>(f,r)
def Qt(p:Nat)(L:List fQ)(hL:L.length<=1024):SP 343 [iH p] [.ob (gy p L)] (λv post=>∃q,v= .tuple #[agg (iJ (lj L).1),.bool q]/\post=[.ob (gy p (lj L).2)]):=by
 cases L with
 | nil=>exact (bFk p).mono λv post h=>⟨false,h.1,h.2⟩
 | cons f r=>exact (bFj p f r (by rw[zzh]at hL;omega)).mono λv post h=>⟨true,h.1,h.2⟩
def cN.tU(k:cN)(x:cD):cN × Int:=
 let r:=fj k.g k.d (gh x)
 ({k with g:=r.1.1,d:=r.1.2},r.2.2)
def Gt(k:cN)(x:cD)(L:List Rq):k.gu x L=if (k.tU x).2=0 then ((k.tU x).1.An x L,0) else k.tU x:=by
 unfold cN.gu cN.tU;simp only
def cN.lx(k:cN)(x:cD)(f:fQ):cN × Int:=if f.kind=2 then k.j_ x f.keep else if k.aw<x.aw then k.tU x else (k,0)
def cN.r_(k:cN)(x:cD)(f:fQ)(L:List Rq):cN × Int:=
 if (k.lx x f).2≠0 then k.lx x f else ((if k.aw<x.aw/\f.kind≠2 then (k.lx x f).1.An x L else (k.lx x f).1),if f.kind≠0 then 9 else 0)
def bZq{L:List fQ}(h:∀f∈L,iZ f=true):((lj L).1.kind=0/\L=[])\/(L≠[]/\((lj L).1.kind=1\/(lj L).1.kind=2\/(lj L).1.kind=3)):=by
 cases L with
 | nil=>exact .inl ⟨rfl,rfl⟩
 | cons f r=>
  have h1:=h f (.head _);unfold iZ at h1;rw[zzy]at h1
  right;refine⟨by simp,?_⟩;show f.kind=1\/f.kind=2\/f.kind=3;omega
def bZp{L:List fQ}(h:∀f∈L,iZ f=true):0<=(lj L).1.keep:=by
 cases L with
 | nil=>exact yyd _
 | cons f r=>
  have h1:=h f (.head _);unfold iZ at h1;rw[zzy]at h1
  show 0<=f.keep;omega
def aRn{k:cN}{x:cD}(h:ep x=false\/(k.aw<x.aw/\fW k.ts.length k.reqs x=none)):k.fP x=(k,1):=zzc h
def aRr{k:cN}{x:cD}(h:¬(ep x=false\/(k.aw<x.aw/\fW k.ts.length k.reqs x=none)))(ho:k.d.off=true):k.fP x=(k,8):=by
 unfold cN.fP;rw[zzb h,zzc ho]
def aRm{k:cN}{x:cD}(h:¬(ep x=false\/(k.aw<x.aw/\fW k.ts.length k.reqs x=none)))(ho:k.d.off=false)(hf:(lj k.plan).1.kind=1\/((lj k.plan).1.kind=2/\¬k.aw<x.aw)):k.fP x=({k with plan:=(lj k.plan).2},9):=by
 unfold cN.fP;rw[zzb h,zzb (by rw[ho];decide)];cases hp:k.plan with
 | nil=>rw[hp]at hf;rcases hf with hf|⟨hf,_⟩<;>cases hf
 | cons f r=>
  rw[hp]at hf
  have hf:f.kind=1\/(f.kind=2/\¬k.aw<x.aw):=hf;simp only;rw[zzb (by omega),zzb (by omega)];rfl
def aRo{k:cN}{x:cD}(h:¬(ep x=false\/(k.aw<x.aw/\fW k.ts.length k.reqs x=none)))(ho:k.d.off=false)(hm:∀f∈k.plan,iZ f=true)(hf:¬((lj k.plan).1.kind=1\/((lj k.plan).1.kind=2/\¬k.aw<x.aw))):
  k.fP x=cN.r_ {k with plan:=(lj k.plan).2} x (lj k.plan).1 ((fW k.ts.length k.reqs x).getD []):=by
 have hn:=bZq hm;unfold cN.fP;rw[zzb h,zzb (by rw[ho];decide)];generalize (fW k.ts.length k.reqs x).getD []=L;cases hp:k.plan with
 | nil=>
  rw[hp]at hn hf
  have e:({k with plan:=(lj []).2}:cN)=k:=by rw[<- hp];cases k;simp only at hp;subst hp;rfl
  rw[e];show (if k.aw<x.aw then k.gu x L else (k,0))=_;by_cases hl:k.aw<x.aw
  ·by_cases h0:(k.tU x).2=0
   ·simp[cN.r_,cN.lx,Gt,lj,hl,h0]
   simp[cN.r_,cN.lx,Gt,lj,hl,h0]
  simp[cN.r_,cN.lx,lj,hl]
 | cons f r=>
  rw[hp]at hn hf
  have hf:¬(f.kind=1\/(f.kind=2/\¬k.aw<x.aw)):=hf;have hn:f.kind=2\/f.kind=3:=by
   rcases hn with ⟨_,h⟩|⟨_,h⟩
   ·cases h
   have h:f.kind=1\/f.kind=2\/f.kind=3:=h;omega
  show _=cN.r_ {k with plan:=r} x f L;generalize pO:({k with plan:=r}:cN)=k';have re:k'.aw=k.aw:=by rw[<- pO]
  simp only;rw[pO];rcases hn with hn|hn
  ·have hl:k.aw<x.aw:=by
    rcases Int.lt_or_le k.aw x.aw with h|h
    ·exact h
    exact absurd (.inr ⟨hn,by omega⟩) hf
   by_cases h0:(k'.j_ x f.keep).2=0
   ·simp[cN.r_,cN.lx,hn,hl,re,h0]
   simp[cN.r_,cN.lx,hn,hl,h0]
  by_cases hl:k.aw<x.aw
  ·by_cases h0:(k'.tU x).2=0
   ·simp[cN.r_,cN.lx,Gt,hn,hl,re,h0]
   simp[cN.r_,cN.lx,Gt,hn,hl,re,h0]
  simp[cN.r_,cN.lx,hn,hl,re]
abbrev x_(kp gp dp lp pp:Nat)(H:bw)(y:cN × Int)(v:Ε)(post:Β):Prop:=v= Γ y.2/\∃H',H.le H'/\post=[.ob (db kp gp dp lp pp H' y.1),.mem H']
def Re{t:cD}(h:ep t=true):ud t= .ok (gh t):=by
 have h1:=(HG h).1;unfold gh;rw[h1]
def YU(kp gp dp lp pp:Nat)(H:bw)(k:cN)(x:iA)(t:cD)(hx:gZ H x t)(hi:BM t)(xh:∀o∈t.ops,lg o.key){N m:Nat}(hk:BO k N m):
  SP 301 [iH kp,agg (eJ x)] [.ob (db kp gp dp lp pp H k),.mem H] (x_ kp gp dp lp pp H (k.fP t)):=by
 intro W F w hS;apply cHx;delta N' aI bU a_ cL ai;(try simp only[app]at hS);refine zw hS λxb w hS=>?_;obtain⟨rv,hr,hS⟩:=db.open (k:=k) hS Xr;have ex:eJ x=[Γ t.aw,x.ov,x.nv]:=by unfold eJ;rw[hx.aw]
 rw[ex]at hS
 refine Gn λw hS=>?_;have hS:=db.put k hS hr Xp;rw[<- ex];rw[<- ex]at hS
 refine Cc (Zu kp gp dp lp pp H k x t hx hi hk.rq) ?_;clear hS;rintro u post ⟨H1,dj,hq,rfl⟩ w hS;have hu:∃y,u= .tuple #[y,.bool (fW k.ts.length k.reqs t).isSome]/\∀L,fW k.ts.length k.reqs t=some L->jc H1 y L:=by
  unfold z_ at hq;cases hc:fW k.ts.length k.reqs t with
  | none=>rw[hc]at hq;obtain⟨y,rfl⟩:=hq;exact⟨y,rfl,λL h=>by cases h⟩
  | some L=>rw[hc]at hq;obtain⟨y,rfl,hy⟩:=hq;exact⟨y,rfl,λL' h=>by cases h;exact hy⟩
 obtain⟨y,rfl,hy⟩:=hu;clear hq;have nI:=hx.mono dj;(try simp only[app]at hS);refine Gp ?_
 have gC:∀{w:Ζ} {H':bw} {z:cN} {e:Int},H.le H'->k.fP t=(z,e)->SL W (.ob (db kp gp dp lp pp H' z)::.mem H'::F) w->∃post,x_ kp gp dp lp pp H (k.fP t) (Γ e) post/\SL W (app post F) w:=λhh he hS=>by rw[he];exact⟨_,⟨rfl,_,hh,rfl⟩,hS⟩
 refine⟨λus w=>∃q:Bool,us=[.bool q]/\(q=true↔(ep t=false\/(k.aw<t.aw/\fW k.ts.length k.reqs t=none)))/\SL W (.ob (db kp gp dp lp pp H1 k)::.mem H1::.pt xb (eJ x) 214::F) w,?_,?_⟩
 ·refine Gp ?_;refine Cg (zZ H1 x t nI) λw hS=>?_;refine zu (λhm=>?_) (λhm=>?_)
  ·exact⟨true,rfl,⟨λ_=>.inl hm,λ_=>rfl⟩,aW hS⟩
  refine za (λhl=>?_) (λhl=>?_)
  ·refine Gp ?_;refine⟨_,rfl,?_,aW hS⟩;rw[hm];cases fW k.ts.length k.reqs t with
   | none=>exact⟨λ_=>.inr ⟨hl,rfl⟩,λ_=>rfl⟩
   | some L=>exact⟨λh=>by (cases h),λh=>by rcases h with h|⟨_,h⟩<;>cases h⟩
  refine⟨false,rfl,⟨λh=>by (cases h),λh=>?_⟩,aW hS⟩;rcases h with h|h
  ·rw[hm]at h;cases h
  exact absurd h.1 hl
 clear hS;rintro v25 w ⟨q,cO,hq,hS⟩;cases cO;refine yU (λhqt=>gC dj (aRn (hq.1 hqt)) (aW hS)) (λT9=>?_);have CW:¬(ep t=false\/(k.aw<t.aw/\fW k.ts.length k.reqs t=none)):=λh=>by rw[hq.2 h]at T9;cases T9
 have jX:ep t=true:=by
  cases hb:ep t with
  | true=>rfl
  | false=>exact absurd (.inl hb) CW
 obtain⟨rv,hr,hS⟩:=db.open (k:=k) hS Xr;refine Gp ?_;refine Cg (zM dp k.d) λw hS=>?_;refine yU (λho=>?_) (λho=>?_)
 ·have hS:=db.put k hS hr Xp;exact gC dj (aRr CW ho) (aW hS)
 refine Gp ?_;refine Cc (Qt pp k.plan hk.pl) ?_;clear hS;rintro _ post ⟨nq,rfl,rfl⟩ w hS;try simp only[app]at hS
 have AY:=hk.mC;have TE:=bZp AY;have Tg:=aRm CW ho;have Th:=aRo CW ho AY;have AV:(lj k.plan).2.length<=1024:=by
  have:=hk.pl;cases hp:k.plan with
  | nil=>exact zz4 _
  | cons f r=>rw[hp,zzh]at this;show r.length<=1024;omega
 generalize hf:(lj k.plan).1=f at *
 generalize (lj k.plan).2=pr at *
 refine Gp ?_;refine Gb λfb w hS=>?_;refine⟨λus w=>us=[]/\¬(f.kind=1\/(f.kind=2/\¬k.aw<t.aw))/\SL W (.pt kp (nM gp dp lp pp k.aw rv) 90::.ob (gm gp k.ts)::.ob (dc lp dp k.g)::.ob (gy pp pr)::.ob (bX dp k.d)::.pt fb (iJ f) 33::.mem H1::.pt xb (eJ x) 214::F) w,?_,?_⟩
 ·have h9:∀{w:Ζ},f.kind=1\/(f.kind=2/\¬k.aw<t.aw)->SL W (.ob (bX dp k.d)::.ob (gy pp pr)::.pt kp (nM gp dp lp pp k.aw rv) 90::.ob (gm gp k.ts)::.ob (dc lp dp k.g)::.mem H1::F) w->∃post,x_ kp gp dp lp pp H (k.fP t) (Γ 9) post/\SL W (app post F) w:=λh hS=>by
   have hS:=db.eO (H:=H1) (reqs:=k.reqs) hS hr Xp;exact gC dj (Tg h) hS
  refine Gp ?_;refine za (λh1=>h9 (.inl h1) (aW hS)) (λh1=>?_);refine Gp ?_;refine za (λh2=>?_) (λh2=>⟨rfl,by omega,aW hS⟩);refine Gp ?_;refine zu (λhl=>h9 (.inr ⟨h2,yyw hl⟩) (aW hS)) (λhl=>⟨rfl,λh=>?_,aW hS⟩);rcases h with h|⟨_,h⟩
  ·exact h1 h
  exact h (zzm hl)
 clear hS;rintro w ⟨-,hnf,hS⟩;have lB:=Th hnf;clear Tg Th;refine Gp ?_;refine Cc (YJ H1 x t nI) ?_;clear hS;rintro r post I0 w hS;unfold BI at I0;rw[Re jX]at I0
 obtain⟨bv,rfl,rfl⟩:=I0;have pK:=(B6 jX).2;(try simp only[app]at hS);refine Gp ?_
 generalize pO:({k with plan:=pr}:cN)=k' at lB;have xc:k'.g=k.g/\k'.d=k.d/\k'.ts=k.ts/\k'.aw=k.aw/\k'.reqs=k.reqs/\k'.plan=pr:=by rw[<- pO];exact⟨rfl,rfl,rfl,rfl,rfl,rfl⟩
 obtain⟨g1,g2,g3,g4,g5,g6⟩:=xc;have hW:(k'.lx t f).1.ts=k.ts/\(k'.lx t f).1.aw=k.aw/\(k'.lx t f).1.reqs=k.reqs/\(k'.lx t f).1.plan=pr:=by
  unfold cN.lx;split
  ·unfold cN.j_;exact⟨g3,g4,g5,g6⟩
  split
  ·unfold cN.tU;exact⟨g3,g4,g5,g6⟩
  exact⟨g3,g4,g5,g6⟩
 refine⟨λus w=>us=[Γ (k'.lx t f).2]/\SL W (.ob (db kp gp dp lp pp H1 (k'.lx t f).1)::.pt fb (iJ f) 33::.mem H1::.pt xb (eJ x) 214::F) w,?_,?_⟩
 ·have so:=hk.g.ok;have CI:=hk.d;have hle:=hk.le;have eY:=hk.ops;refine Gp ?_;refine za (λh=>absurd rfl h) (λ_=>?_);unfold cN.lx;refine bY (λh2=>?_) (λh2=>?_)
  ·rw[zzc h2];refine Gn λw hS=>?_;refine Cg (Q5 (.ob (bI bv 5 1 (gh t).length ((gh t).map cX))) lp dp k.g k.d bv (gh t) f.keep dP.own (by omega) so (by omega) CI (by omega) (by omega)) λw hS=>?_;unfold cN.j_;rw[g1,g2];have hS:=db.eO (H:=H1) (reqs:=k.reqs) hS hr Xp;refine⟨rfl,?_⟩;rw[<- pO];exact aW hS
  rw[zzb h2,g4];refine za (λhl=>?_) (λhl=>?_)
  ·rw[zzc hl];refine Gp ?_;refine Cg (Zg (.ob (bI bv 5 1 (gh t).length ((gh t).map cX))) lp dp k.g k.d bv (gh t) dP.own (by omega) so (by omega) CI (by omega) (by omega)) λw hS=>?_;unfold cN.tU;simp only;rw[g1,g2];have hS:=db.eO (H:=H1) (reqs:=k.reqs) hS hr Xp;refine⟨rfl,?_⟩;rw[<- pO];exact aW hS
  rw[zzb hl];have hS:=db.eO (H:=H1) (reqs:=k.reqs) hS hr Xp;refine⟨rfl,?_⟩;rw[<- pO];exact aW hS
 clear hS;rintro v11 w ⟨cO,hS⟩;cases cO;unfold cN.r_ at lB;obtain⟨w1,w2,w3,w4⟩:=hW;generalize k'.lx t f=z at *
 obtain⟨z,e⟩:=z;simp only at *
 refine bY (λhe=>?_) (λhe=>?_)
 ·rw[zzc he]at lB
  exact gC dj lB (aW hS)
 rw[zzb he,g4]at lB
 have gL:∀{w:Ζ} {z':cN},k.fP t=(z',if f.kind≠0 then 9 else 0)->SL W (.ob (db kp gp dp lp pp H1 z')::.pt fb (iJ f) 33::.mem H1::F) w->dm (.bool (decide (f.kind≠0))) (∃post,x_ kp gp dp lp pp H (k.fP t) (Γ 9) post/\SL W (app post F) w) (∃post,x_ kp gp dp lp pp H (k.fP t) (Γ 0) post/\SL W (app post F) w):=λhc hS=>by
  refine za (λh0=>?_) (λh0=>?_)
  ·rw[zzc h0]at hc;exact gC dj hc (aW hS)
  rw[zzb h0]at hc;exact gC dj hc (aW hS)
 refine za (λhl=>?_) (λhl=>?_)
 ·refine bY (λh2=>?_) (λh2=>?_)
  ·rw[zzc ⟨hl,h2⟩]at lB
   obtain⟨L,hL⟩:∃L,fW k.ts.length k.reqs t=some L:=by
    cases hc:fW k.ts.length k.reqs t with
    | none=>exact absurd (.inr ⟨hl,hc⟩) CW
    | some L=>exact⟨L,rfl⟩
   rw[hL,xxd]at lB
   have rj:=hi.ops;have vx:=(oy.1 jX).1.2.2.1;refine Gp ?_;refine Cg (qy kp gp dp lp pp H1 z x t L y nI (hy L hL) (by omega) xh) λw hS=>?_;exact gL lB (aW hS)
  rw[zzb (λh=>h2 h.2)]at lB
  refine Gp ?_;exact gL lB (aW hS)
 rw[zzb (λh=>hl h.1)]at lB
 refine Gp ?_;exact gL lB (aW hS)
def P6{L:List da}(h:iP L):cI L-eZ L+1=((cR L).length:Int):=by
 by_cases hL:L=[]
 ·subst hL;rfl
 rw[h.head hL];omega
def Vd{L:List da}{N:Nat}(h:∀s∈L,kR s N):1<=eZ L/\eZ L<=1099511627776:=by
 cases L with
 | nil=>exact⟨yyd _,by show (1:Int)<=_;decide⟩
 | cons s r=>exact⟨(h s (.head _)).n0,(h s (.head _)).n1⟩
def Z3(kp gp dp lp pp:Nat)(H:bw)(k:cN):SP 72 [iH kp] [.ob (db kp gp dp lp pp H k)] (cC (iH pp) [.ob (db kp gp dp lp pp H k)]):=by
 refine Enzz λW F w hS=>?_;apply XQ;delta GY bU;obtain⟨rv,hr,hS⟩:=db.iff.1 hS;refine Gp ?_;exact⟨_,⟨rfl,rfl⟩,db.iff.2 ⟨rv,hr,hS⟩⟩
def yK(kp gp dp lp pp:Nat)(H:bw)(k:cN):SP 47 [iH kp] [.ob (db kp gp dp lp pp H k)] (cC (Γ k.aw) [.ob (db kp gp dp lp pp H k)]):=by
 refine Enzz λW F w hS=>?_;apply cJo;delta O5 bU;obtain⟨rv,hr,hS⟩:=db.iff.1 hS;refine Gp ?_;exact⟨_,⟨rfl,rfl⟩,db.iff.2 ⟨rv,hr,hS⟩⟩
def y3(kp gp dp lp pp:Nat)(H:bw)(k:cN){N:Nat}(hg:ij k.g N)(hN:N<=1000000000000):SP 200 [iH kp] [.ob (db kp gp dp lp pp H k)] (cC (Γ ((cR k.g.bF).length:Int)) [.ob (db kp gp dp lp pp H k)]):=by
 refine Enzz λW F w hS=>?_;apply cFi;delta MH bU aR bV ai;obtain⟨rv,hr,hS⟩:=db.iff.1 hS;have h1:=th hg.ok.bF;have h2:=Vd hg.ok.bF;have h3:=P6 hg.seq;refine Gn λw hS=>?_;refine Cg (Z1 lp dp k.g hg.ok hN) λw hS=>?_;refine Cg (Zv lp dp k.g hg.ok hN) λw hS=>?_;rw[h3];have hS:=db.put k hS hr Xp;exact cA hS
def QB(kp gp dp lp pp:Nat)(H:bw)(k:cN)(hq:k.reqs.length<=64):SP 33 [iH kp] [.ob (db kp gp dp lp pp H k),.mem H] (λv post=>∃H',H.le H'/\jc H' v k.reqs/\post=[.ob (db kp gp dp lp pp H' k),.mem H']):=by
 refine Enzz λW F w hS=>?_;apply cIg;delta Ot bU;obtain⟨rv,hr,hS⟩:=db.iff.1 hS;refine Gp ?_;refine Cc (z8 H rv k.reqs hr (by omega)) ?_;clear hS;rintro u post rfl w hS;try simp only[app]at hS
 obtain⟨H',hh,hR,hS⟩:=zz (H:=H) (v:=u) (n:=k.reqs.length) (sz:=7) (t:=98) (cells:=(k.reqs.map iD).flatten) hS Xp;have hS:=db.put (H:=H') k hS (hr.mono hh) Xp;exact⟨_,⟨H',hh,hR,rfl⟩,aW hS⟩
def cN.at(k:cN)(t:Tr):cN:={k with ts:=t.1,reqs:=t.2.1,aw:=t.2.2}
def Jz{t:cD}(h:ep t=true):BM t/\∀o∈t.ops,lg o.key:=by
 obtain⟨⟨_,_,h1,h2⟩,h3,h4⟩:=oy.1 h;refine⟨⟨λn hn=>?_,by omega,by omega⟩,λo ho=>?_⟩
 ·have:=h4 n hn;unfold jg at this;rw[zzy]at this
  unfold lg;omega
 have:=h3 o ho;unfold kO at this;rw[zzy]at this
 unfold lg;omega
def RM{b:Φ}{t:cD}(h:nA b= .ok t):ep t=true:=by
 unfold nA at h;split at h
 ·cases h
 split at h
 ·rename_i x hx;cases h;unfold Ak at hx;simp only at hx;split at hx
  ·rename_i hc;cases hx;exact hc.2.2
  cases hx
 cases h
def bZ4{ts:List (List Cell)}(h:sF ts){t:cD}(hm:ep t=true):sF (fw ts t.ops).1:=bZ3 h (Jz hm).2
def cz7{ts:List (List Cell)}{m:Nat}(h:small ts (4096*(m+1))){t:cD}(hm:ep t=true):small (fw ts t.ops).1 (4096*m):=
 cz6 (WV h (by have:=(oy.1 hm).1.2.2.1;omega))
def cN.lM(k:cN):Option Tr:=if eZ k.g.bF≠1/\0<(cR k.g.bF).length then none else tL k.ts.length (cR k.g.bF) k.tr
structure wc(t:Tr)(n m:Nat):Prop where
 len:t.1.length=n
 ok:sF t.1
 room:small t.1 (4096*m)
 rq:t.2.1.length<=64
def VE{L L':List Rq}:∀{l:List il},fT L l=some L'->L.length<=64->L'.length<=64
 | [],h,hl=>by cases h;exact hl
 | n::l,h,hl=>by
  unfold fT at h;cases hn:oz L n with
  | none=>rw[hn]at h;cases h
  | some L2=>rw[hn]at h;exact VE h (VD hn)
def wc.step{t t':Tr}{n m:Nat}(h:wc t n (m+1)){x:cD}(hs:stepT n t x=some t'):wc t' n m:=by
 unfold stepT at hs;cases hf:fW n t.2.1 x with
 | none=>rw[hf]at hs;cases hs
 | some L=>
  rw[hf]at hs
  simp only at hs;split at hs
  ·cases hs;obtain⟨hm,_,hn⟩:=Cm hf;exact⟨by show (fw _ _).1.length=n;rw[J9,h.len],bZ4 h.ok hm,cz7 h.room hm,VE hn h.rq⟩
  cases hs
def QA(kp gp dp lp pp:Nat)(H:bw)(k:cN){N m:Nat}(hg:ij k.g N)(hN:N<=1000000000000)(ht:wc k.tr k.ts.length m)(hm:(cR k.g.bF).length<=m)(vx:m<=100000):
  SP 143 [iH kp] [.ob (db kp gp dp lp pp H k),.mem H] (λv post=>∃H',H.le H'/\match k.lM with
   | none=>v= .bool false/\post=[.ob (bX dp k.d),.mem H']
   | some t=>v= .bool true/\post=[.ob (db kp gp dp lp pp H' (k.at t)),.mem H']):=by
 refine Enzz λW F w hS=>?_;apply cDy;delta LI aI bU a_ bV cL cw ai bR;have h2:=Vd hg.ok.bF;have hF:∀{w:Ζ} {H':bw} {t:Tr},k.lM=none->H.le H'->SL W (.ob (db kp gp dp lp pp H' (k.at t))::.mem H'::F) w->∃post,(∃H',H.le H'/\match k.lM with
   | none=>(.bool false:Ε)= .bool false/\post=[.ob (bX dp k.d),.mem H']
   | some t=>(.bool false:Ε)= .bool true/\post=[.ob (db kp gp dp lp pp H' (k.at t)),.mem H'])/\SL W (app post F) w:=λhr hh hS=>by
  rw[hr];obtain⟨rv,Ub,hS⟩:=db.iff.1 hS;exact⟨[.ob (bX dp k.d),.mem _],⟨_,hh,rfl,rfl⟩,SL.bZ (show SL W (_::_::_::_::.ob (bX dp k.d)::_) _ from hS) Xi⟩
 refine⟨λus w=>us=[]/\¬(eZ k.g.bF≠1/\0<(cR k.g.bF).length)/\SL W (.ob (db kp gp dp lp pp H k)::.mem H::F) w,?_,?_⟩
 ·obtain⟨rv,hr,hS⟩:=db.iff.1 hS;refine Gp ?_;refine Cg (Zv lp dp k.g hg.ok hN) λw hS=>?_;have hS:=db.put k hS hr Xp;refine za (λh1=>?_) (λh1=>?_)
  ·refine Cg (y3 kp gp dp lp pp H k hg hN) λw hS=>?_;refine za (λh3=>?_) (λh3=>?_)
   ·exact hF (t:=k.tr) (by unfold cN.lM;rw[zzc ⟨h1,by omega⟩]) (bw.le_refl H) hS
   exact⟨rfl,λh=>by omega,aW hS⟩
  exact⟨rfl,λh=>h1 h.1,aW hS⟩
 clear hS;rintro w ⟨-,ri,hS⟩;have hK:k.lM=tL k.ts.length (cR k.g.bF) k.tr:=by unfold cN.lM;rw[zzb ri]
 refine⟨λus w=>∃(i:Nat) (t:Tr) (H2:bw),us=[Γ ((i+1:Nat):Int)]/\i<=(cR k.g.bF).length/\k.lM=tL k.ts.length ((cR k.g.bF).drop i) t/\wc t k.ts.length (m-i)/\H.le H2/\SL W (.ob (db kp gp dp lp pp H2 (k.at t))::.mem H2::F) w,
  λus _=>match us with|[.int _ i]=>((cR k.g.bF).length+1-i).toNat|_=>0,⟨0,k.tr,H,rfl,zz4 _,hK,ht,bw.le_refl H,hS⟩,?_⟩
 clear hS;rintro v3 w ⟨i,t,H2,cO,hi,dH,hT,fA,hS⟩;cases cO;refine Cc (y3 kp gp dp lp pp H2 (k.at t) hg hN) ?_;clear hS;rintro _ post ⟨rfl,rfl⟩ w hS;try simp only[app]at hS
 rw[show (cR (k.at t).g.bF).length=(cR k.g.bF).length from rfl];refine bY (λh=>?_) (λh=>?_)
 ·have cx:i<(cR k.g.bF).length:=by omega
  have vv:eZ k.g.bF=1:=by
   rcases Int.lt_trichotomy (eZ k.g.bF) 1 with h|h|h
   ·omega
   ·exact h
   exact absurd ⟨by omega,by omega⟩ ri
  have C4:=hg.seq.read i;rw[vv,zzd cx]at C4
  rw[yyq cx]at dH
  generalize hbb:(cR k.g.bF)[i]=bs at *
  have dH:k.lM=match nA bs with
   | .ok x=>match stepT k.ts.length t x with
    | some t'=>tL k.ts.length ((cR k.g.bF).drop (i+1)) t'
    | none=>none
   | .error _=>none:=dH
  obtain⟨rv,hr,hS⟩:=db.iff.1 hS;refine Gp ?_;refine Cc (Yb lp dp (k.at t).g hg.ok hN ((i+1:Nat):Int) (by omega)) ?_;clear hS;rintro r post hq w hS;have hq:D1 [.ob (dc lp dp (k.at t).g)] (mE k.g.bF ((i+1:Nat):Int)) r post:=hq;rw[show ((i+1:Nat):Int)=1+(i:Int) by omega,C4]at hq
  obtain⟨u,rfl,rfl⟩:=hq;try simp only[app]at hS
  have hS:=db.put (k.at t) hS hr Xp;refine Gp ?_;refine Cc (YI (.ob (bI u 5 1 bs.length (bs.map cX))) H2 u bs dP.own) ?_;clear hS;rintro r post hq w hS;unfold vV at hq;cases hd:nA bs with
  | error e=>
   rw[hd]at hq dH
   obtain⟨dO,H3,gb,rfl,rfl⟩:=hq;try simp only[app]at hS
   have hS:=db.mono gb (Has.front (c:=.ob (db kp gp dp lp pp H2 (k.at t))) hS Xr);refine Gm λb w hS=>?_;refine Cc (Zu kp gp dp lp pp H3 (k.at t) ⟨0,Θ,Θ⟩ ⟨0,[],[]⟩ ⟨rfl,dx.nil _ _,dx.nil _ _⟩ ⟨by simp,by simp,by simp⟩ hT.rq) ?_;clear hS;rintro u2 post ⟨H4,oS,kz,rfl⟩ w hS;have hu:∃y b,u2= .tuple #[y,.bool b]:=by
    unfold z_ at kz;split at kz
    ·obtain⟨y,e⟩:=kz;exact⟨y,_,e⟩
    obtain⟨y,e,_⟩:=kz;exact⟨y,_,e⟩
   obtain⟨y,qb,rfl⟩:=hu;refine Gn λw hS=>?_;refine za (λ_=>?_) (λh=>absurd dO h);exact hF dH (bw.le_trans fA (bw.le_trans gb oS)) (aW hS)
  | ok x=>
   rw[hd]at hq dH
   obtain⟨xv,H3,gb,rfl,hx,rfl⟩:=hq;obtain⟨IB,xh⟩:=Jz (RM hd);have A7:=(oy.1 (RM hd)).1.2.2.1;have Fz:eJ xv=[Γ x.aw,xv.ov,xv.nv]:=by unfold eJ;rw[hx.aw]
   try simp only[app]at hS
   have hS:=db.mono gb (Has.front (c:=.ob (db kp gp dp lp pp H2 (k.at t))) hS Xr);have h1:=mq hx;refine Gp ?_;refine zE hS λxb w hS=>?_;refine zr hS Xu rfl rfl h1 λw hS=>?_;refine zA hS Xh rfl ?_;refine Cc (Zu kp gp dp lp pp H3 (k.at t) xv x hx IB hT.rq) ?_;clear hS;rintro u2 post ⟨H4,oS,kz,rfl⟩ w hS;have Cs:=bw.le_trans fA (bw.le_trans gb oS);have pM:fW (k.at t).ts.length (k.at t).reqs x=fW k.ts.length t.2.1 x:=by rw[show (k.at t).ts.length=k.ts.length from hT.len];rfl
   rw[pM]at kz
   simp only at dH;unfold stepT at dH;cases hc:fW k.ts.length t.2.1 x with
   | none=>
    rw[hc]at kz dH
    obtain⟨y,rfl⟩:=kz;refine Gn λw hS=>?_;refine za (λh=>absurd rfl h) (λ_=>?_);refine Gp ?_;refine zq ?_;exact hF dH Cs (aW hS)
   | some L=>
    rw[hc]at kz dH
    obtain⟨y,rfl,hy⟩:=kz;refine Gn λw hS=>?_;refine za (λh=>absurd rfl h) (λ_=>?_);refine Gp ?_;refine zp ?_;obtain⟨Ww,xx,hS⟩:=db.open (k:=k.at t) hS Xr;rw[Fz]at hS
    refine Gp ?_;have hS:=db.put (k.at t) hS xx Xp;rw[show (k.at t).aw=t.2.2 from rfl];refine za (λh5=>?_) (λh5=>?_)
    ·simp only at dH;rw[zzb (by omega)]at dH
     exact hF dH Cs (aW hS)
    simp only at dH;rw[zzc (by omega)]at dH
    rw[<- Fz]at hS
    refine zA hS Xh rfl ?_;refine Cg (qy kp gp dp lp pp H4 (k.at t) xv x L y (hx.mono oS) hy (by omega) xh) λw hS=>?_;have fX:stepT k.ts.length t x=some ((fw t.1 x.ops).1,L,x.aw):=Ks hc (by omega);have hT':wc ((fw t.1 x.ops).1,L,x.aw) k.ts.length (m-(i+1)):=by
     have:m-i=(m-(i+1))+1:=by omega
     rw[this]at hT
     exact hT.step fX
    have hS:SL W (.ob (db kp gp dp lp pp H4 (k.at ((fw t.1 x.ops).1,L,x.aw)))::_) _:=hS;exact⟨⟨i+1,((fw t.1 x.ops).1,L,x.aw),H4,rfl,by omega,dH,hT',Cs,aW hS⟩,by dsimp only;omega⟩
 have jL:i=(cR k.g.bF).length:=by omega
 subst jL;rw[vv1]at dH
 have dH:k.lM=some t:=dH;rw[dH];exact⟨_,⟨H2,fA,rfl,rfl⟩,aW hS⟩
def K4(dp:Nat)(H:bw)(y:DS × Except Int cN)(r:Ε)(post:Β):Prop:=match y.2 with
 | .error e=>e≠0/\∃H',H.le H'/\r= .tuple #[.pointer none,Γ e]/\post=[.ob (bX dp y.1),.mem H']
 | .ok k=>∃(kp gp lp pp:Nat) (H':bw),H.le H'/\r= .tuple #[iH kp,Γ 0]/\post=[.ob (db kp gp dp lp pp H' k),.mem H']
def WW(n m:Nat)(hm:4096*m<=1000000):small (List.replicate n []) (4096*m):=λC hC=>by
 rw[vvb hC];simpa using hm
def VS(n:Nat):sF (List.replicate n []):=λC hC=>by
 rw[vvb hC];exact⟨.nil,by simp⟩
def Qz(H:bw)(dp:Nat)(d:DS)(cM size:Int){N:Nat}(cG:d.Ok N)(hN:N<=100000000)(dS:d.ops<=90000)(hn:∀d' g,eV d 8192 size=(d',.ok g)->(cR g.bF).length<=200):
  SP 97 [iH dp,Γ cM,Γ size] [.ob (bX dp d),.mem H] (K4 dp H (kC d cM size)):=by
 refine Enzz λW F w hS=>?_;apply cKs;delta PI aI cL ai cT bR;have hR:=cG.DA;by_cases ht:cM<1\/8<cM
 ·have e:kC d cM size=(d,.error 1):=by unfold kC;rw[zzc ht]
  rw[e];refine Cg (bFy cM ht) λw hS=>?_;refine za (λ_=>?_) (λh=>absurd (by decide) h);exact⟨_,⟨by decide,H,bw.le_refl H,rfl,rfl⟩,aW hS⟩
 obtain⟨n,rfl⟩:∃n:Nat,cM=n:=⟨cM.toNat,by omega⟩;refine Cc (bFz n (by omega) (by omega)) ?_;clear hS;rintro _ post ⟨gp,rfl,rfl⟩ w hS;(try simp only[app]at hS);refine Gp ?_
 refine za (λh=>absurd rfl h) (λ_=>?_);refine Cc (QF dp d 8192 size cG (by omega) (by omega) (by omega)) ?_;clear hS;rintro r post hq w hS;unfold kC;rw[zzb ht];unfold BS at hq;cases tw:eV d 8192 size with
 | mk d' o=>
  rw[tw]at hq
  cases o with
  | error e=>
   obtain⟨he,rfl,rfl⟩:=hq;(try simp only[app]at hS);refine Gp ?_
   refine za (λ_=>?_) (λh=>absurd he h);exact⟨_,⟨he,H,bw.le_refl H,rfl,rfl⟩,aW hS⟩
  | ok g=>
   obtain⟨lp,rfl,rfl⟩:=hq;(try simp only[app]at hS);refine Gp ?_
   refine za (λh=>absurd rfl h) (λ_=>?_);refine Cc (bFi) ?_;clear hS;rintro _ post ⟨pp,rfl,rfl⟩ w hS;(try simp only[app]at hS);refine Gp ?_
   refine zw hS λkp w hS=>?_;have so:=JV cG (by omega) tw;have hS:SL W (.ob (db kp gp dp lp pp H ⟨g,d',List.replicate n [],[],0,[]⟩)::_) _:=db.eO (rv:=Θ) hS (dx.nil H 7) Xp;have AQ:(List.replicate n ([]:List Cell)).length=n:=xxf;refine Cc (QA kp gp dp lp pp H ⟨g,d',List.replicate n [],[],0,[]⟩ so (by omega) ⟨rfl,VS n,WW n 200 (by decide),by simp[cN.tr]⟩ (hn d' g tw) (by omega)) ?_;clear hS;rintro v post ⟨H1,dj,hm⟩ w hS;have pK:=P6 so.seq;have e:(cN.mk g d' (List.replicate n []) [] 0 []).lM=if eZ g.bF≠1/\eZ g.bF<=cI g.bF then none else tL (Int.toNat (n:Int)) (cR g.bF) (rI (Int.toNat (n:Int))):=by
    unfold cN.lM;simp only[AQ];rw[zzw];by_cases hc:eZ g.bF≠1/\eZ g.bF<=cI g.bF
    ·rw[zzc hc,zzc ⟨hc.1,by omega⟩]
    rw[zzb hc,zzb (λh=>hc ⟨h.1,by omega⟩)];rfl
   rw[e]at hm
   simp only;by_cases hc:eZ g.bF≠1/\eZ g.bF<=cI g.bF
   ·rw[zzc hc]at hm ⊢
    obtain⟨rfl,rfl⟩:=hm;(try simp only[app]at hS);refine Gp ?_
    refine zq ?_;exact⟨_,⟨by decide,H1,dj,rfl,rfl⟩,aW hS⟩
   rw[zzb hc]at hm ⊢
   cases Fv:tL (Int.toNat (n:Int)) (cR g.bF) (rI (Int.toNat (n:Int))) with
   | none=>
    rw[Fv]at hm
    obtain⟨rfl,rfl⟩:=hm;(try simp only[app]at hS);refine Gp ?_
    refine zq ?_;exact⟨_,⟨by decide,H1,dj,rfl,rfl⟩,aW hS⟩
   | some t=>
    rw[Fv]at hm
    obtain⟨rfl,rfl⟩:=hm;(try simp only[app]at hS);refine Gp ?_
    refine zp ?_;have hS:SL W (.ob (db kp gp dp lp pp H1 ⟨g,d',t.1,[],t.2.2,t.2.1⟩)::_) _:=hS;exact⟨_,⟨kp,gp,lp,pp,H1,dj,rfl,rfl⟩,aW hS⟩
structure TX(t:Tr)(n m:Nat):Prop where
 k:wc t n m
 l0:0<=t.2.2
 l1:t.2.2<=1099511627776
 rq:gg t.2.1
def VF{L L':List Rq}:∀{l:List il},fT L l=some L'->gg L->gg L'
 | [],h,hl=>by cases h;exact hl
 | n::l,h,hl=>by
  unfold fT at h;cases hn:oz L n with
  | none=>rw[hn]at h;cases h
  | some L2=>
   rw[hn]at h
   refine VF h ?_;unfold oz at hn;split at hn
   ·exact Ek hn
   split at hn
   ·rename_i L3 h3;split at hn
    ·cases hn;exact B2 h3
    cases hn
   cases hn
def TX.step{t t':Tr}{n m:Nat}(h:TX t n (m+1)){x:cD}(hs:stepT n t x=some t'):TX t' n m:=by
 have hk:=h.k.step hs;unfold stepT at hs;cases hf:fW n t.2.1 x with
 | none=>rw[hf]at hs;cases hs
 | some L=>
  rw[hf]at hs
  simp only at hs;split at hs
  ·cases hs;obtain⟨hm,_,hn⟩:=Cm hf;have h1:=(oy.1 hm).1;exact⟨hk,by show 0<=x.aw;omega,by show x.aw<=_;omega,VF hn h.rq⟩
  cases hs
def TX.run{n:Nat}:∀(xs:List cD) (t t':Tr) (m:Nat),TX t n (m+xs.length)->runT n xs t=some t'->TX t' n m
 | [],t,t',m,h,hr=>by cases hr;exact h
 | x::xs,t,t',m,h,hr=>by
  have hr:(match stepT n t x with|some t'=>runT n xs t'|none=>none)=some t':=hr;cases hs:stepT n t x with
  | none=>rw[hs]at hr;cases hr
  | some t1=>
   rw[hs]at hr
   rw[zzh,show m+(xs.length+1)=(m+xs.length)+1 by omega]at h
   exact TX.run xs t1 t' m (h.step hs) hr
def bYa:gg []:=⟨by simp,λi h=>by simp at h⟩
def TX.zero(n m:Nat)(hm:4096*m<=1000000):TX (rI n) n m:=⟨⟨xxf,VS n,WW n m hm,by simp[rI]⟩,by show (0:Int)<=0;decide,by show (0:Int)<=_;decide,bYa⟩
structure GG(n:Nat)(k:cN)(j:Nat)(xs:List cD)(m:Option cD):Prop where
 s:iT n k xs m
 len:xs.length<=j
 g:ij k.g (1000000*(j+1))
 d:k.d.Ok (1000000*(j+1))
 ops:k.d.ops<=10*(j+1)
 pl:k.plan.length<=j
 mC:∀f∈k.plan,iZ f=true
 keep:∀f∈k.plan,f.keep<=9223372036854775807
def aRp(k:cN)(x:cD):((k.fP x).1.g=k.g/\(k.fP x).1.d=k.d)\/(ep x=true/\(((k.fP x).1.g=(fj k.g k.d (gh x)).1.1/\(k.fP x).1.d=(fj k.g k.d (gh x)).1.2)\/∃n,(k.fP x).1.g=(gk k.g k.d (gh x) n).1.1/\(k.fP x).1.d=(gk k.g k.d (gh x) n).1.2)):=by
 unfold cN.fP;split
 ·exact .inl ⟨rfl,rfl⟩
 rename_i hn;have hm:ep x=true:=by
  cases hb:ep x with
  | true=>rfl
  | false=>exact absurd (.inl hb) hn
 have hw:∀(k':cN) (L:List Rq),k'.g=k.g->k'.d=k.d->(k'.gu x L).1.g=(fj k.g k.d (gh x)).1.1/\(k'.gu x L).1.d=(fj k.g k.d (gh x)).1.2:=λk' L h1 h2=>by
  unfold cN.gu;simp only;rw[h1,h2];split<;>exact⟨rfl,rfl⟩
 split
 ·exact .inl ⟨rfl,rfl⟩
 simp only;split
 ·split
  ·exact .inr ⟨hm,.inl (hw _ _ rfl rfl)⟩
  exact .inl ⟨rfl,rfl⟩
 split
 ·split
  ·exact .inr ⟨hm,.inl (hw _ _ rfl rfl)⟩
  exact .inl ⟨rfl,rfl⟩
 split
 ·exact .inr ⟨hm,.inr ⟨_,rfl,rfl⟩⟩
 exact .inl ⟨rfl,rfl⟩
def GG.first{n:Nat}(n1:1<=n)(n8:n<=8){size:Int}(s0:64<=size)(s1:size<=65536):∃k,kC gK ((n:Nat):Int) size=(k.d,.ok k)/\GG n k 0 [] none/\k.plan=[]/\k.d=gK/\k.aw=0/\(∀d' g,eV gK 8192 size=(d',.ok g)->(cR g.bF).length<=200):=by
 have tw:eV gK 8192 size=(gK,.ok ⟨[],8192,size,none⟩):=by
  unfold eV;rw[zzb (by omega)];rfl
 have hl:gw ⟨[],8192,size,none⟩ gK 8192 1 []:=⟨trivial,rfl,rfl,λ_=>⟨rfl,rfl⟩,yyd _,by show (0:Int)<=8192;decide,by show (8192:Int)<=12288;decide,s0,s1,by decide,by show (8192:Int)+(0:Nat)+2<=8192+4096;decide,rfl,rfl⟩;refine⟨⟨⟨[],8192,size,none⟩,gK,(rI n).1,[],0,[]⟩,?_,⟨⟨hl.st rfl _,by simp,rfl,xxf,λx hx=>by cases hx⟩,zzi _,⟨⟨by simp,by show (0:Int)<=8192;decide,by show (8192:Int)<=12288;decide,s0,s1,by simp⟩,trivial,by show (0:Int)<=_;decide,λx hx=>by cases hx⟩,DD _,by show gK.ops<=_;decide,by simp,by simp,by simp⟩,rfl,rfl,rfl,λd' g hg=>?_⟩
 ·unfold kC;rw[zzb (by omega),zzw];simp only[tw];rfl
 rw[tw]at hg
 cases hg;simp[cR]

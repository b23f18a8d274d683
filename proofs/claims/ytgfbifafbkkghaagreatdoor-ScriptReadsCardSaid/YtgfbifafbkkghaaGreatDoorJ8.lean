/- Part. -/
import Derived.Test.YtgfbifafbkkghaaGreatDoorJ7
import Derived.ProofKit
import Derived.OpenShut
namespace Go.Proofs.YtgfbifafbkkghaaGreatDoor
set_option linter.all false
open Go.RowKit Go.ChangeShapes Go.WideShapes Go.ChangeAt Go.Proofs.Tryz
def wwj:=@List.all_append
def yy6:=@List.getElem_append_left
def yy0:=@List.getElem_append_right
def uuh:=@List.drop_eq_nil_iff
def wws:=@List.drop_drop
def uuc:=@Nat.div_lt_iff_lt_mul
def uu3:=@Nat.div_add_mod
def xxx:=@Option.some.inj
def vv1:=@underlying307
def xxm:=@underlying2
def uuy:=@zeroValue474
def vv2:=@List.mem_replicate
def xxd:=@List.length_replicate
def uuz:=@List.getLast?_map
def wwv:=@List.getLast?_eq_getElem?
def vvr:=@List.drop_length
def tX:fh Unit:=.plain 0 (λ_=>[]) (λ_=>rfl) (λ_ u hu=>by cases hu)
def jO{α β:Type}(S:fh α)(T:fh β):fh (α × β) where
 n:=S.n+T.n
 rd:=λw M x cs=>∃c1 c2,cs=c1++c2/\S.rd w M x.1 c1/\T.rd w M x.2 c2
 len:=λ⟨c1,c2,h,h1,h2⟩=>by rw[h,zza,S.len h1,T.len h2]
 one:=λ⟨c1,c2,h,h1,h2⟩ u hu=>by
  subst h;rcases yyb.1 hu with hu|hu
  ·exact S.one h1 u hu
  exact T.one h2 u hu
 bh:=λ⟨c1,c2,h,h1,h2⟩ hf hM=>⟨c1,c2,h,S.bh h1 hf hM,T.bh h2 hf hM⟩
def fh.via{α β:Type}(T:fh α)(f:β->α):fh β where
 n:=T.n
 rd:=λw M y cs=>T.rd w M (f y) cs
 len:=λh=>T.len h
 one:=λh=>T.one h
 bh:=λh=>T.bh h
def Small{H:Type}(P:Program)(t:Ι)(d:DataW H):Prop:=(d.weights P t).all (·<=reachBytes)=true
def jG{α:Type}(P:Program)(t:Ι)(T:fh α)(ok:α->Prop):Prop:=
 P.cellsOf t=T.n/\∀{H:Type} (enc:Ι × Ε->H) (w:Ζ) (sp:Nat->Bool) (hd:Bool) (fuel:Nat) (cs:Ξ) (x:DataW H × List MemPlace),
  DataW.trod enc P w 0 sp hd fuel t cs=some x->Small P t x.1->∃a,T.rd w gj a cs/\ok a
def mc(k:IntKind)(n:Int):Prop:=(Lit.int k n).wf=true
def vP{n:Int}(h:mc .i64 n): -9223372036854775808<=n/\n<=9223372036854775807:=by
 simpa [mc,Lit.wf,IntKind.min,IntKind.max,IntKind.signed,IntKind.bits] using h
def Vk{n:Int}(h:mc .u8 n):0<=n/\n<=255:=by
 simpa [mc,Lit.wf,IntKind.min,IntKind.max,IntKind.signed,IntKind.bits] using h
def o4{P:Program}{t:Ι}{k:IntKind}(ht:P.underlying t=some (.int k))(hc:P.cellsOf t=1):jG P t (lT k) (mc k):=
 ⟨hc,λenc w sp hd fuel cs x h _=>by
  obtain⟨n,rfl,rfl,hw⟩:=DataW.trod_int ht h;exact⟨n,rfl,hw⟩⟩
def qD{P:Program}{t:Ι}(ht:P.underlying t=some .bool)(hc:P.cellsOf t=1):jG P t OC (λ_=>True):=
 ⟨hc,λenc w sp hd fuel cs x h _=>by
  obtain⟨n,rfl,rfl⟩:=DataW.trod_bool ht h;exact⟨n,rfl,trivial⟩⟩
def W7(s:Η):Prop:=s.size<=140737488351232
def Zj{P:Program}{t:Ι}(ht:P.underlying t=some .string)(hc:P.cellsOf t=1):jG P t tW W7:=
 ⟨hc,λenc w sp hd fuel cs x h hs=>by
  obtain⟨n,rfl,rfl,hw⟩:=DataW.trod_string ht h;refine⟨n,rfl,?_⟩;simp[Small,DataW.weights,reachBytes]at hs
  exact (zzl hs:n.size<=140737488351232)⟩
def W6{α:Type}(b:Nat)(ok:α->Prop)(xs:List α):Prop:=xs.length*b<=140737488351232/\∀x∈xs,ok x
def O2{H:Type}{P:Program}{e:Ι}{n:Nat}:∀{l:List (DataW H)},(DataW.weightsAll P e l).all (·<=n)=true->∀d∈l,(d.weights P e).all (·<=n)=true
 | [],_,_,h=>by cases h
 | x::r,h,d,hd=>by
  simp only[DataW.weightsAll,wwj,zzk]at h;rcases zzv.1 hd with rfl|hd
  ·exact h.1
  exact O2 h.2 d hd
def Jt{α:Type}{p:Nat->α->Prop}:∀(n:Nat),(∀i,i<n->∃y,p i y)->∃ys:List α,ys.length=n/\∀i (h:i<ys.length),p i ys[i]
 | 0,_=>⟨[],rfl,λi h=>by simp at h⟩
 | n+1,h=>by
  obtain⟨ys,hl,hy⟩:=Jt n (λi hi=>h i (by omega));obtain⟨y,UY⟩:=h n (by omega);refine⟨ys++[y],by simp[hl],λi hi=>?_⟩;by_cases cA:i<ys.length
  ·rw[yy6 cA];exact hy i cA
  have:i=n:=by simp at hi;omega
  subst this;rw[yy0 (by omega)];simpa [hl] using UY
def DV{α:Type}{P:Program}{t e:Ι}{T:fh α}{ok:α->Prop}{b:Nat}(h:jG P e T ok)(ht:P.underlying t=some (.slice e))(hc:P.cellsOf t=1)(hb:P.bytesOf e=b)(tq:0<T.n):jG P t (A1 T) (W6 b ok):=by
 refine⟨hc,λenc w sp hd fuel cs x hx hs=>?_⟩;rcases Go.Deep.open_slice ht hx with ⟨rfl,rfl⟩|⟨a,len,cap,m,n,D,Pl,rfl,_,hl,hm,tm,rfl,ta⟩
 ·exact⟨[],⟨_,rfl,gE.nil T w gj⟩,by simp,λx hx=>by cases hx⟩
 have hle:len<=m:=by rw[tm];split<;>omega
 simp only[Small,DataW.weights,ht,hb,List.all_cons,wwj,zzk,zzo,yyh,List.length_range]at hs;have TW:∀i,i<len->∃y:α,ok y/\∃lA,T.rd w gj y lA/\At w gj a.block (a.off+i*T.n) lA/\a=⟨a.block,a.off,none⟩:=λi hi=>by
  obtain⟨lA,h1,h2⟩:=ta i (by omega);obtain⟨y,hy,br⟩:=h.2 enc w sp hd n lA _ h2 (O2 hs.2.1 _ (zz1.2 ⟨i,by simpa using hi,rfl⟩));obtain⟨_,hlen,KP⟩:=World.cells?_some h1;have lK:a.spot=none:=by
   have h0:=KP 0 (by rw[h.1];exact tq);rw[zzc (by rw[hlen,h.1];exact tq)]at h0
   cases lK:a.spot with
   | none=>rfl
   | some q=>
    exfalso;by_cases pC:i*P.cellsOf e=0
    ·simp[Addr.add,pC,World.cell?,lK]at h0
     split at h0<;>cases h0
    have Tn:=ta 0 (by omega);obtain⟨cs0,kR,_⟩:=Tn;obtain⟨_,Uj,TJ⟩:=World.cells?_some kR;have xE:=TJ 0 (by rw[h.1];exact tq);rw[zzc (by rw[Uj,h.1];exact tq)]at xE
    simp[Addr.add,World.cell?,lK]at xE
    split at xE<;>cases xE
  obtain⟨ab,ao,asp⟩:=a;simp only at lK;subst lK;refine⟨y,br,lA,hy,⟨λ_ x=>x,λj u hu=>?_⟩,rfl⟩;have hj:=(zzf.1 hu).1;have:=KP j (by omega);rw[zz7,zz7,hu,h.1]at this
  exact this
 obtain⟨ys,j4,hy⟩:=Jt len TW;subst j4;refine⟨ys,⟨_,rfl,some a,cap,rfl,hl,λi hi=>?_⟩,?_,λx hx=>?_⟩
 ·obtain⟨_,lA,h1,h2,h3⟩:=hy i hi;exact⟨a.block,a.off,lA,yyl some h3,h1,h2⟩
 ·have:=hs.1;simp only[reachBytes]at this;rw[yyo]at this
  omega
 obtain⟨i,hi,rfl⟩:=yyf hx;exact (hy i hi).1
def wD{α:Type}(P:Program)(fs:List Field)(o:Nat)(T:fh α)(ok:α->Prop):Prop:=
 ∀{H:Type} (enc:Ι × Ε->H) (w:Ζ) (sp:Nat->Bool) (hd:Bool) (n:Nat) (cs:Ξ) (xs:List (DataW H × List MemPlace)),xs.length=fs.length ->
  (∀(i:Nat) (f:Field),fs[i]?=some f->DataW.trod enc P w 0 sp hd n f.type ((cs.drop f.offset).take (P.cellsOf f.type))=xs[i]?) ->
  (DataW.weightsEach P (fs.map (·.type)) (xs.map (·.1))).all (·<=reachBytes)=true->cs.length=o+T.n->∃a,T.rd w gj a (cs.drop o)/\ok a
def xu(P:Program)(o:Nat):wD P [] o tX (λ_=>True):=λenc w sp hd n cs xs _ _ _ hl=>⟨(),by
 show cs.drop o=[];rw[uuh];have:tX.n=0:=rfl;omega,trivial⟩
def ko{α β:Type}{P:Program}{f:Field}{fs:List Field}{o:Nat}{S:fh α}{T:fh β}{Nh:α->Prop}{Ni:β->Prop}(h1:jG P f.type S Nh)(ho:f.offset=o)(h2:wD P fs (o+S.n) T Ni):
  wD P (f::fs) o (jO S T) (λx=>Nh x.1/\Ni x.2):=λenc w sp hd n cs xs hl hx hs hc=>by
 match xs,hl with
 | y::ys,hl=>
  have KR:(jO S T).n=S.n+T.n:=rfl;simp only[zzj,DataW.weightsEach,wwj,zzk]at hs;have e0:=hx 0 f rfl;rw[ho,h1.1]at e0
  obtain⟨a,ha,Ux⟩:=h1.2 enc w sp hd n _ y e0 hs.1;obtain⟨b,hb,Uy⟩:=h2 enc w sp hd n cs ys (by simpa using hl) (λi g hg=>by simpa using hx (i+1) g (by simpa using hg)) hs.2 (by omega);refine⟨(a,b),⟨_,_,?_,ha,hb⟩,Ux,Uy⟩;rw[<- wws];exact (yyk _ _).symm
def yn{α:Type}{P:Program}{t:Ι}{fs:Array Field}{T:fh α}{ok:α->Prop}(ht:P.underlying t=some (.struct fs))(hc:P.cellsOf t=T.n)(h:wD P fs.toList 0 T ok):jG P t T ok:=
 ⟨hc,λenc w sp hd fuel cs x hx hs=>by
  obtain⟨xs,n,_,rfl,hl,hlen,hf⟩:=DataW.trod_struct ht hx;simp only[Small,DataW.weights,ht]at hs;obtain⟨a,ha,br⟩:=h enc w sp hd n cs xs (by simpa using hlen) (λi f hi=>hf i f (by simpa using hi)) hs (by omega);exact⟨a,by simpa using ha,br⟩⟩
def yV{α β:Type}{P:Program}{t:Ι}{T:fh α}{ok:α->Prop}(f:β->α)(g:α->β)(hg:∀a,f (g a)=a)(h:jG P t T ok):jG P t (T.via f) (λb=>ok (f b)):=
 ⟨h.1,λenc w sp hd fuel cs x hx hs=>by
  obtain⟨a,ha,br⟩:=h.2 enc w sp hd fuel cs x hx hs;exact⟨g a,by show T.rd w gj (f (g a)) cs;rw[hg];exact ha,by show ok (f (g a));rw[hg];exact br⟩⟩
def y8{α:Type}{P:Program}{t:Ι}{T:fh α}{ok Ng:α->Prop}(h:jG P t T ok)(hi:∀a,ok a->Ng a):jG P t T Ng:=
 ⟨h.1,λenc w sp hd fuel cs x hx hs=>let ⟨a,ha,br⟩:=h.2 enc w sp hd fuel cs x hx hs;⟨a,ha,hi a br⟩⟩
def OQ{H:Type}{enc:Ι × Ε->H}{P:Program}(hl:laidOutB P=true){W W':Ζ}(hb:Below W.heap.size W W'):∀{ts:List Ι} {vs:Ξ} {ds:List (DataW H)} {ps:List MemPlace},
  (∀t∈ts,P.readableRec t=true/\t<P.types.size)->DataW.TrodAll enc P W 0 (λ_=>true) true ts vs ds ps->(∀x∈ps,x.block<W.heap.size)->DataW.TrodAll enc P W' 0 (λb=>decide (b<W.heap.size)) true ts vs ds ps
 | [],_,_,_,_,h,_=>by
  obtain⟨rfl,rfl,rfl⟩:=trodAll_nil h;exact trodAll_mk0
 | t::ts,_,_,_,hr,h,cA=>by
  obtain⟨v,vs1,d,Se,a,b,rfl,rfl,rfl,h1,h2⟩:=trodAll_cons h;exact⟨a,b,Below.trod hl (hr t (by simp)).1 (hr t (by simp)).2 h1 hb (λx hx=>cA x (by simp[hx])),OQ hl hb (λt ht=>hr t (by simp[ht])) h2 (λx hx=>cA x (by simp[hx])),rfl⟩
def bdk{H:Type}{enc:Ι × Ε->H}{P:Program}{f:Func}{s:ChangeSpec}{tb:Ι}(hl:laidOutB P=true)(hr:∀t∈f.params.toList,P.readableRec t=true/\t<P.types.size)
  (LB:s.vars=[]) (UD:f.resultTypes = #[tb]) (hb:P.underlying tb=some .bool) (CQ:∀ds:List (DataW H),ds.length=f.params.size->(s.fn H ds).results=[.lit (.bool true)]/\(s.fn H ds).args=ds/\(s.fn H ds).vars=[])
  {W W':Ζ} {args:Array Ε} {ds gs:List (DataW H)} {before:List MemPlace} (hW:DataW.Whole enc P f.params.toList s.vars false W args.toList ds gs before) (KL:Below W.heap.size W W') :
  s.post enc P f false true false false W args (.bool true) W':=by
 have cA:=hW.lt;have xL:=hW;obtain⟨p,q,hA,hV,rfl,hfz,_⟩:=hW;rw[LB]at hV
 obtain⟨rfl,rfl⟩:=trodVars_none hV;have hlen:∀{ts:List Ι} {vs:Ξ} {ds:List (DataW H)} {ps:List MemPlace} {w:Ζ} {base:Nat} {sp:Nat->Bool} {hd:Bool},DataW.TrodAll enc P w base sp hd ts vs ds ps->ds.length=ts.length:=by
  intro ts;induction ts with
  | nil=>intro vs ds ps w base sp hd h;obtain⟨rfl,rfl,rfl⟩:=trodAll_nil h;rfl
  | cons t ts ih=>intro vs ds ps w base sp hd h;obtain⟨v,vs1,d,Se,a,b,rfl,rfl,rfl,_,h2⟩:=trodAll_cons h;simp[ih h2]
 obtain⟨e1,e2,e3⟩:=CQ ds (by simpa using hlen hA);refine⟨ds,[],p++[],[],p,[],xL,?_,?_,?_,KL.frame _,λh=>by cases h⟩
 ·rw[zz4,e1,UD];exact trodAll_mk1 (shut_bool hb true)
 ·rw[zz4,e2];exact OQ hl KL hr hA (λx hx=>cA x (by simp[hx]))
 rw[zz4,e3,LB];rfl
def LY:Option TypeDesc->Bool
 | some .bool|some (.int _)|some .string|some (.slice _)=>true
 | _=>false
def S3{P:Program}{w:Ζ}{r:Reach}{b0:Nat}{t:Ι}{v:Ε}(hf:LY (P.underlying t)=true)(kx:Value.okWide P w r b0 t v):v.cells.toList=[v]:=by
 unfold Value.okWide at kx;cases hu:P.underlying t with
 | none=>rw[hu]at hf;cases hf
 | some d=>
  rw[hu]at hf kx
  cases d<;>first|(cases hf;done)|(unfold Cell.okWide Cell.ok at kx;rw[hu]at kx;cases v<;>first|rfl|(exfalso;simp_all))
def ba4{α:Type}{P:Program}{t:Ι}{T:fh α}{ok:α->Prop}{H:Type}{enc:Ι × Ε->H}{W:Ζ}{r:Reach}{b0:Nat}{v:Ε}{d:DataW H}{ps:List MemPlace}{sp:Nat->Bool}{hd:Bool}
  (h:jG P t T ok) (hf:LY (P.underlying t)=true) (kx:Value.okWide P W r b0 t v) (h0:DataW.Trod enc P W 0 sp hd t v d ps) (hs:Small P t d):∃a,T.rd W gj a [v]/\ok a:=by
 obtain⟨fuel,hx⟩:=h0;rw[S3 hf kx]at hx
 exact h.2 enc W sp hd fuel [v] _ hx hs
def ba3{α:Type}{P:Program}{t:Ι}{fs:Array Field}{T:fh α}{ok:α->Prop}{H:Type}{enc:Ι × Ε->H}{W:Ζ}{r:Reach}{b0:Nat}{v:Ε}{d:DataW H}{ps:List MemPlace}{sp:Nat->Bool}{hd:Bool}
  (h:jG P t T ok) (ht:P.underlying t=some (.struct fs)) (kx:Value.okWide P W r b0 t v) (h0:DataW.Trod enc P W 0 sp hd t v d ps) (hs:Small P t d):∃a cs,v= .agg cs/\T.rd W gj a cs.toList/\ok a:=by
 obtain⟨fuel,hx⟩:=h0;unfold Value.okWide at kx;rw[ht]at kx
 obtain⟨cs,rfl,_⟩:=kx;obtain⟨a,h1,h2⟩:=h.2 enc W sp hd fuel _ _ hx hs;exact⟨a,cs,rfl,h1,h2⟩
open Go.RowKit
def Bb(P:Program)(f:FuncId)(args:Ξ)(w:Ζ):Prop:=zL P f args w λv w'=>v= .bool true/\Below w.heap.size w w'
def yO{P:Program}{f:FuncId}{args:Ξ}{w:Ζ}(h:Spec P f args [.mem (aX.of w)] λv post=>v= .bool true/\∃H l,(aX.of w).le H/\post= .mem H::l):Bb P f args w:=by
 refine (h w [] w (SL.init w)).mono ?_;rintro v w' ⟨post,⟨rfl,H,l,hH,rfl⟩,hS⟩;exact⟨rfl,hS.below (.hd) hH⟩
def Bb.calls{P:Program}{f:FuncId}{args:Ξ}{w:Ζ}(h:Bb P f args w):Calls P f args.toArray w λe w'=>e= .returned (.bool true)/\Below w.heap.size w w':=
 uuo h λe w' ⟨v,he,hv,hb⟩=>⟨by rw[he,hv],hb⟩
def gE.flat{α:Type}{T:fh α}{enc:α->Ξ}{w:Ζ}{xs:List α}{v:Ε}(h:gE T w gj xs v)(he:∀{M x cs},T.rd w M x cs->cs=enc x)(hn:∀x,(enc x).length=T.n):
  bK (aX.of w) T.n v xs.length (xs.map enc).flatten:=by
 obtain⟨a,cap,rfl,hc,hx⟩:=h.out;have hlen:(xs.map enc).flatten.length=xs.length*T.n:=by
  rw[Cr (n:=T.n) _ (λx hx=>by obtain⟨y,_,rfl⟩:=zz1.1 hx;exact hn y),yyh]
 refine⟨hlen,a,cap,rfl,hc,?_⟩;rcases yy7 xs.length with h0|h0
 ·exact .inl h0
 right;obtain⟨b,off,_,rfl,_,_⟩:=hx 0 h0;refine⟨b,off,rfl,λj u hu=>?_⟩;have hj:=(zzf.1 hu).1;rcases yy7 T.n with hz|hz
 ·rw[hlen,hz]at hj;omega
 have hi:j / T.n<xs.length:=by rw[hlen]at hj;exact (uuc hz).2 hj
 obtain⟨b',WX,cs,oQ,hr,ie⟩:=hx (j / T.n) hi;simp at oQ;obtain⟨rfl,rfl⟩:=oQ;have j2:=he hr;subst j2;have rT:j % T.n<(enc xs[j / T.n]).length:=by rw[hn];exact uun _ hz
 have hg:=xA (n:=T.n) (xs.map enc) (λx hx=>by obtain⟨y,_,rfl⟩:=zz1.1 hx;exact hn y) (j / T.n) (j % T.n) (by simpa using hi) ((enc xs[j / T.n])[j % T.n]'rT) (by simp[zzc rT]);have CL:j / T.n*T.n+j % T.n=j:=by rw[Nat.mul_comm];exact uu3 j T.n
 rw[CL]at hg
 rw[hu]at hg
 have Dh:u=(enc xs[j / T.n])[j % T.n]:=xxx hg;have:=ie.2 (j % T.n) u (by rw[Dh];exact zzc rT);rw[show off+j / T.n*T.n+j % T.n=off+j by omega]at this
 unfold World.cell? at this;unfold aX.cell aX.of;simp only at this ⊢;split at this
 ·rename_i c t f jk;rw[jk];simpa using this
 cases this
def xy{α:Type}{enc:α->Ξ}{n:Nat}{xs:List α}(hn:∀x,(enc x).length=n){j i:Nat}(hj:j<xs.length){u:Ε}(hu:(enc xs[j])[i]?=some u):((xs.map enc).flatten)[j*n+i]?=some u:=
 xA (n:=n) (xs.map enc) (λx hx=>by obtain⟨y,_,rfl⟩:=zz1.1 hx;exact hn y) j i (by simpa using hj) u (by simpa using hu)
set_option maxRecDepth 100000
structure jU(X:Μ)(sz:Nat)(v:Ε)(n:Nat)(cs:Ξ):Prop where
 sl:∀{W w:Ζ} {l:Β},SL W l w->Has X l->∃a c,v= .slice a n c/\n<=c
 src:∀{W w:Ζ} {l:Β},SL W l w->Has X l->il w sz v n cs
def jU.own{v:Ε}{t:Ι}{sz n:Nat}{cs:Ξ}:jU (.ob (aY v t sz n cs)) sz v n cs:=
 ⟨λh m=>by
  obtain⟨l2,r⟩:=m.rem;rcases aY.open (h.perm r.perm) with ⟨⟨a',rfl⟩,rfl,_,_⟩|⟨b',Jq,rest,rfl,hc,_⟩
  ·exact⟨a',0,rfl,zzz _⟩
  exact⟨_,_,rfl,hc⟩,λh m=>iG h m⟩
def jU.rd{H:aX}{v:Ε}{sz n:Nat}{cs:Ξ}(h:bK H sz v n cs):jU (.mem H) sz v n cs:=
 ⟨λ_ _=>by obtain⟨_,a,cap,e,hc,_⟩:=h;exact⟨a,cap,e,hc⟩,λhS m=>sh hS m h⟩
def jU.pt{p n sz:Nat}{t:Ι}{cs:Ξ}(h:cs.length=n*sz):jU (.pt p cs t) sz (.slice (some ⟨p,0,none⟩) n n) n cs:=
 ⟨λ_ _=>⟨_,_,rfl,zzz _⟩,λhS m=>fC hS m h⟩
section
variable {W w:Ζ} {l:Β} {X:Μ} {v:Ε} {sz n:Nat} {cs:Ξ}
def Zm{K:Ε->Prop}(hS:SL W l w)(m:Has X l)(hb:jU X sz v n cs)(k:K (Γ n)):zd v K:=by
 obtain⟨a,c,rfl,_⟩:=hb.sl hS m;exact zY k
def qa{α:Type}{enc:α->Ξ}{xs:List α}{j:Nat}{kk:IntKind}{K:Ε->Prop}(hS:SL W l w)(m:Has X l)(hb:jU X sz v n (xs.map enc).flatten)(he:∀x,(enc x).length=sz)(gK:0<sz)(hx:xs.length=n)(hj:j<n)
  (hK:K (.agg (enc (xs[j]'(by omega))).toArray)):zj sz v (.int kk (j:Int)) λp=>zf sz p w K:=by
 obtain⟨a,c,rfl,hc⟩:=hb.sl hS m;have hs:=hb.src hS m;have hlen:(xs.map enc).flatten.length=n*sz:=by
  rw[<- hx];clear hx hs hb hK hj hc;induction xs with
  | nil=>simp
  | cons x xs ih=>simp[he,ih,yyo];omega
 cases a with
 | none=>
  have e:(xs.map enc).flatten=[]:=hs.2;have e2:(enc (xs[j]'(by omega))).length=0:=by
   rw[e]at hlen
   simp only[yym]at hlen;rw[he];rcases yy7 sz with h|h
   ·exact h
   have:0<n*sz:=Nat.mul_pos (by omega) h;omega
  rw[he]at e2;omega
 | some p=>
  refine⟨p,_,c,kk,j,rfl,rfl,hj,?_⟩;refine⟨_,enc (xs[j]'(by omega)),rfl,he _,λi u hu=>?_,hK⟩;rw[BF];refine hs.2.2 (j*sz+i) u ?_;exact xy he (by omega) hu
end
def lr(X:Μ)(l:List bz)(u:Ε)(post:Β):Prop:=match gl l with
 | .error e=>u= .tuple #[Θ,Γ e]/\post=[X]
 | .ok b=>∃v,u= .tuple #[v,Γ 0]/\post=[.ob (aY v 5 1 b.length (b.map bo)),X]
def lr.er{X:Μ}{l:List bz}{e:Int}(h:gl l= .error e):lr X l (.tuple #[Θ,Γ e]) [X]:=by
 unfold lr;rw[h];exact⟨rfl,rfl⟩
def lr.ok{X:Μ}{l:List bz}{b:Φ}(h:gl l= .ok b)(v:Ε):lr X l (.tuple #[v,Γ 0]) [.ob (aY v 5 1 b.length (b.map bo)),X]:=by
 unfold lr;rw[h];exact⟨v,rfl,rfl⟩
def Sg{x:bz}(h:fB x=true):(bO x).length<=5000:=by
 unfold bO;unfold fB at h;by_cases h1:x.kind=1
 ·rw[zzd h1];simp[eg]
 rw[zzb h1]at h ⊢
 by_cases h2:x.kind=2
 ·rw[zzd h2]at h
  have h3:x.s.size<=4096:=by
   rw[zzk]at h
   exact zzl h.2
  have:x.s.data.toList.length=x.s.size:=rfl;simp only[zzg,zza,eg];omega
 rw[zzb h2]at h;cases h
def B7:∀{l:List bz},l.all fB=true->(l.map bO).flatten.length<=l.length*5000
 | [],_=>by simp
 | x::l,h=>by
  rw[List.all_cons,zzk]at h
  have h1:=Sg h.1;have h2:=B7 h.2;simp only[zzj,zzt,zza,zzg];omega
def yN(X:Μ)(v:Ε)(xs:List bz)(hx:jU X 3 v xs.length (xs.map cn).flatten)(hN:xs.length<=140737488355328):SP 24 [v] [X] (lr X xs):=by
 refine Enzz λW F w hS=>?_;apply aXi;delta aF aW ba bD ai bn aZ;refine Zm hS .hd hx ?_;refine bw (λh=>?_) (λh=>?_)
 ·exact⟨_,.er (by unfold gl;rw[zzd (by omega)]),hS⟩
 refine Zm hS .hd hx ?_;refine zK ?_;rw[wrap_u64 (by omega) (by omega)];have hS:=aY.nil (t:=5) (sz:=1) hS;have hS:SL W (.ob (aY Θ 5 1 ([]:Φ).length (([]:Φ).map bo))::X::F) w:=hS;refine Cc (Zh [] Θ xs.length 2 (by omega) (by simp)) ?_;clear hS;rintro tY post rfl w hS;(try simp only[app]at hS);rw[zzp]at hS
 refine Zm hS Xh hx ?_;have hb:∀i,i<=xs.length->(xs.take i).all fB=true->(bI xs.length 2++((xs.take i).map bO).flatten).length<=200000000:=λi hi ha=>by
  have:=B7 ha;rw[zza,eg];rw[zzn]at this
  omega
 refine⟨λvs w=>∃(i:Nat) (u:Ε),i<=xs.length/\vs=[u,Γ i]/\(xs.take i).all fB=true/\SL W (.ob (aY u 5 1 (bI xs.length 2++((xs.take i).map bO).flatten).length ((bI xs.length 2++((xs.take i).map bO).flatten).map bo))::X::F) w,λvs _=>match vs with
  | [_,.int _ i]=>xs.length-i.toNat
  | _=>0,⟨0,tY,by omega,rfl,rfl,(by simpa using hS)⟩,?_⟩
 clear hS;rintro u1 u2 w1 ⟨i,u,hi,hv,ha,hS⟩;cases hv;have TF:=hb i hi ha;refine bw (λh=>?_) (λh=>?_)
 ·have hi:i<xs.length:=by omega
  refine qa hS Xh hx mX (by omega) rfl hi ?_;have ik:xs[i]∈xs:=zzi hi;have lL:xs.take (i+1)=xs.take i++[xs[i]]:=by rw[xx4];simp[hi]
  generalize xs[i]=x at *
  unfold cn;refine Gm λb w hS=>?_;refine Cc (Y3 x) ?_;clear hS;rintro v post ⟨rfl,rfl⟩ w hS;(try simp only[app]at hS);refine yb ?_;cases hr:fB x with
  | false=>
   refine zt ?_;refine⟨[X],.er ?_,aI hS⟩;unfold gl;rw[zzb (by omega),zzb];intro h;have:=zzw.1 h x ik;rw[hr]at this;cases this
  | true=>
   refine zs ?_;have rK:(xs.take (i+1)).all fB=true:=by rw[lL,wwj,ha];simp[hr]
   have j1:=hb (i+1) (by omega) rK;have jJ:((xs.take (i+1)).map bO).flatten=((xs.take i).map bO).flatten++bO x:=by rw[lL];simp
   rw[jJ]at j1
   rw[zza,zza]at j1
   have hk:x.kind=1\/x.kind=2:=by
    unfold fB at hr;by_cases h1:x.kind=1
    ·exact .inl h1
    rw[zzb h1]at hr
    by_cases h2:x.kind=2
    ·exact .inr h2
    rw[zzb h2]at hr;cases hr
   generalize hc:bI xs.length 2++((xs.take i).map bO).flatten=c at *
   have na:c.length+(bO x).length<=200000000:=by rw[<- hc,zza];omega
   refine Gp ?_;refine zK ?_;rw[wrap_u8];refine zA (cells:=[bo (cO x.kind)]) hS rfl ?_;clear hS;intro p w hS;refine zx (m:=1) (cs:=[bo (cO x.kind)]) hS Xr (fC hS .hd rfl) rfl rfl (by intro v hv;simp only[zz8]at hv;subst hv;rfl) (by omega) (by omega) ?_;clear hS;intro u' w hS;refine Gp ?_;have hS:SL W (.ob (aY u' 5 1 (c++[cO x.kind]).length ((c++[cO x.kind]).map bo))::.pt b [Γ x.kind,Γ x.n,.string x.s] 58::X::F) w:=by
    simp only[zza,zzg,yym,zzx,zzj,xxa];exact aI hS
   refine za (λh1=>?_) (λh1=>?_)
   ·refine Gp ?_;refine zK ?_;have eu:IntKind.u64.wrap x.n=jP x.n:=rfl;rw[eu];refine Cc (Zh (c++[cO x.kind]) u' (jP x.n) 8 (by omega) (by simp;omega)) ?_;clear hS;rintro v36 post rfl w hS;(try simp only[app]at hS);refine Gp ?_;refine⟨⟨i+1,v36,by omega,rfl,rK,?_⟩,?_⟩
    ·have e:bI xs.length 2++((xs.take (i+1)).map bO).flatten=c++[cO x.kind]++bI (jP x.n) 8:=by
      rw[jJ,<- zze,hc];have:bO x=cO x.kind::bI (jP x.n) 8:=by unfold bO;rw[zzd h1]
      rw[this];simp
     rw[e];exact aI hS
    simp only[zzy];omega
   have gK:x.s.size<=4096:=by
    unfold fB at hr;rw[zzb h1,zzd (by omega),zzk]at hr
    exact zzl hr.2
   have vq:bO x=cO x.kind::(bI x.s.size 2++x.s.data.toList):=by unfold bO;rw[zzb h1]
   refine Gn λw hS=>?_;refine zK ?_;rw[wrap_u64 (by omega) (by omega)];refine Gp ?_;refine Cc (Zh (c++[cO x.kind]) u' x.s.size 2 (by omega) (by simp;omega)) ?_;clear hS;rintro ra post rfl w hS;(try simp only[app]at hS);refine Gp ?_;have Dd:x.s.data.toList.length=x.s.size:=rfl;have ta:(bO x).length=1+(2+x.s.size):=by rw[vq];simp only[zzg,zza,eg];omega
   refine zx (m:=x.s.size) (cs:=x.s.data.toList.map bo) hS Xr Ov (by simp) rfl (mB _) (by simp only[zza,zzg,yym,eg];omega) (by simp only[zza,zzg,yym,eg];omega) ?_;clear hS;intro v45 w hS;refine Gp ?_;refine⟨⟨i+1,v45,by omega,rfl,rK,?_⟩,?_⟩
   ·have e:bI xs.length 2++((xs.take (i+1)).map bO).flatten=(c++[cO x.kind]++bI x.s.size 2)++x.s.data.toList:=by
     rw[jJ,<- zze,hc,vq];simp
    rw[e];generalize c++[cO x.kind]++bI x.s.size 2=A at *
    rw[zza,zzx,Dd];exact aI hS
   simp only[zzy];omega
 obtain rfl:i=xs.length:=by omega
 rw[zz6]at hS ha
 exact⟨_,.ok (by unfold gl;rw[zzb (by omega),zzd ha]) u1,hS⟩
abbrev ka:=Ε × Φ
def eI(x:ka):zw:=aY x.1 5 1 x.2.length (x.2.map bo)
def eC(es:List ka):Ξ:=es.map Prod.fst
def kJ(es:List ka):List Φ:=es.map Prod.snd
def Pj(X:Μ)(q:Φ)(r:Ε)(post:Β):Prop:=∃(u:Ε) (es:List ka),kJ es=(gh q).1/\r= .tuple #[u,Γ ((gh q).2:Nat)]/\post=[.ob (aY u 34 1 es.length (eC es)),.ob (ze eI es),X]
def QU(X:Μ)(v:Ε)(q:Φ)(hq:bN X v q)(hN:q.length<=10000000000):SP 309 [v] [X] (Pj X q):=by
 refine Enzz λW F w hS=>?_;apply aYq;delta aF ai aZ;have hS:=aY.nil (t:=34) (sz:=1) (ze.nil (A:=eI) hS);refine⟨λvs w=>∃(u:Ε) (es:List ka) (at_:Nat),vs=[u,Γ at_]/\at_<=q.length/\es.length*8<=at_/\kJ es++(gh (q.drop at_)).1=(gh q).1/\at_+(gh (q.drop at_)).2=(gh q).2 /\
   SL W (.ob (aY u 34 1 es.length (eC es))::.ob (ze eI es)::X::F) w,λvs _=>match vs with
  | [_,.int _ i]=>q.length-i.toNat
  | _=>0,⟨_,[],0,rfl,yye _,zzz _,rfl,by simp,hS⟩,?_⟩
 clear hS;rintro u1 u2 w1 ⟨u,es,i,hv,hi,h8,h1,h2,hS⟩;cases hv;refine Ql hS Xh hq hi ?_;intro v12 cT;refine Cc (Yh X v12 (q.drop i) cT (by rw[zz0];omega)) ?_;clear hS;intro tY post hQ w hS;unfold oB at hQ;cases ht:fg (q.drop i) with
 | error e=>
  rw[ht]at hQ
  obtain⟨rfl,rfl⟩:=hQ;(try simp only[app]at hS);refine Gp ?_
  have he:=OK ht;rw[Ec ht]at h1 h2
  refine Υ ?_;refine⟨_,⟨u1,es,by simpa using h1,?_,rfl⟩,aI hS⟩;rw[<- h2];rfl
 | ok x=>
  obtain⟨p,n⟩:=x;rw[ht]at hQ
  obtain⟨y,rfl,rfl⟩:=hQ;(try simp only[app]at hS);refine Gp ?_
  have hl:=wk ht;rw[Ed ht]at h1 h2
  rw[zz0]at hl
  refine Χ ?_;have nX:=hS.ml .hd;obtain⟨ay,cy,ey,_⟩:=aY.at hS .hd;subst ey;refine zA (cells:=[.slice ay p.length cy]) hS rfl ?_;clear hS;intro b w hS;refine zx (m:=1) (cs:=[.slice ay p.length cy]) hS Xr (fC hS .hd rfl) rfl rfl (by intro v hv;simp only[zz8]at hv;subst hv;rfl) (by omega) (by omega) ?_;clear hS;intro u' w hS;have hS:=ze.snoc (A:=eI) (xs:=es) (x:=(.slice ay p.length cy,p)) (SL.bA hS (t:=.ob (ze eI es)::.ob (aY (.slice ay p.length cy) 5 1 p.length (p.map bo))::.ob (aY u' 34 1 (es.length+1) (eC es++[.slice ay p.length cy]))::X::F) Xi);refine yk (a:=i) (b:=n) (by omega) ?_;refine⟨⟨u',es++[(.slice ay p.length cy,p)],i+n,rfl,by omega,by simp;omega,?_,?_,?_⟩,?_⟩
  ·rw[<- h1,<- wws];simp[kJ]
  ·rw[<- h2,<- wws];simp only;omega
  ·rw[show (es++[((Value.slice ay p.length cy,p):ka)]).length=es.length+1 by simp,show eC (es++[((Value.slice ay p.length cy,p):ka)])=eC es++[.slice ay p.length cy] by simp[eC]];exact aI hS
  simp only[zzy];omega
def Sh{n:Nat}(h:n<=1099511627776):gl [⟨1,n,⟨#[]⟩⟩]= .ok (fb n):=by
 have e:jP (n:Int)=(n:Int):=by unfold jP;omega
 unfold gl;rw[zzb (by simp),zzd (by simp[fB])];show Except.ok (bI ((1:Nat):Int) 2++(bO ⟨1,n,⟨#[]⟩⟩++[]))=_;unfold bO;rw[zzd rfl,e];show Except.ok ([cO ((1:Int).fdiv (2 ^ (8*1))),cO ((1:Int).fdiv (2 ^ (8*0)))]++(cO 1::bI n 8++[]))=_;rw[zz4];rfl
def A9(n:Int)(r:Ε)(post:Β):Prop:=if n<1\/1099511627776<n then r= .tuple #[Θ,Γ 1]/\post=[] else ∃u,r= .tuple #[u,Γ 0]/\post=[.ob (aY u 5 1 (cD (fb n.toNat)).length ((cD (fb n.toNat)).map bo))]
def Yy(n:Int):SP 320 [Γ n] [] (A9 n):=by
 refine Enzz λW F w hS=>?_;apply aY3;delta aF ai bn aZ;unfold A9;refine bw (λh=>?_) (λh=>?_)
 ·exact⟨[],by rw[zzd (.inl h)];exact⟨rfl,rfl⟩,hS⟩
 refine bw (λh2=>?_) (λh2=>?_)
 ·exact⟨[],by rw[zzd (.inr h2)];exact⟨rfl,rfl⟩,hS⟩
 obtain⟨k,rfl⟩:=xxo (show 0<=n by omega);have hx:=Sh (n:=k) (by omega);refine yQ (cells:=cn ⟨1,k,⟨#[]⟩⟩) rfl ?_;refine zA (cells:=cn ⟨1,k,⟨#[]⟩⟩) hS rfl ?_;clear hS;intro p w hS;refine Cc (yN (.pt p (cn ⟨1,k,⟨#[]⟩⟩) 58) _ [⟨1,k,⟨#[]⟩⟩] (jU.pt rfl) (by simp)) ?_;clear hS;intro v post hQ w hS;unfold lr at hQ;rw[hx]at hQ
 obtain⟨u,rfl,rfl⟩:=hQ;(try simp only[app]at hS);refine Gp ?_
 refine Χ ?_;refine Cc (YZ (.ob (aY u 5 1 (fb k).length ((fb k).map bo))) u (fb k) bN.own (by rw[vn];omega)) ?_;clear hS;intro v post hQ w hS;unfold oA at hQ;rw[zzb (by rw[vn];omega)]at hQ
 obtain⟨y,rfl,rfl⟩:=hQ;(try simp only[app]at hS);refine Gp ?_
 refine⟨[.ob (aY y 5 1 (cD (fb k)).length ((cD (fb k)).map bo))],?_,aI hS⟩;rw[zzb (by omega)];exact⟨y,rfl,rfl⟩
abbrev EY(rp:Nat)(lv:Ε)(n f:Int)(es:List ka):Β:=[.pt rp [lv,Γ n,Γ f] 422,.ob (aY lv 34 1 es.length (eC es)),.ob (ze eI es)]
def nT(es:List ka):Option Int:=match es with
 | []=>none
 | e::_=>kW e.2
def ZO(rp:Nat)(lv:Ε)(n f:Int)(es:List ka):SP 310 [Δ rp] (EY rp lv n f es) (bj (.bool (nT es).isSome) (EY rp lv n ((nT es).getD f) es)):=by
 refine Enzz λW F w hS=>?_;apply aYs;delta aF aW cq bG bc ai;refine Gp ?_;refine zB hS (t:=34) (sz:=1) (n:=es.length) (cells:=eC es) Xh ?_;refine bw (λh=>?_) (λh=>?_)
 ·have:es=[]:=zzm (by omega);subst this;exact⟨_,⟨rfl,rfl⟩,hS⟩
 obtain⟨e,es,rfl⟩:∃e uY,es=e::uY:=by
  cases es with
  | nil=>simp at h
  | cons e uY=>exact⟨e,uY,rfl⟩
 refine Gp ?_;refine yp (j:=0) hS (t:=34) (n:=(e::es).length) (cells:=eC (e::es)) Xh (by simp) (u:=e.1) rfl ?_;have hS:=ze.take (t:=0) (x:=e) (SL.bA hS (t:=.ob (ze eI (e::es))::.pt rp [lv,Γ n,Γ f] 422::.ob (aY lv 34 1 (e::es).length (eC (e::es)))::F) Xi) rfl;have kV:∀{w:Ζ} {k:Int},SL W (.ob (eI e)::.ob (ze eI ((e::es).eraseIdx 0))::.pt rp [lv,Γ n,Γ k] 422::.ob (aY lv 34 1 (e::es).length (eC (e::es)))::F) w ->
   SL W (.pt rp [lv,Γ n,Γ k] 422::.ob (aY lv 34 1 (e::es).length (eC (e::es)))::.ob (ze eI (e::es))::F) w:=λ{w k} h=>by
  have h2:SL W (.ob (ze eI (e::es))::.pt rp [lv,Γ n,Γ k] 422::.ob (aY lv 34 1 (e::es).length (eC (e::es)))::F) w:=ze.put h (by simp);exact SL.bA h2 Xi
 have hR:bN (.ob (eI e)) e.1 e.2:=bN.own;refine Cc (yj (.ob (eI e)) e.1 e.2 hR) ?_;clear hS;intro v post hQ w hS;unfold lq at hQ;have hh:nT (e::es)=kW e.2:=rfl;rw[hh];unfold kW;cases hd:dK e.2 with
 | error k=>
  rw[hd]at hQ
  obtain⟨rfl,rfl⟩:=hQ;(try simp only[app]at hS);refine Gp ?_
  have hk:k≠0:=by
   intro hk;rw[xg]at hd
   split at hd
   ·cases hd
   rename_i h0;cases hd;exact h0 hk
  refine za (λ_=>?_) (λh=>absurd hk h);exact⟨_,⟨rfl,rfl⟩,kV hS⟩
 | ok l=>
  rw[hd]at hQ
  obtain⟨y,rfl,rfl⟩:=hQ;(try simp only[app]at hS);refine Gp ?_
  refine Χ ?_;refine zB hS (t:=58) (sz:=3) (n:=l.length) (cells:=(l.map cn).flatten) Xh ?_;refine bw (λh1=>?_) (λh1=>?_)
  ·have:xR l=none:=by
    match l,h1 with
    | [],_=>rfl
    | [x],h1=>simp at h1
    | _::_::_,_=>rfl
   simp only[this];exact⟨_,⟨rfl,rfl⟩,kV (k:=f) (aI hS)⟩
  obtain⟨x,rfl⟩:∃x,l=[x]:=List.length_eq_one_iff.1 (by omega);have hx:xR [x]=if x.kind=1/\1<=x.n/\x.n<=1099511627776 then some x.n else none:=rfl
  simp only[hx];refine zX (j:=0) (i:=0) (x:=x) (xs:=[x]) hS (t:=58) (sz:=3) (n:=1) Xh mX rfl (by omega) (u:=Γ x.kind) rfl ?_;refine bw (λh2=>?_) (λh2=>?_)
  ·rw[zzb (by omega)];exact⟨_,⟨rfl,rfl⟩,kV (k:=f) (aI hS)⟩
  refine zX (j:=0) (i:=1) (x:=x) (xs:=[x]) hS (t:=58) (sz:=3) (n:=1) Xh mX rfl (by omega) (u:=Γ x.n) rfl ?_;refine bw (λh3=>?_) (λh3=>?_)
  ·rw[zzb (by omega)];exact⟨_,⟨rfl,rfl⟩,kV (k:=f) (aI hS)⟩
  refine zX (j:=0) (i:=1) (x:=x) (xs:=[x]) hS (t:=58) (sz:=3) (n:=1) Xh mX rfl (by omega) (u:=Γ x.n) rfl ?_;refine bw (λh4=>?_) (λh4=>?_)
  ·rw[zzb (by omega)];exact⟨_,⟨rfl,rfl⟩,kV (k:=f) (aI hS)⟩
  rw[zzd ⟨by omega,by omega,by omega⟩];refine zX (j:=0) (i:=1) (x:=x) (xs:=[x]) hS (t:=58) (sz:=3) (n:=1) Xh mX rfl (by omega) (u:=Γ x.n) rfl ?_;refine Gn λw hS=>?_;exact⟨_,⟨rfl,rfl⟩,kV (k:=x.n) (aI hS)⟩
def wJ(X:Μ)(q:Φ)(r:Ε)(post:Β):Prop:=match gM q with
 | none=>r= .tuple #[Γ 0,Θ,Γ 0,Γ 3]/\post=[X]
 | some (f,l,n)=>∃(u:Ε) (es:List ka),kJ es=l/\r= .tuple #[Γ f,u,Γ (n:Nat),Γ 0]/\post=[.ob (bP u 34 1 es.length (eC es)),.ob (ze eI es),X]
def X2(es:List ka)(n:Nat):Option (Int × List Φ × Nat):=match es with
 | []=>none
 | e::uY=>(kW e.2).map λk=>(k,kJ uY,n)
def X4{q:Φ}{es:List ka}(he:kJ es=(gh q).1):gM q=X2 es (gh q).2:=by
 unfold gM;rw[<- he];cases es with
 | nil=>rfl
 | cons e es=>rfl
def Yz(X:Μ)(v:Ε)(q:Φ)(hq:bN X v q)(hN:q.length<=10000000000):SP 263 [v] [X] (wJ X q):=by
 refine Enzz λW F w hS=>?_;apply aXv;delta bd ba bG bD ai aZ;refine Cc (QU X v q hq hN) ?_;clear hS;rintro r post ⟨u,es,he,rfl,rfl⟩ w hS;(try simp only[app]at hS);have nX:=hS.ml .hd;obtain⟨au,cu,eu,_⟩:=aY.at hS .hd;subst eu;refine Gp ?_;refine⟨_,rfl,zD hS ?_⟩;clear hS;intro rp w hS;have hS:SL W (.pt rp [.slice au es.length cu,Γ ((gh q).2:Nat),Γ 0] 422::.ob (aY (.slice au es.length cu) 34 1 es.length (eC es))::.ob (ze eI es)::X::F) w:=hS;refine Cc (ZO rp (.slice au es.length cu) ((gh q).2:Nat) 0 es) ?_;clear hS;rintro v post ⟨rfl,rfl⟩ w hS;(try simp only[app]at hS);refine yb ?_;have hr:=X4 he;cases hd:nT es with
 | none=>
  refine zt ?_;refine⟨[X],?_,aI hS⟩;unfold wJ;have:gM q=none:=by
   rw[hr];cases es with
   | nil=>rfl
   | cons e es=>have hd:kW e.2=none:=hd;show (kW e.2).map _=none;rw[hd];rfl
  rw[this];exact⟨rfl,rfl⟩
 | some k=>
  refine zs ?_;cases es with
  | nil=>cases hd
  | cons e es=>
   have hd:kW e.2=some k:=hd;have hr:gM q=some (k,kJ es,(gh q).2):=by
    rw[hr];show (kW e.2).map _=_;rw[hd];rfl
   rw[show (nT (e::es)).getD 0=k by show (kW e.2).getD 0=k;rw[hd];rfl]at hS
   refine Gn λw hS=>?_;have hS:=ze.take (t:=0) (x:=e) (SL.bA hS (t:=.ob (ze eI (e::es))::.pt rp [.slice au (e::es).length cu,Γ ((gh q).2:Nat),Γ k] 422::.ob (aY (.slice au (e::es).length cu) 34 1 (e::es).length (eC (e::es)))::X::F) Xi) rfl;have hS:=bP.of (SL.bA hS (t:=.ob (aY (.slice au (e::es).length cu) 34 1 (e::es).length (eC (e::es)))::.pt rp [.slice au (e::es).length cu,Γ ((gh q).2:Nat),Γ k] 422::.ob (ze eI ((e::es).eraseIdx 0))::X::F) Xi);refine N' (k:=1) hS (by simp) ?_;clear hS;intro y hS;have e1:(e::es).length-1=es.length:=by simp
   have e2:(eC (e::es)).drop (1*1)=eC es:=rfl;have e3:(e::es).eraseIdx 0=es:=rfl;rw[e1,e2,e3]at hS
   refine Gp ?_;refine⟨[.ob (bP y 34 1 es.length (eC es)),.ob (ze eI es),X],?_,aI hS⟩;unfold wJ;rw[hr];exact⟨y,es,rfl,rfl,rfl⟩
def Zk(x:Int)(n:Nat)(hn:n<=8):SP 38 [.int .u64 x,Γ n] [] (λu post=>post=[.ob (aY u 5 1 (bI x n).length ((bI x n).map bo))]):=by
 refine Enzz λW F w hS=>?_;apply aZn;delta aF ai aZ;refine Gp ?_;have hS:=aY.nil (t:=5) (sz:=1) hS;have hS:SL W (.ob (aY Θ 5 1 ([]:Φ).length (([]:Φ).map bo))::F) w:=hS;refine⟨λvs w=>∃(u:Ε) (c:Φ) (k:Nat),vs=[u,Γ ((k:Int)-1)]/\k<=n/\c++bI x k=bI x n/\SL W (.ob (aY u 5 1 c.length (c.map bo))::F) w,λvs _=>match vs with
  | [_,.int _ i]=>(i+1).toNat
  | _=>0,⟨_,[],n,rfl,zzz _,rfl,hS⟩,?_⟩
 clear hS;rintro u1 u2 w1 ⟨u,c,k,hv,hk,hc,hS⟩;cases hv;refine bw (λh=>?_) (λh=>?_)
 ·obtain⟨j,rfl⟩:∃j,k=j+1:=⟨k-1,by omega⟩;have e0:((j+1:Nat):Int)-1=(j:Int):=by omega
  rw[e0];refine N4 (by omega) ?_;have e1:(8:Int)*(j:Int)=((8*j:Nat):Int):=by omega
  rw[e1];refine zK ?_;rw[wrap_u64 (by omega) (by omega)];refine N9 (by omega) ?_;refine zK ?_;rw[wrap_u8];refine zA (cells:=[bo (cO (x.fdiv (2 ^ (8*j))))]) hS rfl ?_;clear hS;intro p w hS;have na:c.length+(j+1)=n:=by
   have:=yyl List.length hc;simpa [eg] using this
  refine zx (m:=1) (cs:=[bo (cO (x.fdiv (2 ^ (8*j))))]) hS Xr (fC hS .hd rfl) rfl rfl (by intro v hv;simp only[zz8]at hv;subst hv;rfl) (by omega) (by omega) ?_;clear hS;intro u' w hS;refine Gp ?_;refine⟨⟨u',c++[cO (x.fdiv (2 ^ (8*j)))],j,rfl,by omega,?_,?_⟩,?_⟩
  ·rw[<- hc];simp[bI]
  ·simp only[zza,zzg,yym,zzx,zzj,xxa];exact aI hS
  show ((j:Int)-1+1).toNat<((j:Int)+1).toNat;omega
 obtain rfl:k=0:=by omega
 have e:c=bI x n:=by simpa [bI] using hc
 rw[e]at hS
 exact⟨_,rfl,hS⟩
def awe{x:Nat}{K:Ε->Prop}(h:K (.int .u64 (((x*256) % 18446744073709551616:Nat):Int))):zc .shl (.int .u64 (x:Int)) (.int .u64 8) K:=by
 refine⟨.int .u64 (((x*256) % 18446744073709551616:Nat):Int),?_,h⟩;show (if (8:Int)<0 then none else some (Value.int .u64 (IntKind.u64.wrap ((x:Int)*2 ^ (min (8:Int).toNat IntKind.u64.bits)))))=_;rw[zzb (by omega)];congr 2
def awc{x:Nat}{c:Κ}{K:Ε->Prop}(h:K (.int .u64 (((x*256+c.toNat) % 18446744073709551616:Nat):Int))):
  zC .u64 (bo c) λy=>zc .or (.int .u64 (((x*256) % 18446744073709551616:Nat):Int)) y K:=by
 have hc:=c.toNat_lt;refine zK ?_;rw[wrap_u64 (by omega) (by omega)];refine⟨_,Nt (by omega) (by omega),?_⟩;have e:(x*256) % 18446744073709551616=((x*256) % 18446744073709551616 / 256) <<< 8:=by rw[vvq];omega
 have e2:(x*256) % 18446744073709551616 ||| c.toNat=(x*256+c.toNat) % 18446744073709551616:=by
  rw[e,<- vva (show c.toNat<2 ^ 8 by omega),vvq];omega
 rw[e2];exact h
def yI(X:Μ)(v:Ε)(b:Φ)(hb:bN X v b)(hN:b.length<=140737488355328):SP 74 [v] [X] (bj (.int .u64 (cF b:Nat)) [X]):=by
 refine Enzz λW F w hS=>?_;apply a_s;delta aF ai;refine⟨λvs w=>∃i:Nat,i<=b.length/\vs=[.int .u64 (cF (b.take i):Nat),Γ i]/\SL W (X::F) w,λvs _=>match vs with
  | [_,.int _ i]=>b.length-i.toNat
  | _=>0,⟨0,by omega,rfl,hS⟩,?_⟩
 clear hS;rintro v1 v2 w1 ⟨i,hi,hv,hS⟩;cases hv;refine zN hS Xh hb ?_;refine bw (λh=>?_) (λh=>?_)
 ·have hi:i<b.length:=by omega
  refine awe ?_;refine yA hS Xh hb hi ?_;refine awc ?_;refine Gp ?_;refine⟨⟨i+1,by omega,?_,hS⟩,?_⟩
  ·rw[BL hi]
  simp only[zzy];omega
 have:b.take i=b:=xxb (by omega);rw[this];exact⟨_,⟨rfl,rfl⟩,hS⟩
section
variable {W w:Ζ} {l:Β} {X:Μ} {v:Ε} {sz n:Nat}
def yB{α:Type}{enc:α->Ξ}{xs:List α}{j i:Nat}{u:Ε}{kk:IntKind}{K:Ε->Prop}(hS:SL W l w)(m:Has X l)(hb:jU X sz v n (xs.map enc).flatten)(he:∀x,(enc x).length=sz)(gK:0<sz)(hx:xs.length=n)(hj:j<n)
  (hu:(enc (xs[j]'(by omega)))[i]?=some u) (hK:K u):zj sz v (.int kk (j:Int)) λp=>zm i p λq=>bx q w K:=by
 obtain⟨a,c,rfl,hc⟩:=hb.sl hS m;have hs:=hb.src hS m;have hlen:(xs.map enc).flatten.length=n*sz:=by rw[<- hx];exact nK he xs
 have hg:=xy he (by omega) hu;cases a with
 | none=>
  have e:(xs.map enc).flatten=[]:=hs.2;rw[e]at hg;simp at hg
 | some p=>
  refine⟨p,_,c,kk,j,rfl,rfl,hj,?_⟩;refine⟨_,rfl,?_⟩;refine⟨_,u,rfl,?_,hK⟩;rw[BF];exact hs.2.2 (j*sz+i) u hg
end
def zJ(n:Int):SP 25 [Γ n] [] (bj (.agg (cn ⟨1,n,⟨#[]⟩⟩).toArray) []):=by
 refine Enzz λW F w hS=>?_;apply aXo;delta ai bn;refine Gm λb w hS=>?_;exact bt hS
def Zp(s:Η):SP 56 [.string s] [] (bj (.agg (cn ⟨2,0,s⟩).toArray) []):=by
 refine Enzz λW F w hS=>?_;apply aZ8;delta ai bn;refine Gm λb w hS=>?_;exact bt hS
def Yq(x:bz):SP 39 [.agg (cn x).toArray] [] (bj (.bool (fB x)) []):=by
 refine Enzz λW F w hS=>?_;apply aZp;delta aF aW bc BD ai;refine⟨cn x,rfl,?_⟩;unfold cn;refine Gm λb w hS=>?_;unfold fB;refine za (λh=>?_) (λh=>?_)
 ·rw[zzd h];refine bw (λh1=>?_) (λh1=>?_)
  ·rw[zzr h1];exact bt hS
  refine Gp ?_;refine za (λh2=>by omega) (λh2=>?_);rw[zz5 h1];exact bt hS
 rw[zzb h];refine bw (λh2=>?_) (λh2=>?_)
 ·rw[zzd h2];refine bw (λh3=>?_) (λh3=>?_)
  ·refine Gp ?_;rw[zzr h3,uu1];have e:decide ((x.s.size:Int)<=4096)=decide (x.s.size<=4096):=by congr 1;exact propext ⟨λ_=>by omega,λ_=>by omega⟩
   rw[e];exact bt hS
  rw[zz5 h3,Bool.false_and];exact bt hS
 rw[zzb h2];exact bt hS
def Za(X:Μ)(v:Ε)(xs:List bz)(hx:jU X 3 v xs.length (xs.map cn).flatten)(hN:xs.length<=140737488355328):SP 17 [v] [X] (lr X xs):=by
 refine Enzz λW F w hS=>?_;apply aWi;delta aF aW bD ai aZ;refine Zm hS .hd hx ?_;refine bw (λh=>?_) (λh=>?_)
 ·exact⟨_,.er (by unfold gl;rw[zzd (by omega)]),hS⟩
 refine Zm hS .hd hx ?_;refine zK ?_;rw[wrap_u64 (by omega) (by omega)];refine Cc (Zk xs.length 2 (by omega)) ?_;clear hS;rintro tY post rfl w hS;(try simp only[app]at hS);have hb:∀i,i<=xs.length->(xs.take i).all fB=true->(bI xs.length 2++((xs.take i).map bO).flatten).length<=200000000:=λi hi ha=>by
  have:=B7 ha;rw[zza,eg];rw[zzn]at this
  omega
 refine⟨λvs w=>∃(i:Nat) (u:Ε),i<=xs.length/\vs=[u,Γ i]/\(xs.take i).all fB=true/\SL W (.ob (aY u 5 1 (bI xs.length 2++((xs.take i).map bO).flatten).length ((bI xs.length 2++((xs.take i).map bO).flatten).map bo))::X::F) w,λvs _=>match vs with
  | [_,.int _ i]=>xs.length-i.toNat
  | _=>0,⟨0,tY,by omega,rfl,rfl,(by simpa using hS)⟩,?_⟩
 clear hS;rintro u1 u2 w1 ⟨i,u,hi,hv,ha,hS⟩;cases hv;have TF:=hb i hi ha;refine Zm hS Xh hx ?_;refine bw (λh=>?_) (λh=>?_)
 ·have hi:i<xs.length:=by omega
  refine qa hS Xh hx mX (by omega) rfl hi ?_;have ik:xs[i]∈xs:=zzi hi;have lL:xs.take (i+1)=xs.take i++[xs[i]]:=by rw[xx4];simp[hi]
  refine Cc (Yq xs[i]) ?_;clear hS;rintro v post ⟨rfl,rfl⟩ w hS;(try simp only[app]at hS);refine yb ?_;cases hr:fB xs[i] with
  | false=>
   refine zt ?_;refine⟨[X],.er ?_,aI hS⟩;unfold gl;rw[zzb (by omega),zzb];intro h;have:=zzw.1 h xs[i] ik;rw[hr]at this;cases this
  | true=>
   refine zs ?_;have rK:(xs.take (i+1)).all fB=true:=by rw[lL,wwj,ha];simp[hr]
   have j1:=hb (i+1) (by omega) rK;have jJ:((xs.take (i+1)).map bO).flatten=((xs.take i).map bO).flatten++bO xs[i]:=by rw[lL,zzx,yy1];simp only[zzj,xxa,zzt,xxs,zz4]
   rw[jJ]at j1
   rw[zza,zza]at j1
   have hk:xs[i].kind=1\/xs[i].kind=2:=by
    unfold fB at hr;by_cases h1:xs[i].kind=1
    ·exact .inl h1
    rw[zzb h1]at hr
    by_cases h2:xs[i].kind=2
    ·exact .inr h2
    rw[zzb h2]at hr;cases hr
   generalize hc:bI xs.length 2++((xs.take i).map bO).flatten=c at *
   have na:c.length+(bO xs[i]).length<=200000000:=by rw[<- hc,zza];omega
   refine yB (i:=0) hS Xh hx mX (by omega) rfl hi (u:=Γ xs[i].kind) rfl ?_;refine zK ?_;rw[wrap_u8];refine zA (cells:=[bo (cO xs[i].kind)]) hS rfl ?_;clear hS;intro p w hS;refine zx (m:=1) (cs:=[bo (cO xs[i].kind)]) hS Xr (fC hS .hd rfl) rfl rfl (by intro v hv;simp only[zz8]at hv;subst hv;rfl) (by omega) (by omega) ?_;clear hS;intro u' w hS;have hS:SL W (.ob (aY u' 5 1 (c++[cO xs[i].kind]).length ((c++[cO xs[i].kind]).map bo))::X::F) w:=by
    simp only[zza,zzg,yym,zzx,zzj,xxa];exact aI hS
   refine yB (i:=0) hS Xh hx mX (by omega) rfl hi (u:=Γ xs[i].kind) rfl ?_;refine bw (λh1=>?_) (λh1=>?_)
   ·refine yB (i:=1) hS Xh hx mX (by omega) rfl hi (u:=Γ xs[i].n) rfl ?_;refine zK ?_;have eu:IntKind.u64.wrap xs[i].n=jP xs[i].n:=rfl;rw[eu];refine Cc (Zk (jP xs[i].n) 8 (by omega)) ?_;clear hS;rintro v47 post rfl w hS;(try simp only[app]at hS);refine zx (t:=5) (sz:=1) (x:=u') (n:=(c++[cO xs[i].kind]).length) (cells:=(c++[cO xs[i].kind]).map bo) (m:=(bI (jP xs[i].n) 8).length) (cs:=(bI (jP xs[i].n) 8).map bo) hS Xr (iG hS Xh) (by simp) rfl (mB _) (by rw[eg,zza,yyg];omega) (by rw[eg,zza,yyg];omega) ?_;clear hS;intro Et w hS;rw[<- zzx,<- zza]at hS
    refine Gp ?_;refine⟨⟨i+1,Et,by omega,rfl,rK,?_⟩,?_⟩
    ·have e:bI xs.length 2++((xs.take (i+1)).map bO).flatten=c++[cO xs[i].kind]++bI (jP xs[i].n) 8:=by
      rw[jJ,<- zze,hc];have:bO xs[i]=cO xs[i].kind::bI (jP xs[i].n) 8:=by unfold bO;rw[zzd h1]
      rw[this];simp
     rw[e];exact aI hS
    simp only[zzy];omega
   have gK:xs[i].s.size<=4096:=by
    unfold fB at hr;rw[zzb h1,zzd (by omega),zzk]at hr
    exact zzl hr.2
   have vq:bO xs[i]=cO xs[i].kind::(bI xs[i].s.size 2++xs[i].s.data.toList):=by unfold bO;rw[zzb h1]
   refine yB (i:=2) hS Xh hx mX (by omega) rfl hi (u:=.string xs[i].s) rfl ?_;refine Gp ?_;refine zK ?_;rw[wrap_u64 (by omega) (by omega)];refine Cc (Zk xs[i].s.size 2 (by omega)) ?_;clear hS;rintro v57 post rfl w hS;(try simp only[app]at hS);refine zx (t:=5) (sz:=1) (x:=u') (n:=(c++[cO xs[i].kind]).length) (cells:=(c++[cO xs[i].kind]).map bo) (m:=(bI xs[i].s.size 2).length) (cs:=(bI xs[i].s.size 2).map bo) hS Xr (iG hS Xh) (by simp) rfl (mB _) (by rw[eg,zza,yyg];omega) (by rw[eg,zza,yyg];omega) ?_;clear hS;intro v58 w hS;rw[<- zzx,<- zza]at hS
   refine yB (i:=2) hS Xh hx mX (by omega) rfl hi (u:=.string xs[i].s) rfl ?_;have Dd:xs[i].s.data.toList.length=xs[i].s.size:=rfl;have ta:(bO xs[i]).length=1+(2+xs[i].s.size):=by rw[vq];simp only[zzg,zza,eg];omega
   refine zx (m:=xs[i].s.size) (cs:=xs[i].s.data.toList.map bo) hS Xr Ov (by simp) rfl (mB _) (by simp only[zza,zzg,yym,eg];omega) (by simp only[zza,zzg,yym,eg];omega) ?_;clear hS;intro Eu w hS;refine Gp ?_;refine⟨⟨i+1,Eu,by omega,rfl,rK,?_⟩,?_⟩
   ·have e:bI xs.length 2++((xs.take (i+1)).map bO).flatten=(c++[cO xs[i].kind]++bI xs[i].s.size 2)++xs[i].s.data.toList:=by
     rw[jJ,<- zze,hc,vq];simp
    rw[e];generalize c++[cO xs[i].kind]++bI xs[i].s.size 2=A at *
    rw[zza,zzx,Dd];exact aI hS
   simp only[zzy];omega
 obtain rfl:i=xs.length:=by omega
 rw[zz6]at hS ha
 exact⟨_,.ok (by unfold gl;rw[zzb (by omega),zzd ha]) u1,aI hS⟩
def Yp(X:Μ)(v:Ε)(q:Φ)(hq:bN X v q)(hN:q.length<=140737488355328):SP 40 [v] [X] (lq X q):=by
 refine Enzz λW F w hS=>?_;apply aZs;delta aF ai bn aZ;have hE:∀{e:Int} {w:Ζ},dK q= .error e->SL W (X::F) w->∃post,lq X q (.tuple #[Θ,Γ e]) post/\SL W (app post F) w:=λh hS=>⟨[X],by unfold lq;rw[h];exact⟨rfl,rfl⟩,hS⟩;refine zN hS .hd hq ?_;refine Gp ?_;refine za (λh=>hE (JD (by omega)) hS) (λh=>?_);have h2:2<=q.length:=by omega
 refine Qk (hi:=2) hS .hd hq h2 ?_;intro wu xF;refine Cc (yI X wu (q.take 2) xF (by rw[zzn];omega)) ?_;clear hS;rintro v post ⟨rfl,rfl⟩ w hS;(try simp only[app]at hS);have cA:cF (q.take 2)<65536:=by
  have:=uG 2 (q.take 2) (by rw[zzn];omega);exact this
 refine ya (by omega) ?_;refine Gp ?_;refine za (λh3=>hE (JB h2 (by omega)) hS) (λh3=>?_);have fx:=uO h2 (by omega);generalize hm:cF (q.take 2)=m at *
 have hS:=aY.nil (t:=58) (sz:=3) hS;refine⟨λvs w=>∃(i at_:Nat) (u:Ε) (l:List bz),vs=[Γ at_,u,Γ i]/\i<=m/\l.length=i/\at_<=q.length/\dK q=iw l (m-i) ⟨q.drop at_,0⟩/\SL W (.ob (aY u 58 3 l.length (l.map cn).flatten)::X::F) w,
  λvs _=>match vs with|[_,_,.int _ i]=>(m-i).toNat|_=>0,⟨0,2,_,[],rfl,by omega,rfl,h2,fx,hS⟩,?_⟩
 clear hS fx;rintro v5 v6 v7 w ⟨i,at_,u,l,b9,l7,Lc,ie,fx,hS⟩;cases b9;refine bw (λh4=>?_) (λh4=>?_)
 ·have l7:i<m:=by omega
  obtain⟨r,hr⟩:∃r,m-i=r+1:=⟨m-i-1,by omega⟩;have pI:m-(i+1)=r:=by omega
  rw[hr]at fx
  refine zN hS Xh hq ?_;refine bw (λh5=>?_) (λh5=>?_)
  ·have:q.drop at_=[]:=yyt (by omega);rw[this,B0]at fx
   exact hE fx (aI hS)
  have m_:at_<q.length:=by omega
  rw[yya m_]at fx
  have hx:=q[at_].toNat_lt;refine yA hS Xh hq m_ ?_;refine ya (by omega) ?_;refine bw (λh6=>?_) (λh6=>?_)
  ·rw[sO (by omega)]at fx
   rw[zz0]at fx
   refine zN hS Xh hq ?_;refine bw (λh7=>?_) (λh7=>?_)
   ·rw[zzd (by omega)]at fx
    exact hE fx (aI hS)
   rw[zzb (by omega)]at fx
   refine yk (a:=at_+1) (b:=8) (by omega) ?_;refine qd (lo:=at_+1) (hi:=at_+1+8) hS Xh hq (by omega) (by omega) ?_;intro Et Kr;rw[show at_+1+8-(at_+1)=8 by omega]at Kr
   refine Cc (yI X Et ((q.drop (at_+1)).take 8) Kr (by rw[zzn];omega)) ?_;clear hS;rintro v post ⟨rfl,rfl⟩ w hS;(try simp only[app]at hS);have TE:cF ((q.drop (at_+1)).take 8)<18446744073709551616:=uG 8 _ (by rw[zzn,zz0];omega);refine zK ?_;rw[Og TE];refine Cc (zJ (sig (cF ((q.drop (at_+1)).take 8)))) ?_;clear hS;rintro v post ⟨rfl,rfl⟩ w hS;(try simp only[app]at hS);refine zA (cells:=cn ⟨1,sig (cF ((q.drop (at_+1)).take 8)),⟨#[]⟩⟩) hS rfl ?_;clear hS;intro p w hS;refine zx (m:=1) (cs:=cn ⟨1,sig (cF ((q.drop (at_+1)).take 8)),⟨#[]⟩⟩) hS Xr (fC hS .hd rfl) rfl rfl (xr _) (by omega) (by omega) ?_;clear hS;intro u' w hS;refine yk (a:=at_+1) (b:=8) (by omega) ?_;refine Gp ?_;refine⟨⟨i+1,at_+1+8,u',l++[⟨1,sig (cF ((q.drop (at_+1)).take 8)),⟨#[]⟩⟩],rfl,by omega,by simp;omega,by omega,?_,?_⟩,by dsimp only;omega⟩
   ·rw[fx,pI,wws]
   rw[show (l++[(⟨1,sig (cF ((q.drop (at_+1)).take 8)),⟨#[]⟩⟩:bz)]).length=l.length+1 by simp,show ((l++[(⟨1,sig (cF ((q.drop (at_+1)).take 8)),⟨#[]⟩⟩:bz)]).map cn).flatten=(l.map cn).flatten++cn ⟨1,sig (cF ((q.drop (at_+1)).take 8)),⟨#[]⟩⟩ by simp];exact aI hS
  refine bw (λh7=>?_) (λh7=>?_)
  ·rw[sP (by omega)]at fx
   rw[zz0]at fx
   refine zN hS Xh hq ?_;refine bw (λh8=>?_) (λh8=>?_)
   ·rw[zzd (by omega)]at fx
    exact hE fx (aI hS)
   rw[zzb (by omega)]at fx
   refine yk (a:=at_+1) (b:=2) (by omega) ?_;refine qd (lo:=at_+1) (hi:=at_+1+2) hS Xh hq (by omega) (by omega) ?_;intro v67 Kt;rw[show at_+1+2-(at_+1)=2 by omega]at Kt
   refine Cc (yI X v67 ((q.drop (at_+1)).take 2) Kt (by rw[zzn];omega)) ?_;clear hS;rintro v post ⟨rfl,rfl⟩ w hS;(try simp only[app]at hS);have j1:cF ((q.drop (at_+1)).take 2)<65536:=uG 2 _ (by rw[zzn,zz0];omega);generalize cF ((q.drop (at_+1)).take 2)=z at *
   refine ya (by omega) ?_;refine yk (a:=at_+1) (b:=2) (by omega) ?_;refine bw (λh9=>?_) (λh9=>?_)
   ·rw[zzd (by omega)]at fx
    exact hE fx (aI hS)
   rw[zzb (by omega)]at fx
   refine zN hS Xh hq ?_;refine bw (λkR=>?_) (λkR=>?_)
   ·rw[zzd (by omega)]at fx
    exact hE fx (aI hS)
   rw[zzb (by omega)]at fx
   refine yk (a:=at_+1+2) (b:=z) (by omega) ?_;refine qd (lo:=at_+1+2) (hi:=at_+1+2+z) hS Xh hq (by omega) (by omega) ?_;intro v86 Cz;rw[show at_+1+2+z-(at_+1+2)=z by omega]at Cz
   obtain⟨a86,c86,rfl,_⟩:=Cz.sl hS Xh;refine yf (bs:=(q.drop (at_+1+2)).take z) ⟨_,_,_,rfl⟩ (Cz.src hS Xh) yyw yyx yyy ?_;refine Cc (Zp (ji ((q.drop (at_+1+2)).take z))) ?_;clear hS;rintro v post ⟨rfl,rfl⟩ w hS;(try simp only[app]at hS);refine zA (cells:=cn ⟨2,0,ji ((q.drop (at_+1+2)).take z)⟩) hS rfl ?_;clear hS;intro p w hS;refine zx (m:=1) (cs:=cn ⟨2,0,ji ((q.drop (at_+1+2)).take z)⟩) hS Xr (fC hS .hd rfl) rfl rfl (xr _) (by omega) (by omega) ?_;clear hS;intro u' w hS;refine yk (a:=at_+1+2) (b:=z) (by omega) ?_;refine Gp ?_;refine⟨⟨i+1,at_+1+2+z,u',l++[⟨2,0,ji ((q.drop (at_+1+2)).take z)⟩],rfl,by omega,by simp;omega,by omega,?_,?_⟩,by dsimp only;omega⟩
   ·rw[fx,pI,wws,wws];rfl
   rw[show (l++[(⟨2,0,ji ((q.drop (at_+1+2)).take z)⟩:bz)]).length=l.length+1 by simp,show ((l++[(⟨2,0,ji ((q.drop (at_+1+2)).take z)⟩:bz)]).map cn).flatten=(l.map cn).flatten++cn ⟨2,0,ji ((q.drop (at_+1+2)).take z)⟩ by simp];exact aI hS
  rw[JF (by omega) (by omega)]at fx
  exact hE fx (aI hS)
 have tj:m-i=0:=by omega
 rw[tj,xi,zz0]at fx
 refine zN hS Xh hq ?_;refine bw (λh5=>?_) (λh5=>?_)
 ·rw[zzd (by omega)]at fx
  exact hE fx (aI hS)
 rw[zzb (by omega)]at fx
 refine⟨[.ob (aY v6 58 3 l.length (l.map cn).flatten),X],?_,aI hS⟩;unfold lq;rw[fx];exact⟨v6,rfl,rfl⟩
abbrev e_(u:Ε)(L:List bz):Μ:=.ob (aY u 58 3 L.length (L.map cn).flatten)
def SR(L:List bz):∀v∈(L.map cn).flatten,v.oneCell'=true:=tR JW L
def zz{W w:Ζ}{l F:Β}{x y:Ε}{L M:List bz}{K:Ε->Ζ->Prop}(hS:SL W l w)(hr:dW (e_ x L) l F)(gb:il w 3 y M.length (M.map cn).flatten)(hb:L.length+M.length<=1000000)
  (h:∀v' w',SL W (e_ v' (L++M)::F) w'->K v' w'):zq 3 32 [Γ 0,Γ 0,.string ⟨#[]⟩] 58 x y w K:=
 zx hS hr gb (nK oJ M) rfl (SR M) (by omega) (by omega) λv' w' hS=>h v' w' (by
  have e:((L++M).map cn).flatten=(L.map cn).flatten++(M.map cn).flatten:=by simp
  show SL W (.ob (aY v' 58 3 (L++M).length ((L++M).map cn).flatten)::F) w';rw[e,zza];exact hS)
def oh{W w:Ζ}{l:Β}{b:Nat}{x:bz}(hS:SL W l w)(m:Has (.pt b (cn x) 58) l):il w 3 (.slice (some ⟨b,0,none⟩) 1 1) [x].length ([x].map cn).flatten:=by
 simpa using fC (m:=1) (sz:=3) (cap:=1) hS m rfl
section
variable (b:Nat) (x1 x2 x3 x4 x5 x6 x7:Int) (t:Ι)
def pN:SP 22 [.slice (some ⟨b,0,none⟩) 1 1] [.pt b [Γ x1] t] (λu post=>post=[e_ u [iF x1]]):=yT b [x1] t (by simp)
def Vp:SP 22 [.slice (some ⟨b,0,none⟩) 2 2] [.pt b [Γ x1,Γ x2] t] (λu post=>post=[e_ u [iF x1,iF x2]]):=yT b [x1,x2] t (by simp)
def Vq:SP 22 [.slice (some ⟨b,0,none⟩) 4 4] [.pt b [Γ x1,Γ x2,Γ x3,Γ x4] t] (λu post=>post=[e_ u [iF x1,iF x2,iF x3,iF x4]]):=yT b [x1,x2,x3,x4] t (by simp)
end
def Ke{α β:Type}{f:α->List β}{n:Nat}(hn:∀x,(f x).length=n)(xs:List α):((xs.map f).flatten).length=xs.length*n:=by
 induction xs with
 | nil=>simp
 | cons x xs ih=>simp[hn,ih,yyo];omega
def qK(on:Bool):SP 104 [.bool on] [] (bj (agg (cn (iF (jh on)))) []):=by
 refine Enzz λW F w hS=>?_;apply aI5;delta ai bn;refine Gm λb w hS=>?_;cases on with
 | true=>
  refine zt ?_;refine Cg (zJ 1) λw hS=>?_;(exact bt hS)
 | false=>
  refine zs ?_;refine Cg (zJ 0) λw hS=>?_;(exact bt hS)
section
variable (a b c d e f g:bz)
abbrev zF:Ξ:=[Γ 0,Γ 0,.string ⟨#[]⟩]
def SY:eV (bq zF 4) [(0,3,agg (cn a)),(3,3,agg (cn b)),(6,3,agg (cn c)),(9,3,agg (cn d))]=some ([a,b,c,d].map cn).flatten:=by simp[eV,bq,Value.cells,cn]
end
def fI(c:bY):List bz:=[iF c.table,iF c.key,iF (jh c.gone),tF c.val]
def QN(c:bY):SP 57 [agg (dh c)] [] (λu post=>post=[e_ u (fI c)]):=by
 refine Enzz λW F w hS=>?_;apply aZ9;delta aW ba ai bn;refine zu hS λcb w hS=>?_;unfold dh at hS;refine Gn λw hS=>?_;refine Cg (zJ c.table) λw hS=>?_;refine Cg (zJ c.key) λw hS=>?_;refine Cg (qK c.gone) λw hS=>?_;refine Cg (Zp c.val) λw hS=>?_;refine zA hS (SY (iF c.table) (iF c.key) (iF (jh c.gone)) (tF c.val)) λb w hS=>?_;have hS:=aY.full (n:=4) (sz:=3) rfl hS;exact⟨_,rfl,SL.bA (show SL W (e_ _ (fI c)::_) _ from hS) Xi⟩
def bJ(m:Int)(r:bf):Int × bf:=match r.bad,r.l with
 | false,f::l=>if f.kind=1/\0<=f.n/\f.n<=m then (f.n,⟨l,false⟩) else (0,⟨f::l,true⟩)
 | _,l=>(0,⟨l,true⟩)
def mY(r:bf):Bool × bf:=(decide ((bJ 1 r).1=1),(bJ 1 r).2)
section
variable {α β γ:Type}
def cZ(p:bf->α × bf):Prop:=∀r,r.bad=true->(p r).2.bad=true
structure fS(p q:bf->α × bf)(V:α->Prop):Prop where
 same:∀r,(q r).2.bad=false->p r=q r
 bad:∀r,(q r).2.bad=true->(p r).2.bad=true\/V (p r).1
def cL(p:bf->α × bf)(f:α->bf->β × bf)(r:bf):(α × β) × bf:=(((p r).1,(f (p r).1 (p r).2).1),(f (p r).1 (p r).2).2)
def eX(g:α->β)(p:bf->α × bf)(r:bf):β × bf:=(g (p r).1,(p r).2)
def cZ.seq{p:bf->α × bf}{f:α->bf->β × bf}(hp:cZ p)(hf:∀a,cZ (f a)):cZ (cL p f):=λr h=>hf _ _ (hp r h)
def cZ.map{p:bf->α × bf}(g:α->β)(hp:cZ p):cZ (eX g p):=λr h=>hp r h
def fS.seq{p q:bf->α × bf}{f g:α->bf->β × bf}{V:α->Prop}{U:β->Prop}(h:fS p q V)(k:∀a,fS (f a) (g a) U)(hg:∀a,cZ (g a))(hf:∀a,cZ (f a)):fS (cL p f) (cL q g) λx=>V x.1\/U x.2:=by
 refine⟨λr hr=>?_,λr hr=>?_⟩
 ·have h1:(q r).2.bad=false:=by
   cases hb:(q r).2.bad with
   | false=>rfl
   | true=>have h2:(g (q r).1 (q r).2).2.bad=false:=hr;rw[hg _ _ hb]at h2;cases h2
  unfold cL;rw[h.same r h1,(k _).same _ hr]
 cases h1:(q r).2.bad with
 | false=>
  have e:=h.same r h1;have C':(g (q r).1 (q r).2).2.bad=true:=hr;rcases (k _).bad _ C' with h2|h2
  ·left;unfold cL;rw[e];exact h2
  right;right;unfold cL;rw[e];exact h2
 | true=>
  rcases h.bad r h1 with h2|h2
  ·exact .inl (hf _ _ h2)
  exact .inr (.inl h2)
def fS.map{p q:bf->α × bf}{V:α->Prop}{U:β->Prop}(h:fS p q V)(g:α->β)(hv:∀x,V x->U (g x)):fS (eX g p) (eX g q) U:=
 ⟨λr hr=>by unfold eX;rw[h.same r hr],λr hr=>(h.bad r hr).imp id (hv _)⟩
def cZ.many{p:bf->α × bf}(hp:cZ p):∀i,cZ (bW p i)
 | 0,r,h=>h
 | i+1,r,h=>by unfold bW;rw[zzd h];exact h
def fS.many{p q:bf->α × bf}{V:α->Prop}(h:fS p q V)(hp:cZ p)(hq:cZ q):∀i,fS (bW p i) (bW q i) λl=>∃x∈l,V x
 | 0=>⟨λr _=>rfl,λr hr=>.inl hr⟩
 | i+1=>by
  have ih:=fS.many h hp hq i;refine⟨λr hr=>?_,λr hr=>?_⟩
  ·unfold bW at hr ⊢;cases hb:r.bad with
   | true=>simp[hb]at hr ⊢
   | false=>
    simp only[hb]at hr ⊢;have hr:(bW q i (q r).2).2.bad=false:=hr;have h1:(q r).2.bad=false:=by
     cases h1:(q r).2.bad with
     | false=>rfl
     | true=>rw[cZ.many hq i _ h1]at hr;cases hr
    rw[h.same r h1,ih.same _ hr]
  unfold bW at hr ⊢;cases hb:r.bad with
  | true=>left;simp[hb]
  | false=>
   simp only[hb]at hr ⊢;have hr:(bW q i (q r).2).2.bad=true:=hr;show (bW p i (p r).2).2.bad=true\/∃x∈(p r).1::(bW p i (p r).2).1,V x;cases h1:(q r).2.bad with
   | false=>
    rw[h.same r h1];rcases ih.bad _ hr with h2|⟨x,h2,h3⟩
    ·exact .inl h2
    exact .inr ⟨x,.tail _ h2,h3⟩
   | true=>
    rcases h.bad r h1 with h2|h2
    ·exact .inl (cZ.many hp i _ h2)
    exact .inr ⟨_,.head _,h2⟩
end
def DM(k:Int){r:bf}(h:r.bad=true):(iB k r).2.bad=true:=by unfold iB;rw[h]
def vQ:cZ cG:=λr h=>DM 1 h
def j_:cZ cJ:=λr h=>DM 2 h
def j9(m:Int):cZ (bm m):=λr h=>by unfold bm;split;rfl;exact vQ r h
def w9:cZ iu:=λr h=>j9 1 r h
def j5(m:Int):cZ (bJ m):=λr h=>by unfold bJ;rw[h]
def Kb:cZ mY:=λr h=>j5 1 r h
def Dr(m:Int)(f:bz)(l:List bz):bJ m ⟨f::l,false⟩=if f.kind=1/\0<=f.n/\f.n<=m then (f.n,⟨l,false⟩) else (0,⟨f::l,true⟩):=rfl
def LV(f:bz)(l:List bz):cG ⟨f::l,false⟩=if f.kind=1 then (f.n,⟨l,false⟩) else (0,⟨f::l,true⟩):=by
 unfold cG iB;simp only;split<;>rfl
def Dq(m:Int):fS cG (bJ m) λn=>¬(0<=n/\n<=m):=by
 refine⟨λr h=>?_,λr h=>?_⟩
 ·obtain⟨l,b⟩:=r;cases b with
  | true=>cases h
  | false=>
   cases l with
   | nil=>cases h
   | cons f l=>
    rw[Dr]at h ⊢
    rw[LV];split at h
    ·rename_i hc;rw[zzd hc,zzd hc.1]
    cases h
 obtain⟨l,b⟩:=r;cases b with
 | true=>exact .inl rfl
 | false=>
  cases l with
  | nil=>exact .inl rfl
  | cons f l=>
   rw[Dr]at h
   rw[LV];split at h
   ·cases h
   rename_i hc;by_cases hk:f.kind=1
   ·right;rw[zzd hk];exact λhh=>hc ⟨hk,hh⟩
   left;rw[zzb hk]
def Ee(m k:Int)(hk:k<=m):fS (bm m) (bJ k) λn=>¬(0<=n/\n<=k):=by
 have h0:=Dq k;have jl:∀r,(bJ k r).2.bad=false->0<=(bJ k r).1/\(bJ k r).1<=k:=λr h=>by
  obtain⟨l,b⟩:=r;unfold bJ at h ⊢;cases b<;>cases l<;>simp only at h ⊢
  ·cases h
  ·split at h
   ·rename_i hc;rw[zzd hc];exact⟨hc.2.1,hc.2.2⟩
   cases h
  ·cases h
  cases h
 refine⟨λr h=>?_,λr h=>?_⟩
 ·have:=jl r h;unfold bm;rw[h0.same r h,zzb (by omega)]
 unfold bm;split
 ·exact .inl rfl
 exact h0.bad r h
def P0:fS iu mY λ_=>False:=by
 have h0:=Ee 1 1 (yyv _);refine⟨λr h=>?_,λr h=>?_⟩
 ·unfold iu mY;rw[h0.same r h]
 left;rcases h0.bad r h with h1|h1
 ·exact h1
 show (bm 1 r).2.bad=true;unfold bm at h1 ⊢;split
 ·rfl
 rename_i hc;rw[zzb hc]at h1
 exact absurd ⟨by omega,by omega⟩ h1
def OM:fS cJ cJ λ_=>False:=⟨λr h=>rfl,λr h=>.inl h⟩
def p8(m:Int):fS (bm m) (bJ m) λ_=>False:=by
 have h0:=Ee m m (yyv _);refine⟨h0.same,λr h=>?_⟩;rcases h0.bad r h with h1|h1
 ·exact .inl h1
 left;unfold bm at h1 ⊢;split
 ·rfl
 rename_i hc;rw[zzb hc]at h1
 exact absurd ⟨by omega,by omega⟩ h1
def RR{b:Φ}{l:List bz}(h:dK b= .ok l):l.length<=32767:=by
 rw[xg]at h
 split at h
 ·have h1:=J9 (dP 32767 ⟨b,0⟩).1 (dP 32767 ⟨b,0⟩).2;have h2:=M4 32767 ⟨b,0⟩;cases h;omega
 cases h
def mw{m:Int}(hm:0<=m)(r:bf):0<=(bm m r).1/\(bm m r).1<=m:=by
 unfold bm;split
 ·exact⟨yyv _,hm⟩
 omega
def vR{m:Int}(hm:0<=m)(r:bf):0<=(bJ m r).1/\(bJ m r).1<=m:=by
 obtain⟨l,b⟩:=r;unfold bJ;cases b with
 | true=>exact⟨yyv _,hm⟩
 | false=>
  cases l with
  | nil=>exact⟨yyv _,hm⟩
  | cons f l=>
   simp only;split
   ·rename_i h;exact⟨h.2.1,h.2.2⟩
   exact⟨yyv _,hm⟩
def DC{α:Type}(one:bf->α × bf){i:Nat}{r:bf}(h:i=0\/r.bad=true):bW one i r=([],r):=by
 cases i with
 | zero=>rfl
 | succ i=>unfold bW;rw[zzd (by rcases h with h|h;cases h;exact h)]
def Mw{α:Type}(one:bf->α × bf){i:Nat}{r:bf}(h:r.bad=false):bW one (i+1) r=((one r).1::(bW one i (one r).2).1,(bW one i (one r).2).2):=by
 conv=>lhs;unfold bW
 rw[zzb (by rw[h];decide)]
structure gO{α:Type}(one:bf->α × bf)(n:Nat)(r0:bf)(xs:List α)(k:Nat)(r:bf):Prop where
 eq:bW one n r0=(xs++(bW one k r).1,(bW one k r).2)
 le:xs.length+k<=n
def gO.start{α:Type}(one:bf->α × bf)(n:Nat)(r:bf):gO one n r [] n r:=⟨rfl,by simp⟩
def gO.step{α:Type}{one:bf->α × bf}{n:Nat}{r0:bf}{xs:List α}{k:Nat}{r:bf}(h:gO one n r0 xs (k+1) r)(hb:r.bad=false):gO one n r0 (xs++[(one r).1]) k (one r).2:=
 ⟨by rw[h.eq,Mw one hb];simp,by have:=h.le;rw[zza,yyg];omega⟩
def gO.stop{α:Type}{one:bf->α × bf}{n:Nat}{r0:bf}{xs:List α}{k:Nat}{r:bf}(h:gO one n r0 xs k r)(hb:k=0\/r.bad=true):bW one n r0=(xs,r):=by
 rw[h.eq,DC one hb,zz4]
def XL(rp:Nat)(r:bf):SP 266 [Δ rp] [.ob (b8 rp r)] (bj (agg (kN (lQ r).1)) [.ob (b8 rp (lQ r).2)]):=by
 refine Enzz λW F w hS=>?_;apply aXy;delta ai bn;refine Gm λb w hS=>?_;refine Cg (zE rp r) λw hS=>?_;refine Cg (zo rp (cG r).2 8) λw hS=>?_;refine Cg (zE rp _) λw hS=>?_;refine Cg (yE rp _) λw hS=>?_;refine Cg (zZ rp _) λw hS=>?_;simp only[lQ];exact bt hS
def qG(rp:Nat)(r:bf):SP 267 [Δ rp] [.ob (b8 rp r)] (bj (agg (lY (nm r).1)) [.ob (b8 rp (nm r).2)]):=by
 refine Enzz λW F w hS=>?_;apply aXz;delta ai;refine Gm λb w hS=>?_;refine Cg (zo rp r 2) λw hS=>?_;refine Cg (zo rp _ 64) λw hS=>?_;refine Cg (zo rp _ 8) λw hS=>?_;refine Cg (zo rp _ 8) λw hS=>?_;refine Cg (zE rp _) λw hS=>?_;refine Cg (zE rp _) λw hS=>?_;refine Cg (yE rp _) λw hS=>?_;simp only[nm];exact bt hS
def sx(X:Μ)(H:aX)(b:Φ)(u:Ε)(post:Β):Prop:=match lX b with
 | .error e=>e≠0/\∃H',H.le H'/\u= .tuple #[agg (kn ⟨0,Θ,Θ⟩),Γ e]/\post=[X,.mem H']
 | .ok t=>∃x H',H.le H'/\u= .tuple #[agg (kn x),Γ 0]/\jF H' x t/\post=[X,.mem H']
def RV{b:Φ}{e:Int}(h:dK b= .error e):lX b= .error e:=by unfold lX;rw[h]
def RX{b:Φ}{l:List bz}(h:dK b= .ok l)(h2:¬((k9 ⟨l,false⟩).2.bad=false/\(k9 ⟨l,false⟩).2.l=[]/\fy (k9 ⟨l,false⟩).1=true)):lX b= .error 3:=by
 unfold lX xj;rw[h];simp only;rw[zzb h2]
def RW{b:Φ}{l:List bz}(h:dK b= .ok l)(h2:(k9 ⟨l,false⟩).2.bad=false/\(k9 ⟨l,false⟩).2.l=[]/\fy (k9 ⟨l,false⟩).1=true):lX b= .ok (k9 ⟨l,false⟩).1:=by
 unfold lX xj;rw[h];simp only;rw[zzd h2]
def uN{b:Φ}{e:Int}(h:dK b= .error e):e≠0:=by
 rw[xg]at h
 split at h
 ·cases h
 rename_i h2;cases h;exact h2
abbrev sD(v:Ε)(l:List fr):Μ:=.ob (aY v 379 5 l.length (l.map kN).flatten)
abbrev sC(v:Ε)(l:List gD):Μ:=.ob (aY v 382 7 l.length (l.map lY).flatten)
structure A_(l:List bz)(aR:Int)(r1:bf):Prop where
 aR:(k9 ⟨l,false⟩).1.aR=aR
 ops:(k9 ⟨l,false⟩).1.ops=(bW lQ (bm 4096 r1).1.toNat (bm 4096 r1).2).1
 iC:∀r2,(bW lQ (bm 4096 r1).1.toNat (bm 4096 r1).2).2=r2->(k9 ⟨l,false⟩).1.notes=(bW nm (bm 256 r2).1.toNat (bm 256 r2).2).1/\(k9 ⟨l,false⟩).2=(bW nm (bm 256 r2).1.toNat (bm 256 r2).2).2
def A_.is(l:List bz):A_ l (cG ⟨l,false⟩).1 (cG ⟨l,false⟩).2:=⟨rfl,rfl,λr2 h=>by subst h;exact⟨rfl,rfl⟩⟩
def QM(X:Μ)(H:aX)(v:Ε)(bs:Φ)(hv:bN X v bs):SP 201 [v] [X,.mem H] (sx X H bs):=by
 refine Enzz λW F w hS=>?_;apply aWy;delta aF ba bD ai bn aZ;refine Gb λzb w hS=>?_;refine Cc (yj X v bs hv) ?_;clear hS;rintro r post hq w hS;unfold lq at hq;cases hd:dK bs with
 | error e=>
  rw[hd]at hq
  obtain⟨rfl,rfl⟩:=hq;have he:=uN hd;(try simp only[app]at hS);refine Gp ?_
  refine za (λ_=>?_) (λh=>absurd he h);refine Gn λw hS=>?_;exact⟨[X,.mem H],by unfold sx;rw[RV hd];exact⟨he,H,aX.le_refl H,rfl,rfl⟩,aI hS⟩
 | ok l=>
  rw[hd]at hq
  obtain⟨lv,rfl,rfl⟩:=hq;(try simp only[app]at hS);refine Gp ?_
  refine Χ ?_;refine Cc (yF lv l) ?_;clear hS;rintro _ post ⟨rp,rfl,rfl⟩ w hS;try simp only[app]at hS
  refine Cc (zE rp ⟨l,false⟩) ?_;clear hS;rintro v1 post ⟨rfl,rfl⟩ w hS;try simp only[app]at hS
  have hI:=A_.is l;generalize (cG ⟨l,false⟩).1=aR at *
  generalize (cG ⟨l,false⟩).2=r1 at *
  have kY:=mw (m:=4096) (by decide) r1;refine Gp ?_;refine Gb λxb w hS=>?_;have hS:SL W (sD Θ []::_) _:=aY.nil hS;have hS:SL W (sC Θ []::_) _:=aY.nil hS;refine⟨λus w=>us=[]/\∃ov,SL W (sD ov (bW lQ (bm 4096 r1).1.toNat (bm 4096 r1).2).1::.ob (b8 rp (bW lQ (bm 4096 r1).1.toNat (bm 4096 r1).2).2)::sC Θ []::.pt xb [Γ aR,ov,Θ] 263::.pt zb [Γ 0,Θ,Θ] 263::X::.mem H::F) w,?_,?_⟩
  ·refine Cc (zo rp r1 4096) ?_;clear hS;rintro v1 post ⟨rfl,rfl⟩ w hS;try simp only[app]at hS
   generalize (bm 4096 r1).1=n1 at *
   generalize (bm 4096 r1).2=r2 at *
   refine⟨λus w=>∃(k:Nat) (ops:List fr) (r:bf) (ov:Ε),us=[Γ k]/\gO lQ n1.toNat r2 ops k r/\SL W (sD ov ops::.ob (b8 rp r)::sC Θ []::.pt xb [Γ aR,ov,Θ] 263::.pt zb [Γ 0,Θ,Θ] 263::X::.mem H::F) w,
    λus _=>match us with|[.int _ i]=>i.toNat|_=>0,⟨n1.toNat,[],r2,Θ,by rw[show ((n1.toNat:Nat):Int)=n1 by omega],gO.start _ _ _,aI hS⟩,?_⟩
   clear hS;rintro v8 w ⟨k,ops,r,ov,bM,hM,hS⟩;cases bM;have hle:=hM.le;refine bw (λh=>?_) (λh=>?_)
   ·refine Cg (yD rp r) λw hS=>?_;refine zr (λhb=>?_) (λhb=>?_)
    ·obtain⟨k,rfl⟩:∃j,k=j+1:=⟨k-1,by omega⟩;have hM:=hM.step hb;refine Gn λw hS=>?_;refine Cg (XL rp r) λw hS=>?_;refine Gm λb w hS=>?_;refine ye (n:=ops.length) (xs:=ops) (y:=(lQ r).1) (enc:=kN) hS Xr Xh B' (λx=>JY x) rfl (by omega) (by omega) λu w hS=>?_;have h1:=aY.one hS;refine Gn λw hS=>?_;refine⟨⟨k,_,_,u,by rw[show ((k+1:Nat):Int)-1=(k:Int) by omega],hM,?_⟩,by dsimp only;omega⟩;have hS:=hS.lS (x:=(lQ r).1);exact aI hS
    refine⟨rfl,ov,?_⟩;rw[hM.stop (.inr hb)];exact aI hS
   refine⟨rfl,ov,?_⟩;rw[hM.stop (.inl (by omega))];exact aI hS
  clear hS;rintro w ⟨_,ov,hS⟩;have dH:=hI.ops;obtain⟨Uv,bU⟩:=hI.iC _ rfl;generalize (bW lQ (bm 4096 r1).1.toNat (bm 4096 r1).2).1=ops at *
  generalize (bW lQ (bm 4096 r1).1.toNat (bm 4096 r1).2).2=r3 at *
  have kZ:=mw (m:=256) (by decide) r3;refine⟨λus w=>us=[]/\∃nv,SL W (sC nv (bW nm (bm 256 r3).1.toNat (bm 256 r3).2).1::.ob (b8 rp (bW nm (bm 256 r3).1.toNat (bm 256 r3).2).2)::sD ov ops::.pt xb [Γ aR,ov,nv] 263::.pt zb [Γ 0,Θ,Θ] 263::X::.mem H::F) w,?_,?_⟩
  ·refine Cc (zo rp r3 256) ?_;clear hS;rintro v1 post ⟨rfl,rfl⟩ w hS;try simp only[app]at hS
   generalize (bm 256 r3).1=n1 at *
   generalize (bm 256 r3).2=r2 at *
   refine⟨λus w=>∃(k:Nat) (iC:List gD) (r:bf) (nv:Ε),us=[Γ k]/\gO nm n1.toNat r2 iC k r/\SL W (sC nv iC::.ob (b8 rp r)::sD ov ops::.pt xb [Γ aR,ov,nv] 263::.pt zb [Γ 0,Θ,Θ] 263::X::.mem H::F) w,
    λus _=>match us with|[.int _ i]=>i.toNat|_=>0,⟨n1.toNat,[],r2,Θ,by rw[show ((n1.toNat:Nat):Int)=n1 by omega],gO.start _ _ _,aI hS⟩,?_⟩
   clear hS;rintro v8 w ⟨k,iC,r,nv,bM,hM,hS⟩;cases bM;have hle:=hM.le;refine bw (λh=>?_) (λh=>?_)
   ·refine Cg (yD rp r) λw hS=>?_;refine zr (λhb=>?_) (λhb=>?_)
    ·obtain⟨k,rfl⟩:∃j,k=j+1:=⟨k-1,by omega⟩;have hM:=hM.step hb;refine Gn λw hS=>?_;refine Cg (qG rp r) λw hS=>?_;refine Gm λb w hS=>?_;refine ye (n:=iC.length) (xs:=iC) (y:=(nm r).1) (enc:=lY) hS Xr Xh B9 Sm rfl (by omega) (by omega) λu w hS=>?_;have h1:=aY.one hS;refine Gn λw hS=>?_;refine⟨⟨k,_,_,u,by rw[show ((k+1:Nat):Int)-1=(k:Int) by omega],hM,?_⟩,by dsimp only;omega⟩;have hS:=hS.lS (x:=(nm r).1);exact aI hS
    refine⟨rfl,nv,?_⟩;rw[hM.stop (.inr hb)];exact aI hS
   refine⟨rfl,nv,?_⟩;rw[hM.stop (.inl (by omega))];exact aI hS
  clear hS;rintro w ⟨_,nv,hS⟩;rw[<- Uv,<- bU,<- dH]at hS
  have oS:=hI.aR;generalize ht:(k9 ⟨l,false⟩).1=t at *
  generalize hr:(k9 ⟨l,false⟩).2=r at *
  obtain⟨H1,dF,hO,hS⟩:=aY.freeze (SL.bA hS (t:=.mem H::sD ov t.ops::sC nv t.notes::.ob (b8 rp r)::.pt xb [Γ aR,ov,nv] 263::.pt zb [Γ 0,Θ,Θ] 263::X::F) Xi);obtain⟨H2,cT,hN,hS⟩:=aY.freeze hS;have hx:jF H2 ⟨aR,ov,nv⟩ t:=⟨oS.symm,hO.mono cT,hN⟩;have ep:=aX.le_trans dF cT;refine Cg (yC rp r) λw hS=>?_;have cU:¬(r.bad=false/\r.l=[]/\fy t=true)->∀{w:Ζ},SL W (X::.mem H2::F) w->∃post,sx X H bs (.tuple #[agg (kn ⟨0,Θ,Θ⟩),Γ 3]) post/\SL W (app post F) w:=λh w hS=>⟨[X,.mem H2],by unfold sx;rw[RX hd (by rw[ht,hr];exact h)];exact⟨by decide,H2,ep,rfl,rfl⟩,hS⟩;refine zr (λhb=>?_) (λhb=>?_)
  ·have hb:=yyj hb;refine Gn λw hS=>?_;exact cU (λh=>hb ⟨h.1,h.2.1⟩) (aI hS)
  have hb:=zzl hb;refine Gp ?_;refine Cg (yY H2 ⟨aR,ov,nv⟩ t hx) λw hS=>?_;refine zr (λhm=>?_) (λhm=>?_)
  ·refine Gn λw hS=>?_;exact cU (λh=>by rw[h.2.2]at hm;cases hm) (aI hS)
  have h1:=JX hx;refine zH hS Xh rfl ?_;refine zO hS Xu rfl rfl h1 λw hS=>?_;refine Gp ?_;exact⟨[X,.mem H2],by unfold sx;rw[RW hd (by rw[ht,hr];exact⟨hb.1,hb.2,hm⟩),ht];exact⟨⟨aR,ov,nv⟩,H2,ep,rfl,hx,rfl⟩,aI hS⟩
def gF(x:Nat × List Cell):zw:=gi λm:List (Int × Cell)=>zG (mI m x.2) [.ob (cM KI oG x.1 m)]
def gF.iff{W w:Ζ}{x:Nat × List Cell}{l:Β}:SL W (.ob (gF x)::l) w↔∃m,mI m x.2/\SL W (.ob (cM KI oG x.1 m)::l) w:=by
 unfold gF;simp only[SL.ex,SL.fact,zzq,zzp]
abbrev jA(b:Nat):Ε:=.map (some b)
def fT(r:Nat)(ts:List (List Cell)):zw:=gi λx:Nat × Nat × Ξ × Α=>zG (x.2.2.2.length=ts.length/\ts.length<=8/\oa ts)
 [.pt r [.slice (some ⟨x.1,0,none⟩) ts.length x.2.1] 306,.pt x.1 (x.2.2.2.map jA++x.2.2.1) 307,.ob (ze gF (x.2.2.2.zip ts))]
def fT.iff{W w:Ζ}{r:Nat}{ts:List (List Cell)}{l:Β}:SL W (.ob (fT r ts)::l) w↔∃(bv cap:Nat) (rest:Ξ) (bs:Α),(bs.length=ts.length/\ts.length<=8/\oa ts) /\
  SL W (.pt r [.slice (some ⟨bv,0,none⟩) ts.length cap] 306::.pt bv (bs.map jA++rest) 307::.ob (ze gF (bs.zip ts))::l) w:=by
 unfold fT;simp only[SL.ex,SL.fact,zzq,zzp];constructor
 ·rintro ⟨⟨bv,cap,rest,bs⟩,h1,h2⟩;exact⟨bv,cap,rest,bs,h1,h2⟩
 rintro ⟨bv,cap,rest,bs,h1,h2⟩;exact⟨⟨bv,cap,rest,bs⟩,h1,h2⟩
def O5:∀(bs:Α) (ts:List (List Cell)) (t:Nat) (b:Nat) (C:List Cell),bs[t]?=some b->(bs.zip ts).set t (b,C)=bs.zip (ts.set t C)
 | [],ts,t,b,C,h=>by simp at h
 | x::bs,[],t,b,C,h=>by simp
 | x::bs,y::ts,0,b,C,h=>by simp at h;subst h;simp
 | x::bs,y::ts,t+1,b,C,h=>by simp;exact O5 bs ts t b C (by simpa using h)
def wM.open{W w:Ζ}{bs:Α}{ts:List (List Cell)}{l:Β}{t:Nat}(ht:t<ts.length)(hb:t<bs.length)(h:SL W (.ob (ze gF (bs.zip ts))::l) w):
  ∃m,mI m ts[t]/\SL W (.ob (cM KI oG bs[t] m)::.ob (ze gF ((bs.zip ts).eraseIdx t))::l) w:=
 gF.iff.1 (ze.take h (x:=(bs[t],ts[t])) (by simp[List.getElem?_zip_eq_some,hb,ht]))
def wM.close{W w:Ζ}{bs:Α}{ts:List (List Cell)}{l:Β}{t:Nat}{C:List Cell}{m:List (Int × Cell)}(ht:t<ts.length)(hb:t<bs.length)(hm:mI m C)
  (h:SL W (.ob (cM KI oG bs[t] m)::.ob (ze gF ((bs.zip ts).eraseIdx t))::l) w):SL W (.ob (ze gF (bs.zip (ts.set t C)))::l) w:=by
 have h1:SL W (.ob (gF (bs[t],C))::.ob (ze gF ((bs.zip ts).eraseIdx t))::l) w:=gF.iff.2 ⟨m,hm,h⟩;have h2:=ze.put h1 (by simp;omega)
 rwa [O5 bs ts t bs[t] C (by simp[hb])]at h2
def Q6(a:Option Addr)(n cap:Nat)(t:Int):SP 353 [.slice a n cap,Γ t] [] (bj (.bool (decide (0<=t/\t<n))) []):=by
 refine Enzz λW F w hS=>?_;apply aZg;delta aF bc ai;refine bw (λh=>?_) (λh=>?_)
 ·refine Gp ?_;have:(decide (t<(n:Int)))=decide (0<=t/\t<n):=by simp[h]
  rw[this];(exact bt hS)
 have:(decide (0<=t/\t<(n:Int)))=false:=by simp;omega
 rw[this];(exact bt hS)
def qu(bv cap:Nat)(rest:Ξ)(bs:Α)(ts:List (List Cell))(o:fr)(hb:bs.length=ts.length):
  SP 316 [.slice (some ⟨bv,0,none⟩) ts.length cap,agg (kN o)] [.pt bv (bs.map jA++rest) 307,.ob (ze gF (bs.zip ts))]
   (bj (.bool (iZ ts o).2) [.pt bv (bs.map jA++rest) 307,.ob (ze gF (bs.zip (iZ ts o).1))]):=by
 refine Enzz λW F w hS=>?_;apply aYy;delta aF aW ba bD bc ai bn;obtain⟨aR,table,key,gone,val⟩:=o;refine⟨_,rfl,zD hS ?_⟩;clear hS;intro p w hS;simp only[kN]at hS;refine Gp ?_;refine Cg (Q6 (some ⟨bv,0,none⟩) ts.length cap table) λw hS=>?_;refine zr (λhe=>?_) (λhe=>?_)
 ·have hp:iZ ts ⟨aR,table,key,gone,val⟩=(ts,false):=by
   simp only[yyq]at he;unfold iZ;by_cases h0:table<0
   ·simp[h0]
   have:ts[table.toNat]?=none:=yys (by omega);simp[h0,this]
  rw[hp];(exact bt hS)
 have jk:=zzl he;obtain⟨t,rfl⟩:∃t:Nat,table=t:=⟨table.toNat,by omega⟩;have ht:t<ts.length:=by omega
 have Af:t<bs.length:=by omega
 have xO:(bs.map jA++rest)[0+t*1]?=some (jA bs[t]):=by simp[zzs,Af]
 obtain⟨m,hm,hS⟩:=wM.open ht Af (SL.bA hS (t:=.ob (ze gF (bs.zip ts))::.pt p [Γ aR,Γ t,Γ key,.bool gone,.string val] 379::.pt bv (bs.map jA++rest) 307::F) Xi);refine⟨λvs w=>vs=[]/\(∀c,py ts[t] key=some c->¬aR<c.aR)/\SL W (.ob (cM KI oG bs[t] m)::.ob (ze gF ((bs.zip ts).eraseIdx t))::.pt p [Γ aR,Γ t,Γ key,.bool gone,.string val] 379::.pt bv (bs.map jA++rest) 307::F) w,?_,?_⟩
 ·refine zQ hS ?_;clear hS;intro w hS;refine Gp ?_;refine zM ht (zT hS Xh xO ?_);refine Gp ?_;refine Yu (z:=agg (oH ⟨0,0,false,⟨#[]⟩⟩)) hS Xh (mf .i64) vv1 xxm uuy ?_;rw[hm.get];cases hg:py ts[t] key with
  | none=>
   simp only[vvd,ww8,Option.isSome_none];refine Gm λb w hS=>?_;refine zT hS Xh xO (qP ?_);refine Gp ?_;refine Yu (z:=agg (oH ⟨0,0,false,⟨#[]⟩⟩)) hS Xh (mf .i64) vv1 xxm uuy ?_;rw[hm.get,hg];simp only[vvd,ww8,Option.isSome_none];refine⟨trivial,?_⟩;simp only[oH];refine Gn λw hS=>?_;exact⟨by simp,λc hc=>(by cases hc),(by exact aI hS)⟩
  | some c=>
   simp only[yyn,xx9,Option.isSome_some];refine Gm λb w hS=>?_;refine zT hS Xh xO (qP ?_);refine Gp ?_;refine Yu (z:=agg (oH ⟨0,0,false,⟨#[]⟩⟩)) hS Xh (mf .i64) vv1 xxm uuy ?_;rw[hm.get,hg];simp only[yyn,xx9,Option.isSome_some];refine⟨trivial,?_⟩;simp only[oG,oH];refine Gn λw hS=>?_;refine za (λhl=>?_) (λhl=>?_)
   ·have hp:mn ts[t] ⟨aR,t,key,gone,val⟩=(ts[t],false):=by unfold mn;simp only[hg,hl,vvj]
    rw[NH (t:=t) rfl ht,hp];have hS:=wM.close (l:=.pt bv (bs.map jA++rest) 307::F) ht Af hm (by exact aI hS);(exact bt hS)
   exact⟨by simp,λc' hc=>(by cases hc;exact hl),(by exact aI hS)⟩
 clear hS;rintro w ⟨-,nV,hS⟩;have hp:mn ts[t] ⟨aR,t,key,gone,val⟩=(jo ts[t] (cellOf ⟨aR,t,key,gone,val⟩),true):=by
  unfold mn;cases hg:py ts[t] key with
  | none=>simp only
  | some c=>simp only[nV c hg,wwq]
 rw[NH (t:=t) rfl ht,hp];refine Gm λb w hS=>?_;refine⟨λvs w=>vs=[]/\SL W (.pt b (oH (cellOf ⟨aR,t,key,gone,val⟩)) 474::.ob (cM KI oG bs[t] m)::.ob (ze gF ((bs.zip ts).eraseIdx t))::.pt p [Γ aR,Γ t,Γ key,.bool gone,.string val] 379::.pt bv (bs.map jA++rest) 307::F) w,?_,?_⟩
 ·refine Gp ?_;cases gone with
  | true=>
   refine zt ?_;refine Gn λw hS=>?_;simp only[cellOf,oH,vvj];exact aI hS
  | false=>
   refine zs ?_;refine⟨rfl,?_⟩;simp only[cellOf,oH,Bool.false_eq_true,wwq];exact aI hS
 clear hS;rintro w ⟨-,hS⟩;refine zQ hS ?_;clear hS;intro w hS;refine Gp ?_;refine zM ht (zT hS Xh xO ?_);refine Gp ?_;refine qc (val:=oG) hS Xu (mf .i64) vv1 xxm ?_;clear hS;intro u w hS;have th:mI (eH m key (cellOf ⟨aR,t,key,gone,val⟩)) (jo ts[t] (cellOf ⟨aR,t,key,gone,val⟩)):=hm.put (cellOf ⟨aR,t,key,gone,val⟩);have hS:=wM.close (l:=.pt bv (bs.map jA++rest) 307::F) ht Af th (by exact aI hS);(exact bt hS)
def Ti(n:Int)(h:n<1\/8<n):SP 145 [Γ n] [] (bj (.tuple #[.pointer none,Γ 1]) []):=by
 refine Enzz λW F w hS=>?_;apply OW;delta aF bd cq ai bC aZ;refine bw (λh1=>?_) (λh1=>?_)
 ·(exact bt hS)
 refine Gp ?_;refine za (λh2=>?_) (λh2=>by omega);(exact bt hS)
def Tj(n:Nat)(h1:1<=n)(h2:n<=8):SP 145 [Γ n] [] (λv post=>∃r:Nat,v= .tuple #[Δ r,Γ 0]/\post=[.ob (fT r (List.replicate n []))]):=by
 refine Enzz λW F w hS=>?_;apply OW;delta aF bd cq ai bC aZ;refine Gp ?_;refine Χ ?_;refine Gp ?_;refine Χ ?_;refine Gp ?_;refine⟨_,rfl,zD hS ?_⟩;clear hS;intro r w hS;have hS:=aY.nil (t:=307) (sz:=1) hS;have hS:=ze.nil (A:=gF) hS;refine⟨λvs w=>∃(k:Nat) (v:Ε) (bs:Α),vs=[Γ k]/\k<=n/\bs.length=k/\SL W (.ob (ze gF (bs.zip (List.replicate k [])))::.ob (aY v 307 1 k (bs.map jA))::.pt r [v] 306::F) w,λvs _=>match vs with|[.int _ k]=>(n-k).toNat|_=>0,⟨0,_,[],rfl,by omega,rfl,hS⟩,?_⟩;clear hS;rintro wu w ⟨k,v,bs,b9,hk,CH,hS⟩;cases b9;refine bw (λh=>?_) (λh=>?_)
 ·refine Gp ?_;refine ai5 (key:=KI) (val:=oG) (p:=λb w'=>zk (bq [.map none] 1) [(0,1,(.map (some b)))] 307 1 w' _) hS ?_;clear hS;intro b w hS;have hS:SL W (.ob (gF (b,[]))::_) w:=gF.iff.2 ⟨[],mI.nil,hS⟩;refine zA (cells:=[jA b]) hS (by simp[eV,bq,Value.cells]) ?_;clear hS;intro b2 w hS;refine zx (n:=k) (m:=1) (cells:=bs.map jA) hS Xr (fC (cs:=[jA b]) hS .hd rfl) rfl rfl (by simp[Value.oneCell']) (by omega) (by omega) ?_;clear hS;intro v' w hS;have h1:=aY.one hS;have hS:=ze.snoc (A:=gF) (x:=(b,[])) (xs:=bs.zip (List.replicate k [])) (l:=.ob (aY v' 307 1 (k+1) (bs.map jA++[jA b]))::.pt r [v] 306::F) (by exact aI hS);refine Gn λw hS=>?_;refine⟨⟨k+1,v',bs++[b],rfl,(by omega),(by simp[CH]),?_⟩,(by dsimp only;omega)⟩;have e:(bs++[b]).zip (List.replicate (k+1) ([]:List Cell))=bs.zip (List.replicate k [])++[(b,[])]:=by
   rw[List.replicate_succ',List.zip_append (by simp[CH])];rfl
  rw[e,zzx,zzj,xxa];exact aI hS
 obtain rfl:k=n:=by omega
 rcases aY.open (Has.front hS Xr) with ⟨_,h0,_⟩|⟨bv,cap,rest,rfl,hc,hl,hr,hS⟩
 ·omega
 have hS:SL W (.ob (fT r (List.replicate k []))::F) w:=fT.iff.2 ⟨bv,cap,rest,bs,⟨by simp[CH],by simpa using h2,λC hC=>by
  obtain⟨_,rfl⟩:=vv2.1 hC;exact⟨List.Pairwise.nil,by simp⟩⟩,by rw[xxd];exact aI hS⟩
 exact⟨_,⟨r,rfl,rfl⟩,hS⟩
def Y0(r:Nat)(ts:List (List Cell)):SP 269 [Δ r] [.ob (fT r ts)] (bj (Γ ts.length) [.ob (fT r ts)]):=by
 refine Enzz λW F w hS=>?_;apply aX1;delta bd;obtain⟨bv,cap,rest,bs,hA,hS⟩:=fT.iff.1 hS;refine Gp ?_;have hS:=fT.iff.2 ⟨bv,cap,rest,bs,hA,hS⟩;(exact bt hS)
def Qy(H:aX)(r:Nat)(ts:List (List Cell))(v:Ε)(ops:List fr)(hv:bK H 5 v ops.length (ops.map kN).flatten)(hn:ops.length<=1000000)(hk:∀o∈ops,jL o.key):
  SP 271 [Δ r,v] [.mem H,.ob (fT r ts)] (bj (Γ ((dQ ts ops).2:Nat)) [.mem H,.ob (fT r (dQ ts ops).1)]):=by
 refine Enzz λW F w hS=>?_;apply aX4;delta aF bd ai bn;refine zh hv ?_;refine⟨λvs w=>∃k:Nat,vs=[Γ ((dQ ts (ops.take k)).2:Nat),Γ k]/\k<=ops.length/\SL W (.mem H::.ob (fT r (dQ ts (ops.take k)).1)::F) w,λvs _=>match vs with|[_,.int _ k]=>(ops.length-k).toNat|_=>0,⟨0,rfl,by omega,hS⟩,?_⟩;clear hS;rintro v5 v10 w ⟨k,b9,jm,hS⟩;cases b9;refine bw (λh=>?_) (λh=>?_)
 ·have fm:k<ops.length:=by omega
  have hx:ops[k]?=some ops[k]:=by simp[fm]
  refine zy hS Xh Sn hv hx fm ?_;obtain⟨bv,cap,rest,bs,hA,hS⟩:=fT.iff.1 (SL.bA hS (t:=.ob (fT r (dQ ts (ops.take k)).1)::.mem H::F) Xi);refine zD hS ?_;clear hS;intro p w hS;refine zO (vs:=kN ops[k]) hS Xu rfl rfl (JY _) ?_;clear hS;intro w hS;refine Gn λw hS=>?_;refine Cc (qu bv cap rest bs (dQ ts (ops.take k)).1 ops[k] hA.1) ?_;clear hS;rintro v post ⟨rfl,rfl⟩ w hS;try simp only[app]at hS
  have rV:dQ ts (ops.take (k+1))=((iZ (dQ ts (ops.take k)).1 ops[k]).1,(dQ ts (ops.take k)).2+if (iZ (dQ ts (ops.take k)).1 ops[k]).2 then 1 else 0):=by
   rw[zzh fm,XO];simp[dQ]
  have hle:(dQ ts (ops.take k)).2<=k:=xx3 (XP _ _) (by simp;omega);have hS:=fT.iff.2 ⟨bv,cap,rest,bs,⟨by rw[AK];exact hA.1,by rw[AK];exact hA.2.1,Nl hA.2.2 (hk _ (zzi fm))⟩,(by rw[AK];exact SL.bA hS (t:=.pt r [.slice (some ⟨bv,0,none⟩) (dQ ts (ops.take k)).1.length cap] 306::.pt bv (bs.map jA++rest) 307::.ob (ze gF (bs.zip (iZ (dQ ts (ops.take k)).1 ops[k]).1))::.mem H::F) Xi)⟩;cases j1:(iZ (dQ ts (ops.take k)).1 ops[k]).2 with
  | true=>
   refine zt ?_;refine Gp ?_;refine⟨⟨k+1,(by rw[rV,j1];simp),(by omega),(by rw[rV];exact aI hS)⟩,(by dsimp only;omega)⟩
  | false=>
   refine zs ?_;refine Gp ?_;refine⟨⟨k+1,(by rw[rV,j1];simp),(by omega),(by rw[rV];exact aI hS)⟩,(by dsimp only;omega)⟩
 obtain rfl:k=ops.length:=by omega
 rw[zz6]at hS ⊢
 (exact bt hS)
structure cx where
 file:Int
 first:Int
 size:Nat
 es:List ka
 a:Option Addr
 c:Nat
def cx.lv(x:cx):Ε:=.slice x.a x.es.length x.c
def cx.pl(x:cx):bR:=⟨x.file,x.first,x.size,kJ x.es⟩
def dI(x:cx):Ξ:=[Γ x.file,Γ x.first,Γ x.size,x.lv]
def A5(x:cx):(dI x).length=4:=rfl
def sK(es:List ka):(kJ es).length=es.length:=by simp[kJ]
def cB(x:cx):zw:=zG True [.ob (bP x.lv 34 1 x.es.length (eC x.es)),.ob (ze eI x.es)]
def cB.iff{W w:Ζ}{x:cx}{l:Β}:SL W (.ob (cB x)::l) w↔SL W (.ob (bP x.lv 34 1 x.es.length (eC x.es))::.ob (ze eI x.es)::l) w:=by
 unfold cB;simp only[SL.fact,zzq,zzp,vv7]
def dE(v:Ε)(t:Option ur):zw:=match t with
 | none=>zG (v= .pointer none) []
 | some x=>gi λb:Nat=>zG (v= Δ b) [.pt b [Γ x.file,Γ x.lG,.bool x.fresh] 435]
def uz{W w:Ζ}{v:Ε}{l:Β}:SL W (.ob (dE v none)::l) w↔v= .pointer none/\SL W l w:=by
 unfold dE;simp only[SL.fact,zzp]
def Bl{W w:Ζ}{v:Ε}{x:ur}{l:Β}:SL W (.ob (dE v (some x))::l) w↔∃b:Nat,v= Δ b/\SL W (.pt b [Γ x.file,Γ x.lG,.bool x.fresh] 435::l) w:=by
 unfold dE;simp only[SL.ex,SL.fact,zzq,zzp]
abbrev dc(sv tv:Ε)(dp:Nat)(base size:Int):Ξ:=[sv,Δ dp,Γ base,Γ size,tv]
abbrev cW(sv:Ε)(xs:List cx):Μ:=.ob (bP sv 291 4 xs.length (xs.map dI).flatten)
abbrev ES(lp dp:Nat)(base size:Int)(t:Option ur)(sv tv:Ε)(xs:List cx):Β:=[.pt lp (dc sv tv dp base size) 204,cW sv xs,.ob (ze cB xs),.ob (dE tv t)]
def bQ(lp dp:Nat)(g:b6):zw:=gi λx:Ε × Ε × List cx=>zG (x.2.2.map cx.pl=g.a_) (ES lp dp g.base g.size g.cE x.1 x.2.1 x.2.2)
def bQ.iff{W w:Ζ}{lp dp:Nat}{g:b6}{l:Β}:SL W (.ob (bQ lp dp g)::l) w↔∃sv tv xs,xs.map cx.pl=g.a_/\SL W (.pt lp (dc sv tv dp g.base g.size) 204::cW sv xs::.ob (ze cB xs)::.ob (dE tv g.cE)::l) w:=by
 unfold bQ ES;simp only[SL.ex,SL.fact,zzq,zzp];exact⟨λ⟨x,h1,h2⟩=>⟨x.1,x.2.1,x.2.2,h1,h2⟩,λ⟨a,b,c,h1,h2⟩=>⟨(a,b,c),h1,h2⟩⟩
section
variable {W w:Ζ} {l:Β}
def Yv{v:Ε}{xs:List cx}{j:Nat}{k:IntKind}{K:Ε->Prop}(h:SL W l w)(m:Has (cW v xs) l)(hj:j<xs.length)(hK:K (.agg (dI xs[j]).toArray)):zj 4 v (.int k (j:Int)) λp=>zf 4 p w K:=by
 refine Zc h m hj λb o hb=>⟨⟨b,o,none⟩,dI xs[j],rfl,rfl,λi u hu=>?_,hK⟩;rw[zz7];have hi:i<4:=(zzf.1 hu).1;exact hb i u hi (xy A5 hj hu)
def N7{v u:Ε}{xs:List cx}{i j:Nat}{k:IntKind}{K:Ε->Prop}(h:SL W l w)(m:Has (cW v xs) l)(hj:j<xs.length)(hu:(dI xs[j])[i]?=some u)(hK:K u):zj 4 v (.int k (j:Int)) λp=>zm i p λq=>bx q w K:=by
 refine Zc h m hj λb o hb=>?_;refine yR ?_;have hi:i<4:=(zzf.1 hu).1;exact⟨_,u,rfl,hb i u hi (xy A5 hj hu),hK⟩
end
def Kf(xs:List cx):(xs.map dI).flatten.length=xs.length*4:=by
 induction xs with
 | nil=>rfl
 | cons x xs ih=>simp[ih,A5];omega
def yP(f n s:Int)(a:Option Addr)(k c:Nat)(h : -1000000000000000<=n/\n<=1000000000000000)(hk:k<=1000000000000000):SP 191 [.agg #[Γ f,Γ n,Γ s,.slice a k c]] [] (bj (Γ (n+k)) []):=by
 refine Enzz λW F w hS=>?_;apply aWo;delta aW;refine⟨[Γ f,Γ n,Γ s,.slice a k c],rfl,?_⟩;refine Gm λb w hS=>?_;(exact bt hS)
def ZG(x:cx){N:Nat}(h:iM x.pl N)(hN:N<=1000000000000000):SP 191 [.agg (dI x).toArray] [] (bj (Γ x.pl.next) []):=by
 have h1:=h.n0;have h2:=h.n1;have h3:=h.ln;have e:x.pl.next=x.first+x.es.length:=by simp[bR.next,cx.pl,sK]
 rw[e];have h3:x.es.length<=N:=by simpa [cx.pl,sK] using h3
 exact yP x.file x.first x.size x.a x.es.length x.c (by simp only[cx.pl]at h1 h2;omega) (by omega)
def yd(lp:Nat)(cs:Ξ)(t:Ι)(sv:Ε)(xs:List cx)(j2:cs[0]?=some sv){N:Nat}(h:∀s∈xs.map cx.pl,iM s N)(hN:N<=1000000000000000)(hl:xs.length<=1000000000000000):
  SP 135 [Δ lp] [.pt lp cs t,cW sv xs] (bj (Γ (bF (xs.map cx.pl))) [.pt lp cs t,cW sv xs]):=by
 refine Enzz λW F w hS=>?_;apply aRq;delta aF bd ai;refine Gp ?_;refine zT hS .hd j2 ?_;refine yq hS Xh ?_;refine Gp ?_;have hh:=rO h;refine za (λh0=>?_) (λh0=>?_)
 ·have:xs=[]:=zzm (by omega);subst this;(exact bt hS)
 refine Gn λw hS=>?_;refine zT hS .hd j2 ?_;refine Gp ?_;refine zT hS .hd j2 ?_;refine yq hS Xh ?_;refine Gp ?_;have e:((xs.length:Nat):Int)-1=((xs.length-1:Nat):Int):=by omega
 rw[e];have hj:xs.length-1<xs.length:=by omega
 refine Yv hS Xh hj ?_;have hm:(xs[xs.length-1]'hj).pl∈xs.map cx.pl:=zz1.2 ⟨_,zzi hj,rfl⟩;have hg:bF (xs.map cx.pl)=(xs[xs.length-1]'hj).pl.next-1:=by
  unfold bF;rw[uuz,wwv,zzc hj];rfl
 have br:=h _ hm;rw[hg]at hh ⊢
 refine Cg (ZG _ br hN) λw hS=>?_;exact bt hS
def QG(lp:Nat)(cs:Ξ)(t:Ι)(sv:Ε)(xs:List cx)(j2:cs[0]?=some sv)(hl:xs.length<=1000000000000000):
  SP 136 [Δ lp] [.pt lp cs t,cW sv xs] (bj (Γ (cX (xs.map cx.pl))) [.pt lp cs t,cW sv xs]):=by
 refine Enzz λW F w hS=>?_;apply aRr;delta aF bd aW ai;refine Gp ?_;refine zT hS .hd j2 ?_;refine yq hS Xh ?_;refine bw (λh0=>?_) (λh0=>?_)
 ·have:xs=[]:=zzm (by omega);subst this;(exact bt hS)
 cases xs with
 | nil=>simp at h0
 | cons x xs=>
  refine Gp ?_;refine zT hS .hd j2 ?_;refine N7 (j:=0) (i:=1) hS Xh (by simp) (u:=Γ x.first) rfl ?_;exact⟨_,⟨rfl,rfl⟩,hS⟩
def ze.back{W w:Ζ}{l:Β}{α:Type}{A:α->zw}{xs:List α}{t:Nat}{x:α}(h:SL W (.ob (A x)::.ob (ze A (xs.eraseIdx t))::l) w)(hx:xs[t]?=some x):SL W (.ob (ze A xs)::l) w:=by
 obtain⟨ht,e⟩:=zzf.1 hx;have:=ze.put h ht
 rwa [<- e,List.set_getElem_self]at this
def bat(x:cx):x.pl.next=x.first+x.es.length:=by simp[bR.next,cx.pl,sK]
def X3(xs:List cx)(i:Nat)(n:Int):kA ((xs.drop i).map cx.pl) n=match xs[i]? with
 | none=>none
 | some x=>if x.first<=n/\n<x.pl.next then (kJ x.es)[(n-x.first).toNat]? else kA ((xs.drop (i+1)).map cx.pl) n:=by
 cases h:xs[i]? with
 | none=>
  have:xs.drop i=[]:=yyt (by rw[List.getElem?_eq_none_iff]at h;exact h);rw[this];rfl
 | some x=>
  obtain⟨hi,e⟩:=zzf.1 h;rw[yya hi,e];rfl
def wI(pre:Β)(o:Option Φ)(r:Ε)(post:Β):Prop:=match o with
 | none=>r= .tuple #[Θ,Γ 5]/\post=pre
 | some b=>∃u,r= .tuple #[u,Γ 0]/\post= .ob (aY u 5 1 b.length (b.map bo))::pre
def qJ(lp:Nat)(cs:Ξ)(t:Ι)(sv:Ε)(xs:List cx)(n:Int)(j2:cs[0]?=some sv){N:Nat}(h:∀s∈xs.map cx.pl,iM s N)(hN:N<=1000000000000000)(hl:xs.length<=1000000000000000)(hn : -9000000000000000000<=n/\n<=9000000000000000000):
  SP 200 [Δ lp,Γ n] [.pt lp cs t,cW sv xs,.ob (ze cB xs)] (wI [.pt lp cs t,cW sv xs,.ob (ze cB xs)] (kA (xs.map cx.pl) n)):=by
 refine Enzz λW F w hS=>?_;apply aWx;delta aF bd aW ai aZ;refine Gp ?_;refine zT hS .hd j2 ?_;refine yq hS Xh ?_;refine⟨λvs w=>∃i:Nat,i<=xs.length/\vs=[Γ i]/\kA (xs.map cx.pl) n=kA ((xs.drop i).map cx.pl) n/\SL W (.pt lp cs t::cW sv xs::.ob (ze cB xs)::F) w,λvs _=>match vs with
  | [.int _ i]=>xs.length-i.toNat
  | _=>0,⟨0,by omega,rfl,rfl,hS⟩,?_⟩
 clear hS;rintro v1 w1 ⟨i,hi,hv,hr,hS⟩;cases hv;rw[X3]at hr
 refine bw (λh0=>?_) (λh0=>?_)
 ·have hj:i<xs.length:=by omega
  have hx:xs[i]?=some xs[i]:=zzc hj;refine Yv hS Xh hj ?_;have br:=h _ (zz1.2 ⟨_,zzi hj,rfl⟩);rw[hx]at hr
  simp only at hr;generalize xs[i]=x at *
  have pF:=bat x;unfold dI cx.lv;refine Gm λb w hS=>?_;refine za (λh1=>?_) (λh1=>?_)
  ·refine Gp ?_;refine Cg (ZG x br hN) λw hS=>?_;refine za (λh2=>?_) (λh2=>?_)
   ·rw[zzd ⟨h1,h2⟩]at hr
    have CT:=br.n0;have T_:=br.n1;simp only[cx.pl]at CT T_;refine Gp ?_;obtain⟨j,Ue⟩:=xxo (show 0<=n-x.first by omega);have l8:j<x.es.length:=by omega
    rw[Ue]at hr ⊢
    have hS:=ze.take (SL.bA hS (t:=.ob (ze cB xs)::.pt lp cs t::cW sv xs::F) Xi) hx;have hS:=cB.iff.1 hS;unfold cx.lv at hS;refine Zc (j:=j) hS .hd l8 λb o hb=>?_;have KW:x.es[j]?=some x.es[j]:=zzc l8;have kx:(eC x.es)[j*1+0]?=some x.es[j].1:=by simp[eC,l8]
    refine⟨_,_,rfl,hb 0 _ (by omega) kx,?_⟩;have hS:=ze.take (SL.bA hS (t:=.ob (ze eI x.es)::.ob (bP (.slice x.a x.es.length x.c) 34 1 x.es.length (eC x.es))::.ob (ze cB (xs.eraseIdx i))::.pt lp cs t::cW sv xs::F) Xi) KW;have s9:x.es[j].2.length<=1048576:=br.bl _ (zz1.2 ⟨_,zzi l8,rfl⟩);have TG:(kJ x.es)[((j:Int)).toNat]?=some x.es[j].2:=by simp[kJ,l8]
    rw[TG]at hr
    rw[hr];generalize x.es[j]=e at *
    have hR:bN (.ob (eI e)) e.1 e.2:=bN.own;obtain⟨ea,ec,ee,_⟩:=hR.sl hS .hd;have nP:=hR;rw[ee]at nP ⊢
    refine Zb (cs:=e.2.map bo) hS (λw' c eF=>nP.src eF (.tl .hd)) (by simp) (mB _) (by omega) ?_;clear hS;intro u w hS _;have hS:=ze.back (SL.bA hS (t:=.ob (eI e)::.ob (ze eI (x.es.eraseIdx j))::.ob (bP (.slice x.a x.es.length x.c) 34 1 x.es.length (eC x.es))::.ob (aY u 5 1 e.2.length (e.2.map bo))::.ob (ze cB (xs.eraseIdx i))::.pt lp cs t::cW sv xs::F) Xi) KW;have hS:=(cB.iff (x:=x)).2 (SL.bA hS (t:=.ob (bP (.slice x.a x.es.length x.c) 34 1 x.es.length (eC x.es))::.ob (ze eI x.es)::.ob (aY u 5 1 e.2.length (e.2.map bo))::.ob (ze cB (xs.eraseIdx i))::.pt lp cs t::cW sv xs::F) Xi);have hS:=ze.back (SL.bA hS (t:=.ob (cB x)::.ob (ze cB (xs.eraseIdx i))::.ob (aY u 5 1 e.2.length (e.2.map bo))::.pt lp cs t::cW sv xs::F) Xi) hx;exact⟨.ob (aY u 5 1 e.2.length (e.2.map bo))::[.pt lp cs t,cW sv xs,.ob (ze cB xs)],⟨u,rfl,rfl⟩,aI hS⟩
   rw[zzb (by omega)]at hr
   refine Gp ?_;refine⟨⟨i+1,by omega,rfl,hr,aI hS⟩,?_⟩;simp only[zzy];omega
  rw[zzb (by omega)]at hr
  refine Gp ?_;refine⟨⟨i+1,by omega,rfl,hr,aI hS⟩,?_⟩;simp only[zzy];omega
 have hx:xs[i]?=none:=yys (by omega);rw[hx]at hr
 rw[hr];exact⟨_,⟨rfl,rfl⟩,hS⟩
def Wx(a_:List bR)(base size:Int)(x:ur)(d:DS):cY ⟨a_,base,size,some x⟩ d =
  ((⟨a_,base,size,if (if x.fresh=true then d.remove x.file else d.cut x.file x.lG).2=0 then none else some x⟩,(if x.fresh=true then d.remove x.file else d.cut x.file x.lG).1),(if x.fresh=true then d.remove x.file else d.cut x.file x.lG).2):=rfl
def qB(lp dp:Nat)(g:b6)(d:DS)(N:Nat)(br:d.Ok N)(hN:N<=140737488355328)(dH:d.ops<=100000):
  SP 275 [Δ lp] [.ob (bQ lp dp g),.ob (bk dp d)] (bj (Γ (cY g d).2) [.ob (bQ lp dp (cY g d).1.1),.ob (bk dp (cY g d).1.2)]):=by
 refine Enzz λW F w hS=>?_;apply aX8;delta aF bd cq ai bC;obtain⟨sv,tv,xs,hx,hS⟩:=bQ.iff.1 hS;obtain⟨a_,base,size,cE⟩:=g;simp only at hx hS;cases cE with
 | none=>
  rw[show cY ⟨a_,base,size,none⟩ d=((⟨a_,base,size,none⟩,d),0) from rfl];obtain⟨rfl,hS⟩:=uz.1 (SL.bA hS (t:=.ob (dE tv none)::.pt lp (dc sv tv dp base size) 204::cW sv xs::.ob (ze cB xs)::.ob (bk dp d)::F) Xi);refine Gp ?_;refine zt ?_;have hS:=(uz (v:=.pointer none)).2 ⟨rfl,hS⟩;exact⟨_,⟨rfl,rfl⟩,bQ.iff.2 ⟨sv,.pointer none,xs,hx,aI hS⟩⟩
 | some x=>
  obtain⟨tb,rfl,hS⟩:=Bl.1 (SL.bA hS (t:=.ob (dE tv (some x))::.pt lp (dc sv tv dp base size) 204::cW sv xs::.ob (ze cB xs)::.ob (bk dp d)::F) Xi);rw[Wx];refine Gp ?_;refine zs ?_;refine Gp ?_;refine Zl (λhf=>?_) (λhf=>?_)
  ·simp only[zzd hf];refine Gn λw hS=>?_;refine Cg (y9 dp d N br dH x.file) λw hS=>?_;refine za (λh=>?_) (λh=>?_)
   ·rw[zzd h];refine Gn λw hS=>?_;have hS:=(uz (v:=.pointer none)).2 ⟨rfl,hS⟩;exact⟨_,⟨rfl,rfl⟩,bQ.iff.2 ⟨sv,.pointer none,xs,hx,aI hS⟩⟩
   rw[zzb h];have hS:=(Bl (v:=Δ tb) (x:=x)).2 ⟨tb,rfl,SL.bA hS (t:=.pt tb [Γ x.file,Γ x.lG,.bool x.fresh] 435::.pt lp (dc sv (Δ tb) dp base size) 204::cW sv xs::.ob (ze cB xs)::.ob (bk dp (d.remove x.file).1)::F) Xi⟩;exact⟨_,⟨rfl,rfl⟩,bQ.iff.2 ⟨sv,_,xs,hx,aI hS⟩⟩
  have hf:¬x.fresh=true:=by rw[hf];decide
  simp only[zzb hf];refine Gn λw hS=>?_;refine Cg (Z2 dp d N br hN dH x.file x.lG) λw hS=>?_;refine za (λh=>?_) (λh=>?_)
  ·rw[zzd h];refine Gn λw hS=>?_;have hS:=(uz (v:=.pointer none)).2 ⟨rfl,hS⟩;exact⟨_,⟨rfl,rfl⟩,bQ.iff.2 ⟨sv,.pointer none,xs,hx,aI hS⟩⟩
  rw[zzb h];have hS:=(Bl (v:=Δ tb) (x:=x)).2 ⟨tb,rfl,SL.bA hS (t:=.pt tb [Γ x.file,Γ x.lG,.bool x.fresh] 435::.pt lp (dc sv (Δ tb) dp base size) 204::cW sv xs::.ob (ze cB xs)::.ob (bk dp (d.cut x.file x.lG).1)::F) Xi⟩;exact⟨_,⟨rfl,rfl⟩,bQ.iff.2 ⟨sv,_,xs,hx,aI hS⟩⟩
def Pe(lp dp:Nat)(g:b6)(d:DS)(X:Μ)(p:Φ)(y:Except Int je)(r:Ε)(post:Β):Prop:=match y with
 | .error e=>(∃z,r= .tuple #[.agg #[Γ 0,.bool false,Θ],Γ z]/\z=e/\z≠0)/\post=[.ob (bQ lp dp g),.ob (bk dp d),X]
 | .ok x=>∃a c,r= .tuple #[.agg #[Γ x.file,.bool x.fresh,.slice a x.b.length c],Γ 0]/\post=[.ob (aY (.slice a x.b.length c) 5 1 x.b.length (x.b.map bo)),.ob (bQ lp dp g),.ob (bk dp d),X]
def b6.Ok.xs{g:b6}{N:Nat}(h:g.Ok N){xs:List cx}(hx:xs.map cx.pl=g.a_):(∀s∈xs.map cx.pl,iM s N)/\xs.length<=N/\0<=bF g.a_/\bF g.a_<=1099511627776+N:=by
 refine⟨by rw[hx];exact h.a_,?_,rO h.a_⟩;have:=h.ln;rw[<- hx,yyh]at this;exact this
def qF(X:Μ)(lp dp:Nat)(g:b6)(d:DS)(v:Ε)(p:Φ)(hv:bN X v p)(hp:p.length<=140737488355328){M:Nat}(hg:g.Ok M)(hM:M<=1000000000000000):
  SP 274 [Δ lp,v] [.ob (bQ lp dp g),.ob (bk dp d),X] (Pe lp dp g d X p (gg g d.off p)):=by
 refine Enzz λW F w hS=>?_;apply aX7;delta aF bd aW bG Bz ai aZ;obtain⟨sv,tv,xs,hx,hS⟩:=bQ.iff.1 hS;obtain⟨br,hl,T',CT⟩:=hg.xs hx;have KJ:=hg.b0;have s8:=hg.b1;have vH:=hg.s1;have hs0:=hg.s0;have oR:bF (xs.map cx.pl)=bF g.a_:=by rw[hx]
 refine Gm λb w hS=>?_;refine Cc (YZ X v p hv hp) ?_;clear hS;rintro r post hQ w hS;unfold oA at hQ;by_cases rL:1048576<p.length
 ·rw[zzd rL]at hQ
  obtain⟨rfl,rfl⟩:=hQ;have gn:gg g d.off p= .error 1:=by unfold gg;rw[zzd rL]
  rw[gn];(try simp only[app]at hS);refine Gp ?_
  refine Υ ?_;refine Gn λw hS=>?_;exact⟨_,⟨⟨1,rfl,rfl,by decide⟩,rfl⟩,SL.bA (bQ.iff.2 ⟨sv,tv,xs,hx,SL.bA hS (t:=.pt lp (dc sv tv dp g.base g.size) 204::cW sv xs::.ob (ze cB xs)::.ob (dE tv g.cE)::.ob (bk dp d)::X::F) Xi⟩) Xi⟩
 rw[zzb rL]at hQ
 obtain⟨u,rfl,rfl⟩:=hQ;try simp only[app]at hS
 have hu:=hS.ml .hd;obtain⟨au,cu,eu,_⟩:=aY.at hS .hd;subst eu;refine Gp ?_;refine Χ ?_;refine Gp ?_;refine Cg (yc dp d) λw hS=>?_;have gI:∀{w:Ζ} {l:Β},SL W (.pt lp (dc sv tv dp g.base g.size) 204::cW sv xs::.ob (ze cB xs)::.ob (dE tv g.cE)::l) w->SL W (.ob (bQ lp dp g)::l) w:=λh=>bQ.iff.2 ⟨sv,tv,xs,hx,h⟩;refine Zl (λho=>?_) (λho=>?_)
 ·have gn:gg g d.off p= .error 8:=by unfold gg;rw[zzb rL,zzd ho]
  rw[gn];refine Gn λw hS=>?_;exact⟨_,⟨⟨8,rfl,rfl,by decide⟩,rfl⟩,SL.bA (gI (SL.bA hS (t:=.pt lp (dc sv tv dp g.base g.size) 204::cW sv xs::.ob (ze cB xs)::.ob (dE tv g.cE)::.ob (bk dp d)::X::F) Xi)) Xi⟩
 refine Gp ?_;refine Cg (yd lp (dc sv tv dp g.base g.size) 204 sv xs rfl br hM (by omega)) λw hS=>?_;rw[oR];refine za (λh1=>?_) (λh1=>?_)
 ·have gn:gg g d.off p= .error 7:=by unfold gg;rw[zzb rL,zzb (by rw[ho];decide),zzd h1]
  rw[gn];refine Gn λw hS=>?_;exact⟨_,⟨⟨7,rfl,rfl,by decide⟩,rfl⟩,SL.bA (gI (SL.bA hS (t:=.pt lp (dc sv tv dp g.base g.size) 204::cW sv xs::.ob (ze cB xs)::.ob (dE tv g.cE)::.ob (bk dp d)::X::F) Xi)) Xi⟩
 refine Gp ?_;refine⟨λvs w=>∃f:Int,vs=[Γ f]/\gg g d.off p=nM g f p/\-1000000<=f/\f<=1000000/\SL W (.pt b [Γ 0,.bool false,Θ] 333::.pt lp (dc sv tv dp g.base g.size) 204::cW sv xs::.ob (ze cB xs)::.ob (dE tv g.cE)::.ob (bk dp d)::.ob (aY (.slice au (cD p).length cu) 5 1 (cD p).length ((cD p).map bo))::X::F) w,?_,?_⟩
 ·refine Gp ?_;refine yq hS Xh ?_;refine bw (λh2=>?_) (λh2=>?_)
  ·refine Gp ?_;have e:((xs.length:Nat):Int)-1=((xs.length-1:Nat):Int):=by omega
   rw[e];have hj:xs.length-1<xs.length:=by omega
   refine Yv hS Xh hj ?_;have hm:(xs[xs.length-1]'hj).pl∈xs.map cx.pl:=zz1.2 ⟨_,zzi hj,rfl⟩;have tc:g.a_.getLast?=some (xs[xs.length-1]'hj).pl:=by
    rw[<- hx,uuz,wwv,zzc hj];rfl
   have vI:=br _ hm;generalize xs[xs.length-1]'hj=x at *
   have ng:gg g d.off p=if x.pl.l.length=0\/(x.pl.size:Int)+(cD p).length<=g.size then .ok ⟨x.pl.file,false,cD p⟩ else nM g (x.pl.file+1) p:=by
    unfold gg;rw[zzb rL,zzb (by rw[ho];decide),zzb (by omega),tc]
   have iT:x.pl.l.length=x.es.length:=by simp[cx.pl,sK]
   have LH:x.pl.size=x.size:=rfl;have Ah:x.pl.file=x.file:=rfl;have k1:=vI.f0;have k2:=vI.f1;have k3:=vI.sz;rw[iT,LH,Ah]at ng
   rw[Ah]at k1 k2
   rw[LH]at k3
   have vG:=nx p;unfold dI cx.lv;refine Gm λb w hS=>?_;refine za (λh3=>?_) (λh3=>?_)
   ·rw[zzd (.inl (by omega))]at ng
    rw[ng];refine Gn λw hS=>?_;exact⟨_,⟨au,cu,rfl,rfl⟩,SL.bA (gI (SL.bA hS (t:=.pt lp (dc sv tv dp g.base g.size) 204::cW sv xs::.ob (ze cB xs)::.ob (dE tv g.cE)::.ob (aY (.slice au (cD p).length cu) 5 1 (cD p).length ((cD p).map bo))::.ob (bk dp d)::X::F) Xi)) Xi⟩
   refine bw (λh4=>?_) (λh4=>?_)
   ·rw[zzd (.inr (by omega))]at ng
    rw[ng];refine Gn λw hS=>?_;exact⟨_,⟨au,cu,rfl,rfl⟩,SL.bA (gI (SL.bA hS (t:=.pt lp (dc sv tv dp g.base g.size) 204::cW sv xs::.ob (ze cB xs)::.ob (dE tv g.cE)::.ob (aY (.slice au (cD p).length cu) 5 1 (cD p).length ((cD p).map bo))::.ob (bk dp d)::X::F) Xi)) Xi⟩
   rw[zzb (by omega)]at ng
   refine Gp ?_;exact⟨x.file+1,rfl,ng,by omega,by omega,aI hS⟩
  have ng:gg g d.off p=nM g g.base p:=by
   have Lj:g.a_=[]:=by
    rw[<- hx];have:xs=[]:=zzm (by omega);rw[this];rfl
   unfold gg;rw[zzb rL,zzb (by rw[ho];decide),zzb (by omega),Lj];rfl
  exact⟨g.base,rfl,ng,by omega,by omega,aI hS⟩
 clear hS;rintro v8 w ⟨f,b9,ng,f0,f1,hS⟩;cases b9;rw[ng];unfold nM;refine bw (λh2=>?_) (λh2=>?_)
 ·rw[zzd h2];refine Gn λw hS=>?_;exact⟨_,⟨⟨7,rfl,rfl,by decide⟩,rfl⟩,SL.bA (gI (SL.bA hS (t:=.pt lp (dc sv tv dp g.base g.size) 204::cW sv xs::.ob (ze cB xs)::.ob (dE tv g.cE)::.ob (bk dp d)::X::F) Xi)) Xi⟩
 rw[zzb h2];refine Gp ?_;refine Cg (yd lp (dc sv tv dp g.base g.size) 204 sv xs rfl br hM (by omega)) λw hS=>?_;rw[oR];refine Cc (Yy (bF g.a_+1)) ?_;clear hS;rintro r post hQ w hS;unfold A9 at hQ;rw[zzb (by omega)]at hQ
 obtain⟨y,rfl,rfl⟩:=hQ;try simp only[app]at hS
 have hy:=hS.ml .hd;obtain⟨ay,cy,ey,_⟩:=aY.at hS .hd;subst ey;refine Gm λb w hS=>?_;refine yJ (F:=_) (Zs _ 2 _ [_,_] [cD (fb (bF g.a_+1).toNat),cD p] [.ob (aY (.slice ay (cD (fb (bF g.a_+1).toNat)).length cy) 5 1 (cD (fb (bF g.a_+1).toNat)).length ((cD (fb (bF g.a_+1).toNat)).map bo)),.ob (aY (.slice au (cD p).length cu) 5 1 (cD p).length ((cD p).map bo))] rfl rfl ?_ ?_ (by omega)) hS Xp ?_
 ·intro i hi
  match i,hi with
  | 0,_=>exact⟨_,.hd,bN.own⟩
  | 1,_=>exact⟨_,.tl .hd,bN.own⟩
 ·have:=nx p;have:=nx (fb (bF g.a_+1).toNat);have:=vn (bF g.a_+1).toNat;simp;omega
 clear hS;rintro c post rfl w hS;(try simp only[app]at hS);have e2:[cD (fb (bF g.a_+1).toNat),cD p].flatten=cD (fb (bF g.a_+1).toNat)++cD p:=by simp
 rw[e2]at hS
 have hc:=hS.ml .hd;obtain⟨ac,cc,ec,_⟩:=aY.at hS .hd;subst ec;refine Gn λw hS=>?_;have e3:(cD (fb (bF g.a_+1).toNat)).length+(cD p).length=(cD (fb (bF g.a_+1).toNat)++cD p).length:=by rw[zza]
 rw[e3];exact⟨_,⟨ac,cc,rfl,rfl⟩,SL.bA (gI (SL.bA hS (t:=.pt lp (dc sv tv dp g.base g.size) 204::cW sv xs::.ob (ze cB xs)::.ob (dE tv g.cE)::.ob (aY (.slice ac (cD (fb (bF g.a_+1).toNat)++cD p).length cc) 5 1 (cD (fb (bF g.a_+1).toNat)++cD p).length ((cD (fb (bF g.a_+1).toNat)++cD p).map bo))::.ob (bk dp d)::X::F) Xi)) Xi⟩
def Ph(lp dp:Nat)(g:b6)(d:DS)(X:Μ)(y:Except Int je)(r:Ε)(post:Β):Prop:=match y with
 | .error e=>e≠0/\r= .tuple #[.agg #[Γ 0,.bool false,Θ],Γ e]/\post=[.ob (bQ lp dp g),.ob (bk dp d),X]
 | .ok x=>∃a c,r= .tuple #[.agg #[Γ x.file,.bool x.fresh,.slice a x.b.length c],Γ (cY g d).2]/\post=[.ob (aY (.slice a x.b.length c) 5 1 x.b.length (x.b.map bo)),.ob (bQ lp dp (cY g d).1.1),.ob (bk dp (cY g d).1.2),X]
def Y1(X:Μ)(lp dp:Nat)(g:b6)(d:DS)(v:Ε)(p:Φ)(hv:bN X v p)(hp:p.length<=140737488355328){M N:Nat}(hg:g.Ok M)(hM:M<=1000000000000000)(br:d.Ok N)(hN:N<=140737488355328)(dH:d.ops<=100000):
  SP 212 [Δ lp,v] [.ob (bQ lp dp g),.ob (bk dp d),X] (Ph lp dp g d X (gg g d.off p)):=by
 refine Enzz λW F w hS=>?_;apply aXa;delta aF ai aZ;refine Gm λb w hS=>?_;refine Cc (qF X lp dp g d v p hv hp hg hM) ?_;clear hS;rintro r post hQ w hS;cases gn:gg g d.off p with
 | error e=>
  rw[gn]at hQ
  obtain⟨⟨z,rfl,rfl,hz⟩,rfl⟩:=hQ;refine Gm λb w hS=>?_;refine za (λh=>absurd h hz) (λ_=>?_);refine Gn λw hS=>?_;exact⟨_,⟨hz,rfl,rfl⟩,aI hS⟩
 | ok x=>
  rw[gn]at hQ
  obtain⟨a,c,rfl,rfl⟩:=hQ;refine Gm λb w hS=>?_;refine Υ ?_;refine Cg (qB lp dp g d N br hN dH) λw hS=>?_;exact⟨_,⟨a,c,rfl,rfl⟩,aI hS⟩
def cW.at{W w:Ζ}{l:Β}{v:Ε}{t:Ι}{xs:List cx}{j:Nat}(h:SL W (.ob (bP v t 4 xs.length (xs.map dI).flatten)::l) w)(hj:j<xs.length):
  ∃b o cap A B,v= .slice (some ⟨b,o,none⟩) xs.length cap/\A.length=o+j*4/\SL W (.pt b (A++(dI xs[j]++B)) t::l) w /\
   ∀y w' l',SL W (.pt b (A++(dI y++B)) t::l') w'->SL W (.ob (bP v t 4 (xs.set j y).length ((xs.set j y).map dI).flatten)::l') w':=by
 obtain⟨b,pre,cap,rest,rfl,hc,hl,hr,hS⟩:=bP.block h (by omega);have e:(xs.map dI).flatten=((xs.take j).map dI).flatten++(dI xs[j]++((xs.drop (j+1)).map dI).flatten):=by
  have lK:xs=xs.take j++xs[j]::xs.drop (j+1):=by rw[<- yya hj,yyk]
  have e:=yyl (λl=>(List.map dI l).flatten) lK;simp only[zzx,zzj,yy1,zzt]at e;exact e
 have el:((xs.take j).map dI).flatten.length=j*4:=by rw[Kf,zzn];omega
 refine⟨b,pre.length,cap,pre++((xs.take j).map dI).flatten,((xs.drop (j+1)).map dI).flatten++rest,rfl,by rw[zza,el],?_,λy w' l' h'=>?_⟩
 ·rw[e]at hS
  simp only[zze]at hS ⊢;exact hS
 have e2:((xs.set j y).map dI).flatten=((xs.take j).map dI).flatten++(dI y++((xs.drop (j+1)).map dI).flatten):=by
  rw[xxl,zzd hj];simp only[zzx,zzj,yy1,zzt]
 have:=bP.mk (b:=b) (t:=t) (sz:=4) (n:=xs.length) (cells:=((xs.set j y).map dI).flatten) (pre:=pre) (rest:=rest) (cap:=cap) hc (by rw[Kf,yyi]) hr rfl (by rw[e2];simp only[zze]at h' ⊢;exact h');show SL W (.ob (bP _ t 4 (xs.set j y).length _)::l') w';rw[yyi];exact this
def tO{A B:Ξ}{cs:Ξ}{i:Nat}{u:Ε}(h:cs[i]?=some u):(A++(cs++B))[A.length+i]?=some u:=by
 rw[zz3 (by omega),xx0,zzs (zzf.1 h).1];exact h
def Nz{A B:Ξ}{cs:Ξ}{i:Nat}{u:Ε}(h:i<cs.length):(A++(cs++B)).set (A.length+i) u=A++(cs.set i u++B):=by
 rw[vvi _ _ (by omega),xx0,wwe _ _ h]
def PI{g:b6}{d:DS}{p:Φ}{e:Int}(h:gg g d.off p= .error e):gk g d p=((g,d),(0,e)):=by
 unfold gk;rw[h]
def PK{g:b6}{d:DS}{p:Φ}{x:je}(h:gg g d.off p= .ok x)(hm:(cY g d).2≠0):gk g d p=((cY g d).1,(0,(cY g d).2)):=by
 unfold gk;rw[h];simp only;rw[zzd hm]
def PH{g:b6}{d:DS}{p:Φ}{x:je}(h:gg g d.off p= .ok x)(hm:(cY g d).2=0)(ha:((cY g d).1.2.append x.file x.b).2≠0):
  gk g d p=(((cY g d).1.1,((cY g d).1.2.append x.file x.b).1),(0,((cY g d).1.2.append x.file x.b).2)):=by
 unfold gk;rw[h];simp only;rw[zzb (by simp[hm]),zzd ha]
def PM{g:b6}{d:DS}{p:Φ}{x:je}(h:gg g d.off p= .ok x)(hm:(cY g d).2=0)(ha:((cY g d).1.2.append x.file x.b).2=0)(hs:(((cY g d).1.2.append x.file x.b).1.sync x.file).2≠0):
  gk g d p=(((cY g d).1.1,(((cY g d).1.2.append x.file x.b).1.sync x.file).1),(0,(((cY g d).1.2.append x.file x.b).1.sync x.file).2)):=by
 unfold gk;rw[h];simp only;rw[zzb (by simp[hm]),zzb (by simp[ha]),zzd hs]
def PJ{g:b6}{d:DS}{p:Φ}{x:je}(h:gg g d.off p= .ok x)(hm:(cY g d).2=0)(ha:((cY g d).1.2.append x.file x.b).2=0)(hs:(((cY g d).1.2.append x.file x.b).1.sync x.file).2=0):
  gk g d p=(({(cY g d).1.1 with a_:=o5 g.a_ x p},(((cY g d).1.2.append x.file x.b).1.sync x.file).1),(bF (o5 g.a_ x p),0)):=by
 unfold gk;rw[h];simp only;rw[zzb (by simp[hm]),zzb (by simp[ha]),zzb (by simp[hs]),(vX g d).1]
def Xq(s:DS)(f:Int)(b:Φ):(s.append f b).1.ops<=s.ops+1:=by
 unfold DS.append;split<;>simp[DS.cK]
def Xt(s:DS)(f n:Int):(s.cut f n).1.ops<=s.ops+1:=by
 unfold DS.cut;split
 ·simp
 split
 ·simp
 split<;>simp[DS.cK]
def Xw(s:DS)(f:Int):(s.remove f).1.ops<=s.ops+1:=by
 unfold DS.remove;split
 ·simp
 split<;>simp[DS.cK]
def Xv(g:b6)(d:DS):(cY g d).1.2.ops<=d.ops+1:=by
 unfold cY;split
 ·simp
 simp only;split
 ·exact Xw _ _
 exact Xt _ _ _
def Yj(X:Μ)(lp dp:Nat)(g:b6)(d:DS)(v:Ε)(p:Φ)(hv:bN X v p)(hp:p.length<=140737488355328){M N:Nat}(hg:g.Ok M)(hM:M<=1000000000000)(br:d.Ok N)(hN:N<=140737480000000)(dH:d.ops<=90000):
  SP 158 [Δ lp,v] [.ob (bQ lp dp g),.ob (bk dp d),X] (bj (.tuple #[Γ (gk g d p).2.1,Γ (gk g d p).2.2]) [.ob (bQ lp dp (gk g d p).1.1),.ob (bk dp (gk g d p).1.2),X]):=by
 refine Enzz λW F w hS=>?_;apply aWe;delta aF bd aW cq ba bG ai aZ;obtain⟨va,vc,rfl,hvc⟩:=hv.sl hS Xh;refine Cc (Y1 X lp dp g d _ p hv hp hg (by omega) br (by omega) (by omega)) ?_;clear hS;rintro r post hQ w hS;cases gn:gg g d.off p with
 | error e=>
  rw[gn]at hQ
  obtain⟨hz,rfl,rfl⟩:=hQ;rw[PI gn];refine Gm λb w hS=>?_;refine⟨λvs w=>vs=[Γ e]/\SL W (.ob (bQ lp dp g)::.ob (bk dp d)::X::F) w,?_,?_⟩
  ·refine Gp ?_;refine za (λh=>absurd h hz) (λ_=>⟨rfl,aI hS⟩)
  clear hS;rintro v7 w ⟨b9,hS⟩;cases b9;refine⟨λvs w=>vs=[Γ e]/\SL W (.ob (bQ lp dp g)::.ob (bk dp d)::X::F) w,?_,?_⟩
  ·refine Gp ?_;refine za (λh=>absurd h hz) (λ_=>⟨rfl,hS⟩)
  clear hS;rintro v7 w ⟨b9,hS⟩;cases b9;refine Gp ?_;refine za (λ_=>?_) (λh=>absurd hz h);(exact bt hS)
 | ok x=>
  rw[gn]at hQ
  obtain⟨a,c,rfl,rfl⟩:=hQ;have hw:=Ny hg gn;have Lh:=MU (g:=g) br;have y_:=MT (d:=d) hg;have lJ:=vX g d;have hmo:=Xv g d;have s9:=hw.bl;have hpp:=hw.pl;refine Gm λb w hS=>?_;obtain⟨wb,rfl⟩:∃k,k=b:=⟨b,rfl⟩;by_cases hm:(cY g d).2=0
  ·
   have KH:=Lh.append x.file x.b;have TD:=Xq (cY g d).1.2 x.file x.b;have Lw:=KH.sync x.file;have x9:=PJ gn hm;have KE:=PH gn hm;have tu:=PM gn hm;generalize gk g d p=G at *
   generalize cY g d=m at *
   obtain⟨⟨g1,d1⟩,me⟩:=m;simp only at *
   subst hm;refine⟨λvs w=>vs=[Γ (d1.append x.file x.b).2]/\SL W (.pt wb [Γ x.file,.bool x.fresh,.slice a x.b.length c] 333::.ob (aY (.slice a x.b.length c) 5 1 x.b.length (x.b.map bo))::.ob (bQ lp dp g1)::.ob (bk dp (d1.append x.file x.b).1)::X::F) w,?_,?_⟩
   ·refine Gp ?_;refine Υ ?_;obtain⟨sv,tv,xs,hx,hS⟩:=bQ.iff.1 (SL.bA hS (t:=.ob (bQ lp dp g1)::.pt wb [Γ x.file,.bool x.fresh,.slice a x.b.length c] 333::.ob (aY (.slice a x.b.length c) 5 1 x.b.length (x.b.map bo))::.ob (bk dp d1)::X::F) Xi);refine Gn λw hS=>?_;refine Cg (PD (.ob (aY (.slice a x.b.length c) 5 1 x.b.length (x.b.map bo))) dp d1 N Lh (by omega) x.file _ x.b (λhS h=>iG hS h) (by omega)) λw hS=>?_;have hS:=bQ.iff.2 ⟨sv,tv,xs,hx,SL.bA hS (t:=.pt lp (dc sv tv dp g1.base g1.size) 204::cW sv xs::.ob (ze cB xs)::.ob (dE tv g1.cE)::.pt wb [Γ x.file,.bool x.fresh,.slice a x.b.length c] 333::.ob (aY (.slice a x.b.length c) 5 1 x.b.length (x.b.map bo))::.ob (bk dp (d1.append x.file x.b).1)::X::F) Xi⟩;exact aI hS
   clear hS;rintro v7 w ⟨b9,hS⟩;cases b9;by_cases ha:(d1.append x.file x.b).2=0
   ·rw[ha];refine⟨λvs w=>vs=[Γ ((d1.append x.file x.b).1.sync x.file).2]/\SL W (.pt wb [Γ x.file,.bool x.fresh,.slice a x.b.length c] 333::.ob (aY (.slice a x.b.length c) 5 1 x.b.length (x.b.map bo))::.ob (bQ lp dp g1)::.ob (bk dp ((d1.append x.file x.b).1.sync x.file).1)::X::F) w,?_,?_⟩
    ·refine Gp ?_;refine Υ ?_;obtain⟨sv,tv,xs,hx,hS⟩:=bQ.iff.1 (SL.bA hS (t:=.ob (bQ lp dp g1)::.pt wb [Γ x.file,.bool x.fresh,.slice a x.b.length c] 333::.ob (aY (.slice a x.b.length c) 5 1 x.b.length (x.b.map bo))::.ob (bk dp (d1.append x.file x.b).1)::X::F) Xi);refine Gn λw hS=>?_;refine Cg (qW dp (d1.append x.file x.b).1 _ KH (by omega) x.file) λw hS=>?_;have hS:=bQ.iff.2 ⟨sv,tv,xs,hx,SL.bA hS (t:=.pt lp (dc sv tv dp g1.base g1.size) 204::cW sv xs::.ob (ze cB xs)::.ob (dE tv g1.cE)::.pt wb [Γ x.file,.bool x.fresh,.slice a x.b.length c] 333::.ob (aY (.slice a x.b.length c) 5 1 x.b.length (x.b.map bo))::.ob (bk dp ((d1.append x.file x.b).1.sync x.file).1)::X::F) Xi⟩;exact aI hS
    clear hS;rintro v7 w ⟨b9,hS⟩;cases b9;by_cases hs:((d1.append x.file x.b).1.sync x.file).2=0
    ·rw[hs];have hG:=x9 ha hs;subst hG;clear x9 KE tu TD;generalize ((d1.append x.file x.b).1.sync x.file).1=d3 at *
     refine Gp ?_;refine Χ ?_;obtain⟨sv,tv,xs,hx,hS⟩:=bQ.iff.1 (SL.bA hS (t:=.ob (bQ lp dp g1)::.pt wb [Γ x.file,.bool x.fresh,.slice a x.b.length c] 333::.ob (bk dp d3)::X::F) Xi);obtain⟨tx,iT,_,_⟩:=y_.xs hx;have oR:bF (xs.map cx.pl)=bF g.a_:=by rw[hx,lJ.1]
     have hgd:=hw.hd;have vt:=rO hg.a_;have Up:=M3 hg hw;refine⟨λvs w=>vs=[]/\∃gB bZ,bZ.map cx.pl=n4 g.a_ x/\bZ.length<=xs.length+1/\SL W (.pt lp (dc gB tv dp g1.base g1.size) 204::cW gB bZ::.ob (ze cB bZ)::.ob (dE tv g1.cE)::.pt wb [Γ x.file,.bool x.fresh,.slice a x.b.length c] 333::.ob (bk dp d3)::X::F) w,?_,?_⟩
     ·refine Gp ?_;unfold n4;refine Zl (λhf=>?_) (λhf=>?_)
      ·rw[zzd hf];refine Gn λw hS=>?_;refine Cg (yd lp (dc sv tv dp g1.base g1.size) 204 sv xs rfl tx (by omega) (by omega)) λw hS=>?_;refine Gm λb w hS=>?_;rw[oR]at hS
       have nX:=bP.one hS (v:=sv) (t:=291) (sz:=4) (n:=xs.length) (cells:=(xs.map dI).flatten) Xh;refine Yr (m:=1) (cs:=[Γ x.file,Γ (bF g.a_+1),Γ 0,Θ]) hS Xr (fC hS .hd rfl) rfl rfl (by simp[Value.oneCell']) (by omega) (by omega) ?_;clear hS;intro gB w hS;have nX:=bP.one hS (v:=gB) .hd;refine Gn λw hS=>?_;have hS:=bP.lP (a:=none) (t:=34) (sz:=1) hS;have hS:=ze.nil (A:=eI) (SL.bA hS (t:=.ob (bP Θ 34 1 0 [])::.ob (ze cB xs)::.pt lp (dc gB tv dp g1.base g1.size) 204::.ob (bP gB 291 4 (xs.length+1) ((xs.map dI).flatten++[Γ x.file,Γ (bF g.a_+1),Γ 0,Θ]))::.ob (dE tv g1.cE)::.pt wb [Γ x.file,.bool x.fresh,.slice a x.b.length c] 333::.ob (bk dp d3)::X::F) Xi);have hS:=(cB.iff (x:=⟨x.file,bF g.a_+1,0,[],none,0⟩)).2 (SL.bA hS (t:=.ob (bP Θ 34 1 0 [])::.ob (ze eI [])::.ob (ze cB xs)::.pt lp (dc gB tv dp g1.base g1.size) 204::.ob (bP gB 291 4 (xs.length+1) ((xs.map dI).flatten++[Γ x.file,Γ (bF g.a_+1),Γ 0,Θ]))::.ob (dE tv g1.cE)::.pt wb [Γ x.file,.bool x.fresh,.slice a x.b.length c] 333::.ob (bk dp d3)::X::F) Xi);have hS:=ze.snoc (SL.bA hS (t:=.ob (ze cB xs)::.ob (cB ⟨x.file,bF g.a_+1,0,[],none,0⟩)::.pt lp (dc gB tv dp g1.base g1.size) 204::.ob (bP gB 291 4 (xs.length+1) ((xs.map dI).flatten++[Γ x.file,Γ (bF g.a_+1),Γ 0,Θ]))::.ob (dE tv g1.cE)::.pt wb [Γ x.file,.bool x.fresh,.slice a x.b.length c] 333::.ob (bk dp d3)::X::F) Xi);have e1:xs.length+1=(xs++[(⟨x.file,bF g.a_+1,0,[],none,0⟩:cx)]).length:=by simp
       have e2:(xs.map dI).flatten++[Γ x.file,Γ (bF g.a_+1),Γ 0,Θ]=((xs++[(⟨x.file,bF g.a_+1,0,[],none,0⟩:cx)]).map dI).flatten:=by simp[dI,cx.lv]
       rw[e1,e2]at hS
       refine⟨gB,xs++[⟨x.file,bF g.a_+1,0,[],none,0⟩],?_,by simp,aI hS⟩;rw[zzx,hx,lJ.1];rfl
      rw[zzb (by rw[hf];decide)];exact⟨rfl,sv,xs,by rw[hx,lJ.1],by omega,aI hS⟩
     clear hS tx oR;rintro w ⟨-,gB,bZ,iS,rQ,hS⟩;obtain⟨A,s,hA⟩:=DK hw;rw[AJ _ _ _ hA];have hle:0<bZ.length:=by
      have:=yyl List.length iS;rw[hA]at this;simp at this;omega
     have hj:bZ.length-1<bZ.length:=by omega
     have lK:bZ=bZ.take (bZ.length-1)++[bZ[bZ.length-1]]:=by
      conv=>lhs;rw[<- yyk (bZ.length-1) bZ]
      rw[yya hj,yyt (by omega)]
     have xJ:A=(bZ.take (bZ.length-1)).map cx.pl/\s=(bZ[bZ.length-1]).pl:=by
      rw[lK,zzx]at iS
      rw[hA]at iS
      have:=List.append_inj' iS rfl;exact⟨this.1.symm,by simpa using this.2.symm⟩
     obtain⟨xI,vH⟩:=xJ;subst xI vH;have Lv:=Up (bZ[bZ.length-1]).pl (by rw[hA];simp);have z1:=Lv.sz;have z2:=Lv.ln;have hS:=ze.take (t:=bZ.length-1) (SL.bA hS (t:=.ob (ze cB bZ)::cW gB bZ::.pt lp (dc gB tv dp g1.base g1.size) 204::.ob (dE tv g1.cE)::.pt wb [Γ x.file,.bool x.fresh,.slice a x.b.length c] 333::.ob (bk dp d3)::X::F) Xi) (zzc hj);have hS:=cB.iff.1 hS;obtain⟨rb,ro,rc,AA,BB,rfl,Tu,hS,kV⟩:=cW.at (SL.bA hS (t:=cW gB bZ::.ob (bP (bZ[bZ.length-1]).lv 34 1 (bZ[bZ.length-1]).es.length (eC (bZ[bZ.length-1]).es))::.ob (ze eI (bZ[bZ.length-1]).es)::.ob (ze cB (bZ.eraseIdx (bZ.length-1)))::.pt lp (dc gB tv dp g1.base g1.size) 204::.ob (dE tv g1.cE)::.pt wb [Γ x.file,.bool x.fresh,.slice a x.b.length c] 333::.ob (bk dp d3)::X::F) Xi) hj;generalize LC:bZ[bZ.length-1]=x0 at *
     have z1:x0.size<=M:=z1;have z2:x0.es.length<=M:=by simpa [cx.pl,sK] using z2
     refine Gn λw hS=>?_;have e:((bZ.length:Nat):Int)-1=((bZ.length-1:Nat):Int):=by omega
     rw[e];refine zM hj ?_;rw[<- Tu];refine Gn λw hS=>?_;refine zT hS Xh (tO (i:=2) (u:=Γ x0.size) rfl) ?_;refine Gp ?_;refine ZN hS Xu (tO (i:=2) (u:=Γ x0.size) rfl) rfl ?_;clear hS;intro w hS;rw[Nz (by rw[A5];decide)]at hS
     have e5:(dI x0).set 2 (Γ ((x0.size+x.b.length:Nat):Int))=[Γ x0.file,Γ x0.first,Γ ((x0.size+x.b.length:Nat):Int),x0.lv]:=rfl;rw[e5]at hS
     refine Gn λw hS=>?_;refine zT hS Xh (tO (i:=3) (u:=x0.lv) rfl) ?_;refine Zb (cs:=p.map bo) hS (λw' c eF=>hv.src eF (.tl Xh)) (by simp) (mB _) (by omega) ?_;clear hS;intro u w hS _;have hu:=hS.ml .hd;obtain⟨ua,uc,eu,_⟩:=aY.at hS .hd;subst eu;refine zT hS Xh (tO (i:=3) (u:=x0.lv) rfl) ?_;refine Gm λb w hS=>?_;refine zT hS Xh (tO (i:=3) (u:=x0.lv) rfl) ?_;refine Gp ?_;refine Yr (t:=34) (sz:=1) (n:=x0.es.length) (cells:=eC x0.es) (m:=1) (cs:=[.slice ua p.length uc]) hS Xr (fC hS .hd rfl) rfl rfl (by simp[Value.oneCell']) (by omega) (by omega) ?_;clear hS;intro v' w hS;have nX:=bP.one hS (v:=v') .hd;obtain⟨a',c',ev,_⟩:=bP.at hS (v:=v') .hd;subst ev;refine Gp ?_;refine ZN hS Xu (tO (i:=3) (u:=x0.lv) rfl) nX ?_;clear hS;intro w hS;rw[Nz (by show 3<4;decide)]at hS
     have e6:([Γ x0.file,Γ x0.first,Γ ((x0.size+x.b.length:Nat):Int),x0.lv]:Ξ).set 3 (.slice a' (x0.es.length+1) c')=dI ⟨x0.file,x0.first,x0.size+x.b.length,x0.es++[(.slice ua p.length uc,p)],a',c'⟩:=by
      simp[dI,cx.lv]
     rw[e6]at hS
     let y:cx:=⟨x0.file,x0.first,x0.size+x.b.length,x0.es++[(.slice ua p.length uc,p)],a',c'⟩
     have lN:(bZ.set (bZ.length-1) y).map cx.pl=(bZ.take (bZ.length-1)).map cx.pl++[ph x0.pl x.b.length p]:=by
      rw[xxl,zzd hj,yyt (by omega),zzx];congr 1;simp[y,cx.pl,ph,kJ]
     have rV:=(NA hg hw).1;rw[AJ _ _ _ hA,<- lN]at rV
     have hS:=kV y w _ (SL.bA hS (t:=.pt rb (AA++(dI y++BB)) 291::.ob (bP (.slice a' (x0.es.length+1) c') 34 1 (x0.es.length+1) (eC x0.es++[.slice ua p.length uc]))::.ob (aY (.slice ua p.length uc) 5 1 p.length (p.map bo))::.ob (ze eI x0.es)::.ob (ze cB (bZ.eraseIdx (bZ.length-1)))::.pt lp (dc (.slice (some ⟨rb,ro,none⟩) bZ.length rc) tv dp g1.base g1.size) 204::.ob (dE tv g1.cE)::.ob (bk dp d3)::X::F) Xi);have hS:=SL.bA hS (t:=.ob (aY (.slice ua p.length uc) 5 1 p.length (p.map bo))::.ob (ze eI x0.es)::.ob (bP (.slice a' (x0.es.length+1) c') 34 1 (x0.es.length+1) (eC x0.es++[.slice ua p.length uc]))::.ob (ze cB (bZ.eraseIdx (bZ.length-1)))::cW (.slice (some ⟨rb,ro,none⟩) bZ.length rc) (bZ.set (bZ.length-1) y)::.pt lp (dc (.slice (some ⟨rb,ro,none⟩) bZ.length rc) tv dp g1.base g1.size) 204::.ob (dE tv g1.cE)::.ob (bk dp d3)::X::F) Xi;have hS:SL W (.ob (eI (.slice ua p.length uc,p))::.ob (ze eI x0.es)::.ob (bP (.slice a' (x0.es.length+1) c') 34 1 (x0.es.length+1) (eC x0.es++[.slice ua p.length uc]))::.ob (ze cB (bZ.eraseIdx (bZ.length-1)))::cW (.slice (some ⟨rb,ro,none⟩) bZ.length rc) (bZ.set (bZ.length-1) y)::.pt lp (dc (.slice (some ⟨rb,ro,none⟩) bZ.length rc) tv dp g1.base g1.size) 204::.ob (dE tv g1.cE)::.ob (bk dp d3)::X::F) w:=hS;have hS:=ze.snoc (hS.perm (.swap _ _ _));have e7:x0.es.length+1=y.es.length:=by simp[y]
     have e8:eC x0.es++[.slice ua p.length uc]=eC y.es:=by simp[y,eC]
     rw[e7,e8]at hS
     have hS:=(cB.iff (x:=y)).2 (SL.bA hS (t:=.ob (bP (.slice a' y.es.length c') 34 1 y.es.length (eC y.es))::.ob (ze eI (x0.es++[(.slice ua p.length uc,p)]))::.ob (ze cB (bZ.eraseIdx (bZ.length-1)))::cW (.slice (some ⟨rb,ro,none⟩) bZ.length rc) (bZ.set (bZ.length-1) y)::.pt lp (dc (.slice (some ⟨rb,ro,none⟩) bZ.length rc) tv dp g1.base g1.size) 204::.ob (dE tv g1.cE)::.ob (bk dp d3)::X::F) Xi);have hS:=ze.put hS hj;refine Gp ?_;refine Cg (yd lp (dc (.slice (some ⟨rb,ro,none⟩) bZ.length rc) tv dp g1.base g1.size) 204 (.slice (some ⟨rb,ro,none⟩) bZ.length rc) (bZ.set (bZ.length-1) y) rfl rV (by omega) (by rw[yyi];omega)) λw hS=>?_;rw[lN];have hS:=(bQ.iff (g:={a_:=(bZ.take (bZ.length-1)).map cx.pl++[ph x0.pl x.b.length p],base:=g1.base,size:=g1.size,cE:=g1.cE})).2 ⟨_,tv,bZ.set (bZ.length-1) y,lN,SL.bA hS (t:=.pt lp (dc (.slice (some ⟨rb,ro,none⟩) bZ.length rc) tv dp g1.base g1.size) 204::cW (.slice (some ⟨rb,ro,none⟩) bZ.length rc) (bZ.set (bZ.length-1) y)::.ob (ze cB (bZ.set (bZ.length-1) y))::.ob (dE tv g1.cE)::.ob (bk dp d3)::X::F) Xi⟩;exact bt hS
    have hG:=tu ha hs;subst hG;refine Gp ?_;refine za (λ_=>?_) (λh=>absurd hs h);(exact bt hS)
   have hG:=KE ha;subst hG;refine⟨λvs w=>vs=[Γ (d1.append x.file x.b).2]/\SL W (.ob (bQ lp dp g1)::.ob (bk dp (d1.append x.file x.b).1)::X::F) w,?_,?_⟩
   ·refine Gp ?_;refine za (λh=>absurd h ha) (λ_=>⟨rfl,aI hS⟩)
   clear hS;rintro v7 w ⟨b9,hS⟩;cases b9;refine Gp ?_;refine za (λ_=>?_) (λh=>absurd ha h);(exact bt hS)
  rw[PK gn hm];refine⟨λvs w=>vs=[Γ (cY g d).2]/\SL W (.ob (bQ lp dp (cY g d).1.1)::.ob (bk dp (cY g d).1.2)::X::F) w,?_,?_⟩
  ·refine Gp ?_;refine za (λh=>absurd h hm) (λ_=>⟨rfl,aI hS⟩)
  clear hS;rintro v7 w ⟨b9,hS⟩;cases b9;refine⟨λvs w=>vs=[Γ (cY g d).2]/\SL W (.ob (bQ lp dp (cY g d).1.1)::.ob (bk dp (cY g d).1.2)::X::F) w,?_,?_⟩
  ·refine Gp ?_;refine za (λh=>absurd h hm) (λ_=>⟨rfl,hS⟩)
  clear hS;rintro v7 w ⟨b9,hS⟩;cases b9;refine Gp ?_;refine za (λ_=>?_) (λh=>absurd hm h);(exact bt hS)
def YL(lp dp:Nat)(g:b6)(d:DS){M N:Nat}(KJ:0<=g.base)(s8:g.base<=12288)(br:d.Ok N)(hR:d.R.length<=100000):
  SP 194 [Δ lp] [.ob (bQ lp dp g),.ob (bk dp d)] (λv post=>post=[.ob (aY v 3 1 (dB g.base d.R).length ((dB g.base d.R).map (Value.int .i64))),.ob (bQ lp dp g),.ob (bk dp d)]):=by
 intro W F w hS;apply aWr;delta aF bd ai aZ;(try simp only[app]at hS);obtain⟨sv,tv,xs,hx,hS⟩:=bQ.iff.1 hS;refine Gp ?_;refine Cc (YK dp d N br hR) ?_;clear hS;rintro fl post rfl w hS;try simp only[app]at hS
 refine zB hS (t:=3) (sz:=1) (n:=d.R.length) (cells:=d.R.map λx=>Γ x.id) Xh ?_;have hS:SL W (.ob (aY Θ 3 1 (dB g.base (d.R.take 0)).length ((dB g.base (d.R.take 0)).map (Value.int .i64)))::_) w:=aY.nil hS;refine⟨λvs w=>∃(u:Ε) (i:Nat),i<=d.R.length/\vs=[u,Γ i]/\SL W (.ob (aY u 3 1 (dB g.base (d.R.take i)).length ((dB g.base (d.R.take i)).map (Value.int .i64)))::.pt lp (dc sv tv dp g.base g.size) 204::cW sv xs::.ob (ze cB xs)::.ob (dE tv g.cE)::.ob (bk dp d)::.ob (aY fl 3 1 d.R.length (d.R.map λx=>Γ x.id))::F) w,
  λvs _=>match vs with|[_,.int _ i]=>(d.R.length-i).toNat|_=>0,⟨Θ,0,by omega,rfl,aI hS⟩,?_⟩
 clear hS;rintro v3 v12 w ⟨u,i,hi,b9,hS⟩;cases b9;refine bw (λh=>?_) (λh=>?_)
 ·have bg:i<d.R.length:=by omega
  have hu:(d.R.map λx=>Γ x.id)[i]?=some (Γ d.R[i].id):=by simp[bg]
  have bcp:(dB g.base (d.R.take i)).length<=100000:=by
   unfold dB;have:=xx8 (λf=>decide (g.base<=f/\f<g.base+4096)) ((d.R.take i).map PF.id);rw[yyh,zzn]at this
   omega
  have jx:dB g.base (d.R.take (i+1))=dB g.base (d.R.take i)++if g.base<=d.R[i].id/\d.R[i].id<g.base+4096 then [d.R[i].id] else []:=by
   unfold dB;rw[xx4,zzc bg,zzx,xxp];congr 1;simp only[Option.toList_some,zzj,xxa,List.filter_cons,List.filter_nil,zzo]
  have tc:∀{w:Ζ} {u:Ε},(dB g.base (d.R.take (i+1))=dB g.base (d.R.take i))->SL W (.ob (aY u 3 1 (dB g.base (d.R.take i)).length ((dB g.base (d.R.take i)).map (Value.int .i64)))::.pt lp (dc sv tv dp g.base g.size) 204::cW sv xs::.ob (ze cB xs)::.ob (dE tv g.cE)::.ob (bk dp d)::.ob (aY fl 3 1 d.R.length (d.R.map λx=>Γ x.id))::F) w ->
    (∃(u':Ε) (i':Nat),i'<=d.R.length/\[u,Γ ((i+1:Nat):Int)]=[u',Γ i']/\SL W (.ob (aY u' 3 1 (dB g.base (d.R.take i')).length ((dB g.base (d.R.take i')).map (Value.int .i64)))::.pt lp (dc sv tv dp g.base g.size) 204::cW sv xs::.ob (ze cB xs)::.ob (dE tv g.cE)::.ob (bk dp d)::.ob (aY fl 3 1 d.R.length (d.R.map λx=>Γ x.id))::F) w):=λe h=>⟨_,i+1,by omega,rfl,by rw[e];exact h⟩
  refine yp hS (t:=3) Xh bg hu ?_;refine bw (λh1=>?_) (λh1=>?_)
  ·refine bw (λh2=>?_) (λh2=>?_)
   ·rw[zzd ⟨h1,h2⟩]at jx
    refine Gm λb w hS=>?_;refine zx (m:=1) (cs:=[Γ d.R[i].id]) hS Xr (fC hS .hd rfl) rfl rfl (by simp[Value.oneCell']) (by omega) (by omega) ?_;clear hS;intro v' w hS;have e1:(dB g.base (d.R.take i)).length+1=(dB g.base (d.R.take (i+1))).length:=by rw[jx,zza];rfl
    have e2:(dB g.base (d.R.take i)).map (Value.int .i64)++[Γ d.R[i].id]=(dB g.base (d.R.take (i+1))).map (Value.int .i64):=by rw[jx,zzx];rfl
    rw[e1,e2]at hS
    refine Gp ?_;exact⟨⟨v',i+1,by omega,rfl,aI hS⟩,by dsimp only;omega⟩
   rw[zzb (by omega),zz4]at jx
   refine Gp ?_;exact⟨tc jx hS,by dsimp only;omega⟩
  rw[zzb (by omega),zz4]at jx
  refine Gp ?_;exact⟨tc jx hS,by dsimp only;omega⟩
 have eM:i=d.R.length:=by omega
 subst eM;rw[zz6]at hS
 have hS:=(bQ.iff (g:=g)).2 ⟨sv,tv,xs,hx,SL.bA hS (t:=.pt lp (dc sv tv dp g.base g.size) 204::cW sv xs::.ob (ze cB xs)::.ob (dE tv g.cE)::.ob (aY v3 3 1 (dB g.base d.R).length ((dB g.base d.R).map (Value.int .i64)))::.ob (bk dp d)::F) Xi⟩;exact⟨_,rfl,aI hS⟩
def awo(f:Nat):∀b:Φ,b.length<f->(∀p∈(gh b).1,p.length<=1048576)/\(gh b).1.length<=(gh b).2:=by
 induction f with
 | zero=>intro b h;omega
 | succ f ih=>
  intro b hb;cases h:fg b with
  | error e=>rw[Ec h];exact⟨by simp,by simp⟩
  | ok x=>
   obtain⟨p,n⟩:=x;have h2:=wk h;obtain⟨i1,i2⟩:=ih (b.drop n) (by rw[zz0];omega);rw[Ed h];refine⟨λq hq=>?_,?_⟩
   ·rcases zzv.1 hq with rfl|hq
    ·exact h2.2.2.1
    exact i1 q hq
   show (p::(gh (b.drop n)).1).length<=n+(gh (b.drop n)).2;rw[zzg];omega
def NK{q:Φ}{f:Int}{l:List Φ}{n:Nat}(h:gM q=some (f,l,n)):1<=f/\f<=1099511627776/\n<=q.length/\l.length<=q.length/\∀p∈l,p.length<=1048576:=by
 obtain⟨h1,h2⟩:=awo (q.length+1) q (by omega);have h3:=awn (q.length+1) q (by omega);unfold gM at h;split at h
 ·cases h
 rename_i hd l' hs;rw[hs]at h1 h2
 cases hh:kW hd with
 | none=>rw[hh]at h;cases h
 | some k=>
  rw[hh]at h
  cases h;have hk:1<=f/\f<=1099511627776:=by
   unfold kW at hh;split at hh
   ·unfold xR at hh;split at hh
    ·split at hh
     ·rename_i hc;cases hh;exact⟨hc.2.1,hc.2.2⟩
     cases hh
    cases hh
   cases hh
  refine⟨hk.1,hk.2,h3,?_,λp hp=>h1 p (.tail _ hp)⟩;rw[zzg]at h2;omega
def lV(R:List PF)(base:Int)(N:Nat):Prop:=∀x∈R,base<=x.id->x.id<base+4096->x.b.length<=N
def lV.all{R:List PF}{N:Nat}(h:∀x∈R,x.b.length<=N)(base:Int):lV R base N:=λx hx _ _=>h x hx
def lV.at_{R:List PF}{base:Int}{N:Nat}(h:lV R base N){f:Int}(hf:base<=f/\f<base+4096):∀x,cw PF.id R f=some x->x.b.length<=N:=λx hx=>by
 obtain⟨h1,h2⟩:=pA hx;have h2:x.id=f:=h2;exact h x h1 (by omega) (by omega)
def Mj{L:List bR}{R:List PF}{f:Int}{last:Bool}{M N:Nat}(hR:∀x,cw PF.id R f=some x->x.b.length<=N)(hN:N<=M)(f0:0<=f)(f1:f<=100000)(hL:∀s∈L,iM s M):(∀s∈(gy L R f last).2,iM s M)/\(gy L R f last).2.length<=L.length+1:=by
 have hq:(((cw PF.id R f).map PF.b).getD []).length<=N:=by
  cases hg:cw PF.id R f with
  | none=>simp
  | some x=>exact hR x hg
 unfold gy;generalize ((cw PF.id R f).map PF.b).getD []=q at *
 simp only;cases hr:gM q with
 | none=>exact⟨hL,by simp⟩
 | some y=>
  obtain⟨k,l,n⟩:=y;have:=NK hr;simp only;split
  ·exact⟨hL,by simp⟩
  refine⟨λs hs=>?_,by simp⟩;rcases yyb.1 hs with hs|hs
  ·exact hL s hs
  rw[zz8.1 hs];exact⟨f0,f1,this.1,this.2.1,by show n<=M;omega,by show l.length<=M;omega,this.2.2.2.2⟩
def qA(lp dp:Nat)(g:b6)(d:DS)(f:Int)(last:Bool){M B N:Nat}(hg:g.Ok M)(hM:M<=1000000000000)(br:d.Ok B)(hB:B<=140737488355328)(T1:∀x,cw PF.id d.R f=some x->x.b.length<=N)(hN:N<=10000000000):
  SP 195 [Δ lp,Γ f,.bool last] [.ob (bQ lp dp g),.ob (bk dp d)] (bj (.tuple #[.bool (gy g.a_ d.R f last).1.1,.bool (gy g.a_ d.R f last).1.2]) [.ob (bQ lp dp {g with a_:=(gy g.a_ d.R f last).2}),.ob (bk dp d)]):=by
 refine Enzz λW F w hS=>?_;apply aWs;delta aF bd aW ba bG bD Bx ai aZ;obtain⟨sv,tv,xs,hx,hS⟩:=bQ.iff.1 hS;obtain⟨tx,iT,T',CT⟩:=hg.xs hx;have oR:bF (xs.map cx.pl)=bF g.a_:=by rw[hx]
 have xW:g.a_.length=xs.length:=by rw[<- hx,yyh]
 refine Gp ?_;refine Cc (ZI dp d B br hB f) ?_;clear hS;rintro r post hQ w hS;have hq:(((cw PF.id d.R f).map PF.b).getD []).length<=N:=by
  cases hg:cw PF.id d.R f with
  | none=>simp
  | some x=>exact T1 x hg
 have x_:gy g.a_ d.R f last=match gM (((cw PF.id d.R f).map PF.b).getD []) with
  | none=>((false,last),g.a_)
  | some (first,l,n)=>if (last=false/\(n≠(((cw PF.id d.R f).map PF.b).getD []).length\/l.length=0))\/(0<g.a_.length/\first≠bF g.a_+1)\/1099511627776<first+l.length-1 then ((true,false),g.a_)
   else ((true,true),g.a_++[⟨f,first,n,l⟩]):=rfl
 have bU:∃(X:Μ) (a:Option Addr) (c:Nat) (bb:Bool),r= .tuple #[.slice a (((cw PF.id d.R f).map PF.b).getD []).length c,.bool bb]/\bN X (.slice a (((cw PF.id d.R f).map PF.b).getD []).length c) (((cw PF.id d.R f).map PF.b).getD [])/\SL W (X::.ob (bk dp d)::.pt lp (dc sv tv dp g.base g.size) 204::cW sv xs::.ob (ze cB xs)::.ob (dE tv g.cE)::F) w:=by
  unfold uv at hQ;cases hg:cw PF.id d.R f with
  | none=>
   rw[hg]at hQ
   obtain⟨rfl,rfl⟩:=hQ;try simp only[app]at hS
   exact⟨.mem aX.emp,none,0,false,rfl,bN.nil,SL.bA hS.DH Xi⟩
  | some x=>
   rw[hg]at hQ
   obtain⟨u,rfl,rfl⟩:=hQ;try simp only[app]at hS
   obtain⟨a,c,rfl,_⟩:=aY.at hS (v:=u) (t:=5) (sz:=1) (n:=x.b.length) (cells:=x.b.map bo) Xh;exact⟨.ob (aY (.slice a x.b.length c) 5 1 x.b.length (x.b.map bo)),a,c,true,rfl,bN.own,aI hS⟩
 clear hS hQ;obtain⟨X,a,c,bb,rfl,hX,hS⟩:=bU;rw[x_];clear x_;generalize ((cw PF.id d.R f).map PF.b).getD []=q at *
 refine Gp ?_;refine Cc (Yz X _ q hX (by omega)) ?_;clear hS;rintro r post hQ w hS;unfold wJ at hQ;cases hr:gM q with
 | none=>
  rw[hr]at hQ
  obtain⟨rfl,rfl⟩:=hQ;(try simp only[app]at hS);refine Gp ?_
  refine Υ ?_;have hS:=(bQ.iff (g:=g)).2 ⟨sv,tv,xs,hx,SL.bA hS (t:=.pt lp (dc sv tv dp g.base g.size) 204::cW sv xs::.ob (ze cB xs)::.ob (dE tv g.cE)::.ob (bk dp d)::F) Xi⟩;exact bt hS
 | some y=>
  obtain⟨first,l,n⟩:=y;have l9:=NK hr;rw[hr]at hQ
  obtain⟨u,es,he,rfl,rfl⟩:=hQ;try simp only[app]at hS
  have ta:l.length=es.length:=by rw[<- he,sK]
  obtain⟨ua,uc,rfl,_⟩:=bP.at hS (v:=u) .hd;obtain⟨r1,r2,r3,r4,r5⟩:=l9;simp only[ta,xW];have bdb:iM (cx.pl ⟨f,first,n,es,ua,uc⟩) M\/True:=.inr trivial;refine Gp ?_;refine Χ ?_;refine Gm λb w hS=>?_;obtain⟨sb,rfl⟩:∃k,k=b:=⟨b,rfl⟩;obtain⟨I,hI⟩:∃I:Ξ->Ζ->Prop,I=λvs w=>∃bad:Bool,vs=[.bool bad]/\(bad=true↔((last=false/\(n≠q.length\/es.length=0))\/(0<xs.length/\first≠bF g.a_+1)\/1099511627776<first+es.length-1)) /\
   SL W (.pt sb [Γ f,Γ first,Γ n,.slice ua es.length uc] 291::.ob (bP (.slice ua es.length uc) 34 1 es.length (eC es))::.ob (ze eI es)::.ob (bk dp d)::.pt lp (dc sv tv dp g.base g.size) 204::cW sv xs::.ob (ze cB xs)::.ob (dE tv g.cE)::F) w:=⟨_,rfl⟩
  refine⟨I,?_,?_⟩
  ·have fM:∀(w:Ζ) (K:Ε->Ζ->Prop),¬(last=false/\(n≠q.length\/es.length=0))->SL W (.pt sb [Γ f,Γ first,Γ n,.slice ua es.length uc] 291::.ob (bP (.slice ua es.length uc) 34 1 es.length (eC es))::.ob (ze eI es)::.ob (bk dp d)::.pt lp (dc sv tv dp g.base g.size) 204::cW sv xs::.ob (ze cB xs)::.ob (dE tv g.cE)::F) w ->
     (∀(bad:Bool) w,(bad=true↔((last=false/\(n≠q.length\/es.length=0))\/(0<xs.length/\first≠bF g.a_+1)\/1099511627776<first+es.length-1))->SL W (.pt sb [Γ f,Γ first,Γ n,.slice ua es.length uc] 291::.ob (bP (.slice ua es.length uc) 34 1 es.length (eC es))::.ob (ze eI es)::.ob (bk dp d)::.pt lp (dc sv tv dp g.base g.size) 204::cW sv xs::.ob (ze cB xs)::.ob (dE tv g.cE)::F) w->K (.bool bad) w) ->
     (YC (Δ lp) λv54=>zm 0 v54 λv55=>zm 0 v55 λv56=>bx v56 w λv57=>zd v57 λv58=>zc .gtr v58 (Γ 0) λv59=>
      bL v59
      (YC (Δ lp) λv63=>zm 0 v63 λv64=>aw 135 [v64] w λEu Ez=>zc .add Eu (Γ 1) λv66=>zc .neq (Γ first) v66 λv67=>
       bL v67 (K (.bool true) Ez)
       (zf 4 (Δ sb) Ez λv71=>aw 191 [v71] Ez λv72 jR=>zc .sub v72 (Γ 1) λv73=>zc .gtr v73 (Γ 1099511627776) λv74=>K v74 jR))
      (zf 4 (Δ sb) w λaIt=>aw 191 [aIt] w λaIu EA=>zc .sub aIu (Γ 1) λaIw=>zc .gtr aIw (Γ 1099511627776) λaIy=>K aIy EA)):=by
    intro w K hn hS hK;clear bb;refine Gp ?_;refine yq hS (v:=sv) (t:=291) (sz:=4) (n:=xs.length) (cells:=(xs.map dI).flatten) Xh ?_;refine bw (λh1=>?_) (λh1=>?_)
    ·refine Gp ?_;refine Cg (yd lp (dc sv tv dp g.base g.size) 204 sv xs rfl tx (by omega) (by omega)) λw hS=>?_;rw[oR];refine za (λh2=>?_) (λh2=>?_)
     ·refine hK true _ ⟨λ_=>.inr (.inl ⟨by omega,by omega⟩),λ_=>rfl⟩ (aI hS)
     refine Gp ?_;refine Cg (yP f first n ua es.length uc (by omega) (by omega)) λw hS=>?_;refine hK _ _ ⟨λh=>.inr (.inr (by simpa using h)),λh=>?_⟩ (aI hS);rcases h with h|h|h
     ·exact absurd h hn
     ·omega
     simpa using h
    refine Gp ?_;refine Cg (yP f first n ua es.length uc (by omega) (by omega)) λw hS=>?_;refine hK _ _ ⟨λh=>.inr (.inr (by simpa using h)),λh=>?_⟩ (aI hS);rcases h with h|h|h
    ·exact absurd h hn
    ·omega
    simpa using h
   cases last with
   | false=>
    refine yb ?_;refine zt ?_;refine bw (λh1=>?_) (λh1=>?_)
    ·rw[hI];exact⟨true,rfl,⟨λ_=>.inl ⟨rfl,.inl (by omega)⟩,λ_=>rfl⟩,aI hS⟩
    refine bw (λh2=>?_) (λh2=>?_)
    ·rw[hI];exact⟨true,rfl,⟨λ_=>.inl ⟨rfl,.inr (by omega)⟩,λ_=>rfl⟩,aI hS⟩
    exact fM w (λv w=>I [v] w) (by omega) (aI hS) (λbad w hb h=>by rw[hI];exact⟨bad,rfl,hb,h⟩)
   | true=>
    refine yb ?_;refine zs ?_;exact fM w (λv w=>I [v] w) (by simp) (aI hS) (λbad w hb h=>by rw[hI];exact⟨bad,rfl,hb,h⟩)
  clear hS;rw[hI];rintro v75 w ⟨bad,b9,f_,hS⟩;cases b9;cases bad with
  | true=>
   refine zt ?_;rw[zzd (f_.1 rfl)];have hS:=(bQ.iff (g:=g)).2 ⟨sv,tv,xs,hx,SL.bA hS (t:=.pt lp (dc sv tv dp g.base g.size) 204::cW sv xs::.ob (ze cB xs)::.ob (dE tv g.cE)::.ob (bk dp d)::F) Xi⟩;exact bt hS
  | false=>
   refine zs ?_;rw[zzb (λh=>by have:=f_.2 h;cases this)];refine Gm λb w hS=>?_;refine Yr (t:=291) (sz:=4) (n:=xs.length) (cells:=(xs.map dI).flatten) (m:=1) (cs:=[Γ f,Γ first,Γ n,.slice ua es.length uc]) hS Xr (fC hS .hd rfl) rfl rfl (by simp[Value.oneCell']) (by omega) (by omega) ?_;clear hS;intro gB w hS;have nX:=bP.one hS (v:=gB) .hd;refine Gn λw hS=>?_;have hS:=(cB.iff (x:=⟨f,first,n,es,ua,uc⟩)).2 (SL.bA hS (t:=.ob (bP (.slice ua es.length uc) 34 1 es.length (eC es))::.ob (ze eI es)::.ob (ze cB xs)::.ob (bk dp d)::.pt lp (dc gB tv dp g.base g.size) 204::.ob (bP gB 291 4 (xs.length+1) ((xs.map dI).flatten++[Γ f,Γ first,Γ n,.slice ua es.length uc]))::.ob (dE tv g.cE)::F) Xi);have hS:=ze.snoc (hS.bA (t:=.ob (ze cB xs)::.ob (cB ⟨f,first,n,es,ua,uc⟩)::.ob (bk dp d)::.pt lp (dc gB tv dp g.base g.size) 204::.ob (bP gB 291 4 (xs.length+1) ((xs.map dI).flatten++[Γ f,Γ first,Γ n,.slice ua es.length uc]))::.ob (dE tv g.cE)::F) Xi);have e1:xs.length+1=(xs++[(⟨f,first,n,es,ua,uc⟩:cx)]).length:=by simp
   have e2:(xs.map dI).flatten++[Γ f,Γ first,Γ n,.slice ua es.length uc]=((xs++[(⟨f,first,n,es,ua,uc⟩:cx)]).map dI).flatten:=by simp[dI,cx.lv]
   rw[e1,e2]at hS
   have lN:(xs++[(⟨f,first,n,es,ua,uc⟩:cx)]).map cx.pl=g.a_++[⟨f,first,n,l⟩]:=by
    rw[zzx,hx];simp[cx.pl,he]
   have hS:=(bQ.iff (g:={g with a_:=g.a_++[⟨f,first,n,l⟩]})).2 ⟨gB,tv,xs++[⟨f,first,n,es,ua,uc⟩],lN,SL.bA hS (t:=.pt lp (dc gB tv dp g.base g.size) 204::cW gB (xs++[⟨f,first,n,es,ua,uc⟩])::.ob (ze cB (xs++[⟨f,first,n,es,ua,uc⟩]))::.ob (dE tv g.cE)::.ob (bk dp d)::F) Xi⟩;exact bt hS
def YD(lp dp:Nat)(g:b6)(d:DS)(iv:Ε)(ids:Ω)(whole:Bool){M N:Nat}(hg:g.Ok M)(hM:M<=1000000000000)(br:d.Ok N)(hN:N<=140737488355328)(dH:d.ops<=100000)(d_:whole=true->ids≠[]->g.a_≠[])(bg:ids.length<=100000):
  SP 196 [Δ lp,iv,.bool whole] [.ob (bQ lp dp g),.ob (bk dp d),.ob (aY iv 3 1 ids.length (ids.map (Value.int .i64)))]
   (bj (Γ (gQ g.a_ d ids whole).2) [.ob (bQ lp dp g),.ob (bk dp (gQ g.a_ d ids whole).1),.ob (aY iv 3 1 ids.length (ids.map (Value.int .i64)))]):=by
 refine Enzz λW F w hS=>?_;apply aWt;delta aF bd aW bG bD ai;obtain⟨sv,tv,xs,hx,hS⟩:=bQ.iff.1 hS;obtain⟨tx,iT,_,_⟩:=hg.xs hx;have gI:∀{w:Ζ} {d':DS},SL W (.pt lp (dc sv tv dp g.base g.size) 204::cW sv xs::.ob (ze cB xs)::.ob (dE tv g.cE)::.ob (bk dp d')::.ob (aY iv 3 1 ids.length (ids.map (Value.int .i64)))::F) w->SL W (.ob (bQ lp dp g)::.ob (bk dp d')::.ob (aY iv 3 1 ids.length (ids.map (Value.int .i64)))::F) w:=λh=>(bQ.iff (g:=g)).2 ⟨_,tv,_,hx,h⟩;refine zB hS (v:=iv) (t:=3) (sz:=1) (n:=ids.length) (cells:=ids.map (Value.int .i64)) Xh ?_;refine bw (λh=>?_) (λh=>?_)
 ·have:ids=[]:=zzm (by omega);subst this;have hS:=gI (aI hS);exact⟨_,⟨rfl,rfl⟩,hS⟩
 have hj:ids.length-1<ids.length:=by omega
 have xW:ids.getLast?=some (ids[ids.length-1]'hj):=by rw[wwv,zzc hj]
 have Ut:ids≠[]:=λe=>by rw[e]at h;simp at h
 have hu:(ids.map (Value.int .i64))[ids.length-1]?=some (Γ (ids[ids.length-1]'hj)):=by simp[hj]
 generalize (ids[ids.length-1]'hj)=f at *
 refine zB hS (v:=iv) (t:=3) (sz:=1) (n:=ids.length) (cells:=ids.map (Value.int .i64)) Xh ?_;refine Gp ?_;have e:((ids.length:Nat):Int)-1=((ids.length-1:Nat):Int):=by omega
 rw[e];refine yp hS (v:=iv) (t:=3) Xh hj hu ?_;cases whole with
 | false=>
  have hb:gQ g.a_ d ids false=d.remove f:=by unfold gQ;rw[xW];rfl
  rw[hb];refine yb ?_;refine zt ?_;refine Gp ?_;refine Cg (y9 dp d N br dH f) λw hS=>?_;have hS:=gI (aI hS);exact⟨_,⟨rfl,rfl⟩,hS⟩
 | true=>
  have hb:gQ g.a_ d ids true=if pP g.a_<mg d.R f then d.cut f (pP g.a_) else (d,0):=by unfold gQ;rw[xW];rfl
  rw[hb];refine yb ?_;refine zs ?_;have hn:=d_ rfl Ut;have hle:0<xs.length:=by
   rcases yy7 xs.length with h0|h0
   ·rw[<- hx,zzm h0]at hn;exact absurd rfl hn
   exact h0
  have ku:xs.length-1<xs.length:=by omega
  have Ul:pP g.a_=((xs[xs.length-1]'ku).size:Nat):=by
   unfold pP;rw[<- hx,uuz,wwv,zzc ku];rfl
  rw[Ul];refine Gn λw hS=>?_;refine yq hS (v:=sv) (t:=291) (sz:=4) (n:=xs.length) (cells:=(xs.map dI).flatten) Xh ?_;refine Gp ?_;have e:((xs.length:Nat):Int)-1=((xs.length-1:Nat):Int):=by omega
  rw[e];refine N7 (i:=2) hS Xh ku (u:=Γ ((xs[xs.length-1]'ku).size:Nat)) rfl ?_;generalize (xs[xs.length-1]'ku).size=z at *
  refine Gp ?_;refine Cg (QD dp d f) λw hS=>?_;refine za (λh1=>?_) (λh1=>?_)
  ·rw[zzd h1];refine Gp ?_;refine Cg (Z2 dp d N br (by omega) dH f (z:Int)) λw hS=>?_;have hS:=gI (aI hS);exact⟨_,⟨rfl,rfl⟩,hS⟩
  rw[zzb h1];have hS:=gI (aI hS);exact⟨_,⟨rfl,rfl⟩,hS⟩
def uq(dp:Nat)(y:DS × Except Int b6)(r:Ε)(post:Β):Prop:=match y.2 with
 | .error e=>e≠0/\r= .tuple #[.pointer none,Γ e]/\post=[.ob (bk dp y.1)]
 | .ok g=>∃lp:Nat,r= .tuple #[Δ lp,Γ 0]/\post=[.ob (bQ lp dp g),.ob (bk dp y.1)]
def Ml{R:List PF}{M N:Nat}{base:Int}(hR:lV R base N)(hN:N<=M)(b0:0<=base)(b1:base<=12288):∀(ids:Ω) (prev:Option Int) (L:List bR) (wh:Bool) (k:Nat),(∀f∈ids,base<=f/\f<base+4096)->(∀s∈L,iM s M)->L.length<=k->∀{L' sr},jz R ids prev L wh=some (L',sr)->(∀s∈L',iM s M)/\L'.length<=k+ids.length
 | [],prev,L,wh,k,_,hL,hk,L',sr,h=>by
  cases h;exact⟨hL,by simpa using hk⟩
 | f::r,prev,L,wh,k,hf,hL,hk,L',sr,h=>by
  rw[Aq]at h
  obtain⟨f0,f1⟩:=hf f (.head _);obtain⟨k1,k2⟩:=Mj (last:=r.isEmpty) (hR.at_ ⟨f0,f1⟩) hN (by omega) (by omega) hL;split at h
  ·cases h
  split at h
  ·cases h
  have:=Ml hR hN b0 b1 r _ _ _ (k+1) (λx hx=>hf x (.tail _ hx)) k1 (by omega) h;exact⟨this.1,by simp at this ⊢;omega⟩
def LL{base:Int}{R:List PF}{f:Int}(h:f∈dB base R):base<=f/\f<base+4096:=by
 unfold dB at h;have:=(xxf.1 h).2;simpa using this
def LK(base:Int)(R:List PF):(dB base R).length<=R.length:=by
 unfold dB;have:=xx8 (λf=>decide (base<=f/\f<base+4096)) (R.map PF.id)
 rwa [yyh]at this
def Xf{d d':DS}{base size:Int}{N:Nat}(hw:lV d.R base N)(hR:d.R.length<=100000){g:b6}(h:eO d base size=(d',.ok g)):g.Ok (N+100000)/\d.off=false:=by
 unfold eO at h;split at h
 ·cases h
 rename_i hb;split at h
 ·cases h
 rename_i ho;split at h
 ·cases h
 rename_i L wh hl;obtain⟨k1,k2⟩:=Ml (M:=N+100000) hw (by omega) (by omega) (by omega) _ _ [] _ 0 (λf hf=>LL hf) (by simp) (by simp) hl;have:=LK base d.R;have hL:(⟨L,base,size,none⟩:b6).Ok (N+100000):=⟨k1,by show 0<=base;omega,by show base<=12288;omega,by show 64<=size;omega,by show size<=65536;omega,by show L.length<=_;omega⟩;split at h
 ·cases h
 cases h;exact⟨hL,by simpa using ho⟩
def Nr(dp:Nat)(d:DS)(base size:Int){N B:Nat}(br:d.Ok B)(hB:B<=140737488355328)(hw:lV d.R base N)(hN:N<=1000000000)(hR:d.R.length<=100000)(dH:d.ops<=100000):
  SP 142 [Δ dp,Γ base,Γ size] [.ob (bk dp d)] (uq dp (eO d base size)):=by
 refine Enzz λW F w hS=>?_;apply aRy;delta aF bD ai bC aZ;by_cases nR:base<0\/12288<base\/size<64\/65536<size
 ·have e:eO d base size=(d,.error 1):=by unfold eO;rw[zzd nR]
  rw[e];have hE:∀{w:Ζ},SL W (.ob (bk dp d)::F) w->∃post,uq dp (d,.error 1) (.tuple #[.pointer none,Γ 1]) post/\SL W (app post F) w:=λh=>⟨_,⟨by decide,rfl,rfl⟩,h⟩;refine Gp ?_;refine za (λh=>hE hS) (λh1=>?_);refine Gp ?_;refine za (λh=>hE hS) (λh2=>?_);refine Gp ?_;refine za (λh=>hE hS) (λh3=>?_);refine Gp ?_;refine za (λh=>hE hS) (λh4=>by omega)
 refine Gp ?_;refine Χ ?_;refine Gp ?_;refine Χ ?_;refine Gp ?_;refine Χ ?_;refine Gp ?_;refine Χ ?_;refine Cg (yc dp d) λw hS=>?_;refine Zl (λho=>?_) (λho=>?_)
 ·have e:eO d base size=(d,.error 8):=by unfold eO;rw[zzb nR,zzd ho]
  rw[e];exact⟨_,⟨by decide,rfl,rfl⟩,hS⟩
 have eo:eO d base size=match jz d.R (dB base d.R) none [] true with
  | none=>(d,.error 3)
  | some (L,whole)=>if (gQ L d (dB base d.R) whole).2≠0 then ((gQ L d (dB base d.R) whole).1,.error (gQ L d (dB base d.R) whole).2) else ((gQ L d (dB base d.R) whole).1,.ok ⟨L,base,size,none⟩):=by
  unfold eO;rw[zzb nR,zzb (by rw[ho];decide)];rfl
 rw[eo];have hi:∀f∈dB base d.R,base<=f/\f<base+4096:=λf hf=>LL hf;have bg:=LK base d.R;refine Gp ?_;refine⟨_,rfl,zD hS ?_⟩;clear hS;intro lp w hS;have hS:=(uz (v:=.pointer none)).2 ⟨rfl,hS⟩;have hS:=bP.lP (a:=none) (t:=291) (sz:=4) hS;have hS:=ze.nil (A:=cB) hS;have hS:=SL.bA hS (t:=.pt lp (dc Θ (.pointer none) dp base size) 204::.ob (bP Θ 291 4 0 [])::.ob (ze cB [])::.ob (dE (.pointer none) none)::.ob (bk dp d)::F) Xi;have hS:=(bQ.iff (g:=⟨[],base,size,none⟩)).2 ⟨_,_,[],rfl,hS⟩;refine Cc (YL lp dp ⟨[],base,size,none⟩ d (M:=0) (N:=B) (by show 0<=base;omega) (by show base<=12288;omega) br hR) ?_;clear hS;rintro iv post rfl w hS;(try simp only[app]at hS);generalize K4:dB base d.R=ids at *
 refine zB hS (v:=iv) (t:=3) (sz:=1) (n:=ids.length) (cells:=ids.map (Value.int .i64)) Xh ?_;refine⟨λvs w=>∃(wh:Bool) (i:Nat) (L:List bR),i<=ids.length/\vs=[.bool wh,Γ i]/\jz d.R ids none [] true=jz d.R (ids.drop i) (if i=0 then none else ids[i-1]?) L wh/\(∀s∈L,iM s (N+100000))/\L.length<=i/\(wh=true->0<i->L≠[])/\SL W (.ob (bQ lp dp ⟨L,base,size,none⟩)::.ob (bk dp d)::.ob (aY iv 3 1 ids.length (ids.map (Value.int .i64)))::F) w,
  λvs _=>match vs with|[_,.int _ i]=>(ids.length-i).toNat|_=>0,⟨true,0,[],by omega,rfl,rfl,by simp,by simp,λ_ h=>by omega,aI hS⟩,?_⟩
 clear hS;rintro v10 v43 w ⟨wh,i,L,hi1,b9,lI,KB,KA,UU,hS⟩;cases b9;have Kz:(⟨L,base,size,none⟩:b6).Ok (N+100000):=⟨KB,by show 0<=base;omega,by show base<=12288;omega,by show 64<=size;omega,by show size<=65536;omega,by show L.length<=_;omega⟩;refine bw (λh1=>?_) (λh1=>?_)
 ·have hj:i<ids.length:=by omega
  have hu:(ids.map (Value.int .i64))[i]?=some (Γ ids[i]):=by simp[hj]
  have KY:=hi _ (zzi hj);rw[yya hj,Aq]at lI
  refine yp hS (v:=iv) (t:=3) Xh hj hu ?_;refine zB hS (v:=iv) (t:=3) (sz:=1) (n:=ids.length) (cells:=ids.map (Value.int .i64)) Xh ?_;refine Gp ?_;have tc:decide (((i:Nat):Int)=((ids.length:Nat):Int)-1)=(ids.drop (i+1)).isEmpty:=by
   rw[xxg,vv0,List.isEmpty_iff,uuh];omega
  rw[tc];obtain⟨k1,k2⟩:=Mj (L:=L) (f:=ids[i]) (last:=(ids.drop (i+1)).isEmpty) (M:=N+100000) (hw.at_ KY) (by omega) (by omega) (by omega) KB;have Lk:(gy L d.R ids[i] (ids.drop (i+1)).isEmpty).1.1=true->(gy L d.R ids[i] (ids.drop (i+1)).isEmpty).1.2=true->(gy L d.R ids[i] (ids.drop (i+1)).isEmpty).2≠[]:=by
   unfold gy;simp only;split
   ·intro h;cases h
   split
   ·intro _ h;cases h
   intro _ _;simp
  refine Cg (qA lp dp ⟨L,base,size,none⟩ d ids[i] (ids.drop (i+1)).isEmpty Kz (by omega) br hB (hw.at_ KY) (by omega)) λw hS=>?_;generalize hLG:gy L d.R ids[i] (ids.drop (i+1)).isEmpty=y at *
  obtain⟨⟨is,ok⟩,L2⟩:=y;simp only at hS lI k1 k2 Lk ⊢;cases ok with
  | false=>
   refine zt ?_;rw[zzd rfl]at lI
   rw[lI];exact⟨_,⟨by decide,rfl,rfl⟩,aI hS⟩
  | true=>
   refine zs ?_;rw[zzb (by decide)]at lI
   have vz:∀{w:Ζ},(¬s4 (if i=0 then none else ids[i-1]?) ids[i]=true)->SL W (.ob (bQ lp dp ⟨L2,base,size,none⟩)::.ob (bk dp d)::.ob (aY iv 3 1 ids.length (ids.map (Value.int .i64)))::F) w ->
     ∃(wh:Bool) (i':Nat) (L:List bR),i'<=ids.length/\[Value.bool is,Γ ((i+1:Nat):Int)]=[.bool wh,Γ i']/\jz d.R ids none [] true=jz d.R (ids.drop i') (if i'=0 then none else ids[i'-1]?) L wh/\(∀s∈L,iM s (N+100000))/\L.length<=i'/\(wh=true->0<i'->L≠[])/\SL W (.ob (bQ lp dp ⟨L,base,size,none⟩)::.ob (bk dp d)::.ob (aY iv 3 1 ids.length (ids.map (Value.int .i64)))::F) w:=by
    intro w hp hS;refine⟨is,i+1,L2,by omega,rfl,?_,k1,by omega,λh _=>Lk h rfl,hS⟩;rw[zzb hp]at lI
    rw[lI,zzb (by omega),Nat.add_sub_cancel,zzc hj]
   refine bw (λh2=>?_) (λh2=>?_)
   ·have pE:i-1<ids.length:=by omega
    have xT:=hi _ (zzi pE);refine Gp ?_;have e:((i:Nat):Int)-1=((i-1:Nat):Int):=by omega
    rw[e];have Di:(ids.map (Value.int .i64))[i-1]?=some (Γ (ids[i-1]'pE)):=by simp[pE]
    refine yp hS (v:=iv) (t:=3) Xh pE Di ?_;have Lp:s4 (if i=0 then none else ids[i-1]?) ids[i]=decide (ids[i]≠(ids[i-1]'pE)+1):=by
     rw[zzb (by omega),zzc pE];rfl
    refine bw (λh3=>?_) (λh3=>?_)
    ·rw[zzd (by rw[Lp];simpa using h3)]at lI
     rw[lI];exact⟨_,⟨by decide,rfl,rfl⟩,aI hS⟩
    refine Gp ?_;exact⟨vz (by rw[Lp];simpa using h3) (aI hS),by dsimp only;omega⟩
   refine Gp ?_;have pC:i=0:=by omega
   exact⟨vz (by rw[zzd pC];simp[s4]) (aI hS),by dsimp only;omega⟩
 have eM:i=ids.length:=by omega
 rw[eM,vvr]at lI
 rw[lI];simp only[jz];have KM:=BK (L:=L) (ids:=ids) (wh:=wh) br;refine Cg (YD lp dp ⟨L,base,size,none⟩ d iv ids wh Kz (by omega) br (by omega) dH (λh d_=>UU h (by rw[eM];exact List.length_pos_iff.2 d_)) (by omega)) λw hS=>?_;simp only at hS ⊢;refine za (λh2=>?_) (λh2=>?_)
 ·rw[zzd h2];exact⟨_,⟨h2,rfl,rfl⟩,aI hS⟩
 rw[zzb h2];exact⟨_,⟨lp,rfl,rfl⟩,aI hS⟩
def qC(dp:Nat)(d:DS)(base size:Int){N:Nat}(br:d.Ok N)(hN:N<=1000000000)(hR:d.R.length<=100000)(dH:d.ops<=100000):
  SP 142 [Δ dp,Γ base,Γ size] [.ob (bk dp d)] (uq dp (eO d base size)):=
 Nr dp d base size br (by omega) (lV.all br.len base) hN hR dH
section
variable (lp dp:Nat) (g:b6) {M:Nat} (hg:g.Ok M) (hM:M<=1000000000000)
include hg hM
def ZE:SP 135 [Δ lp] [.ob (bQ lp dp g)] (bj (Γ (bF g.a_)) [.ob (bQ lp dp g)]):=by
 intro W F w hS;obtain⟨sv,tv,xs,hx,hS⟩:=bQ.iff.1 hS;obtain⟨h1,h2,_,_⟩:=hg.xs hx;refine yJ (yd lp (dc sv tv dp g.base g.size) 204 sv xs rfl h1 (by omega) (by omega)) hS Xp ?_;rintro v post ⟨rfl,rfl⟩ w hS;try simp only[app]at hS
 rw[hx];exact⟨_,⟨rfl,rfl⟩,bQ.iff.2 ⟨sv,tv,xs,hx,aI hS⟩⟩
def Zg:SP 136 [Δ lp] [.ob (bQ lp dp g)] (bj (Γ (cX g.a_)) [.ob (bQ lp dp g)]):=by
 intro W F w hS;obtain⟨sv,tv,xs,hx,hS⟩:=bQ.iff.1 hS;obtain⟨h1,h2,_,_⟩:=hg.xs hx;refine yJ (QG lp (dc sv tv dp g.base g.size) 204 sv xs rfl (by omega)) hS Xp ?_;rintro v post ⟨rfl,rfl⟩ w hS;try simp only[app]at hS
 rw[hx];exact⟨_,⟨rfl,rfl⟩,bQ.iff.2 ⟨sv,tv,xs,hx,aI hS⟩⟩
def ZJ(n:Int)(hn : -9000000000000000000<=n/\n<=9000000000000000000):SP 200 [Δ lp,Γ n] [.ob (bQ lp dp g)] (wI [.ob (bQ lp dp g)] (kA g.a_ n)):=by
 intro W F w hS;obtain⟨sv,tv,xs,hx,hS⟩:=bQ.iff.1 hS;obtain⟨h1,h2,_,_⟩:=hg.xs hx;refine yJ (qJ lp (dc sv tv dp g.base g.size) 204 sv xs n rfl h1 (by omega) (by omega) hn) hS Xp ?_;intro r post hQ w hS;rw[hx]at hQ
 cases hr:kA g.a_ n with
 | none=>
  rw[hr]at hQ
  obtain⟨rfl,rfl⟩:=hQ;try simp only[app]at hS
  exact⟨_,⟨rfl,rfl⟩,bQ.iff.2 ⟨sv,tv,xs,hx,aI hS⟩⟩
 | some b=>
  rw[hr]at hQ
  obtain⟨u,rfl,rfl⟩:=hQ;try simp only[app]at hS
  have hS:=(bQ.iff (g:=g)).2 ⟨sv,tv,xs,hx,SL.bA hS (t:=.pt lp (dc sv tv dp g.base g.size) 204::cW sv xs::.ob (ze cB xs)::.ob (dE tv g.cE)::.ob (aY u 5 1 b.length (b.map bo))::F) Xi⟩;exact⟨_,⟨u,rfl,rfl⟩,aI hS⟩
end
def bN.pO{W w:Ζ}{l:Β}{X:Μ}{v:Ε}{b:Φ}(h:bN X v b)(hS:SL W l w)(m:Has X l):∃a n c,v= .slice a n c:=by
 obtain⟨a,c,e,_⟩:=h.sl hS m;exact⟨a,_,c,e⟩
def Zr(X Y:Μ)(v1 v2:Ε)(b1 b2:Φ)(h1:bN X v1 b1)(h2:bN Y v2 b2):
  SP 13 [v1,v2] [X,Y] (bj (.bool (decide (b1=b2))) [X,Y]):=by
 refine Enzz λW F w hS=>?_;apply OV;refine yf (h1.pO hS Xh) (h1.src hS Xh) yyw yyx yyy ?_;refine yf (h2.pO hS Xh) (h2.src hS Xh) yyw yyx yyy ?_;refine Gp ?_;have e:decide (ji b1=ji b2)=decide (b1=b2):=by congr 1;exact propext Jn
 rw[e];(exact bt hS)
def YF(X:Μ)(v1 v2:Ε)(b1 b2:Φ)(h1:bN X v1 b1)(h2:bN X v2 b2):
  SP 13 [v1,v2] [X] (bj (.bool (decide (b1=b2))) [X]):=by
 refine Enzz λW F w hS=>?_;apply OV;refine yf (h1.pO hS Xh) (h1.src hS Xh) yyw yyx yyy ?_;refine yf (h2.pO hS Xh) (h2.src hS Xh) yyw yyx yyy ?_;refine Gp ?_;have e:decide (ji b1=ji b2)=decide (b1=b2):=by congr 1;exact propext Jn
 rw[e];(exact bt hS)
def Nq{d d':DS}{base size:Int}{N:Nat}(hw:lV d.R base N)(hR:d.R.length<=100000){g:b6}(h:eO d base size=(d',.ok g)):gY g (N+100000):=by
 have hk:=(Xf hw hR h).1;unfold eO at h;split at h
 ·cases h
 split at h
 ·cases h
 split at h
 ·cases h
 rename_i L wh hl;obtain⟨k1,k2⟩:=Mm _ _ [] _ trivial (by decide) hl;split at h
 ·cases h
 cases h;exact⟨hk,k1,k2,λx hx=>by cases hx⟩
def Xe{d d':DS}{base size:Int}{N:Nat}(br:d.Ok N)(hR:d.R.length<=100000){g:b6}(h:eO d base size=(d',.ok g)):gY g (N+100000):=Nq (lV.all br.len base) hR h
def LP:∀(l:Α) (a N:Nat),a<=N->l.Pairwise (· < ·)->(∀x∈l,a<=x/\x<N)->l.length+a<=N
 | [],a,N,h,_,_=>by simpa using h
 | x::l,a,N,_,hp,hx=>by
  have h1:=hx x (.head _);obtain⟨pG,tn⟩:=yyc.1 hp;have:=LP l (x+1) N (by omega) tn λy hy=>⟨pG y hy,(hx y (.tail _ hy)).2⟩;rw[zzg];omega
def DS.Ok.NS{s:DS}{N:Nat}(h:s.Ok N):s.R.length<=16384:=by
 have hs:(s.R.map λx=>x.id.toNat).Pairwise (· < ·):=by
  rw[uuu];refine List.Pairwise.imp_of_mem (λ{a b} ha hb cA=>?_) h.sorted;have h1:=h.ids a ha;have h2:=h.ids b hb;have cA:a.id<b.id:=cA;omega
 have:=LP _ 0 16384 (by decide) hs λn hn=>by
  obtain⟨x,hx,rfl⟩:=zz1.1 hn;have:=h.ids x hx;omega
 simpa using this
abbrev iD(b:Nat):Ε:=Δ b
abbrev nj(gp dp lp pp:Nat)(aR:Int)(rv:Ε):Ξ:=[iD gp,iD dp,iD lp,iD pp,Γ aR,rv]
def bX(kp gp dp lp pp:Nat)(H:aX)(k:c_):zw:=gi λrv:Ε=>zG (fX H rv k.reqs) [.pt kp (nj gp dp lp pp k.aR rv) 198,.ob (fT gp k.ts),.ob (bQ lp dp k.g),.ob (kE pp k.plan),.ob (bk dp k.d)]
section
variable {W w:Ζ} {l F:Β} {kp gp dp lp pp:Nat} {H:aX} {k:c_}
def bX.iff:SL W (.ob (bX kp gp dp lp pp H k)::l) w↔∃rv,fX H rv k.reqs/\SL W (.pt kp (nj gp dp lp pp k.aR rv) 198::.ob (fT gp k.ts)::.ob (bQ lp dp k.g)::.ob (kE pp k.plan)::.ob (bk dp k.d)::l) w:=by
 unfold bX;simp only[SL.ex,SL.fact,zzq,zzp]
def bX.put(k:c_){rv:Ε}(hS:SL W l w)(hr:fX H rv k.reqs)(p:eQ [.pt kp (nj gp dp lp pp k.aR rv) 198,.ob (fT gp k.ts),.ob (bQ lp dp k.g),.ob (kE pp k.plan),.ob (bk dp k.d)] l F):SL W (.ob (bX kp gp dp lp pp H k)::F) w:=bX.iff.2 ⟨rv,hr,hS.pick p⟩
def bX.lR{g:b6}{d:DS}{ts:List (List Cell)}{plan:List fE}{aR:Int}{reqs:List Rq}{rv:Ε}(hS:SL W l w)(hr:fX H rv reqs)(p:eQ [.pt kp (nj gp dp lp pp aR rv) 198,.ob (fT gp ts),.ob (bQ lp dp g),.ob (kE pp plan),.ob (bk dp d)] l F):SL W (.ob (bX kp gp dp lp pp H ⟨g,d,ts,plan,aR,reqs⟩)::F) w:=bX.iff.2 ⟨rv,hr,hS.pick p⟩
def bX.mono{H':aX}(hh:H.le H')(h:SL W (.ob (bX kp gp dp lp pp H k)::l) w):SL W (.ob (bX kp gp dp lp pp H' k)::l) w:=by
 obtain⟨rv,hr,hS⟩:=bX.iff.1 h;exact bX.iff.2 ⟨rv,hr.mono hh,hS⟩
def bX.M0{W w:Ζ}{l F:Β}{H H':aX}{kp gp dp lp pp:Nat}{k:c_}(hh:H.le H')(hS:SL W l w)(r:dW (.ob (bX kp gp dp lp pp H k)) l F):SL W (.ob (bX kp gp dp lp pp H' k)::F) w:=bX.mono hh (hS.perm r.perm)
def bX.open(hS:SL W l w)(r:dW (.ob (bX kp gp dp lp pp H k)) l F):∃rv,fX H rv k.reqs/\SL W (.pt kp (nj gp dp lp pp k.aR rv) 198::.ob (fT gp k.ts)::.ob (bQ lp dp k.g)::.ob (kE pp k.plan)::.ob (bk dp k.d)::F) w:=bX.iff.1 (hS.perm r.perm)
end
def ux(o:Option (List Rq))(H:aX)(u:Ε):Prop:=match o with
 | none=>∃x,u= .tuple #[x,.bool false]
 | some L=>∃x,u= .tuple #[x,.bool true]/\fX H x L
def M_{L L':List Rq}{n:gD}(h:n_ L n=some L'):L'.length<=64:=by
 unfold n_ at h;split at h
 ·exact (Ju h).1
 split at h
 ·rename_i L2 h2;split at h
  ·cases h;exact (I7 h2).1
  cases h
 cases h
def qw(H:aX)(v:Ε)(L:List Rq)(n:gD)(hv:fX H v L)(hL:L.length<=64)(hn:jL n.id):
  SP 270 [v,agg (lY n)] [.mem H] (λu post=>∃H',H.le H'/\ux (n_ L n) H' u/\post=[.mem H']):=by
 refine Enzz λW F w hS=>?_;apply aX3;delta aF aW ba ai;refine zu hS λb w hS=>?_;obtain⟨kind,id,table,weight,at_,cN,done⟩:=n;have hn:jL id:=hn;unfold lY at hS;unfold n_;refine bw (λhk=>?_) (λhk=>?_)
 ·rw[zzd hk];refine Gp ?_;refine Cc (YQ H v L id cN done hv (by omega) hn) ?_;clear hS;rintro u post ⟨H',hh,rfl,hq⟩ w hS;simp only;cases hc:ly L id cN done with
  | none=>
   rw[hc]at hq
   obtain rfl:=hq;(try simp only[app]at hS);refine Gp ?_
   exact⟨_,⟨H',hh,⟨_,rfl⟩,rfl⟩,aI hS⟩
  | some L'=>
   rw[hc]at hq
   obtain⟨x,rfl,hx⟩:=hq;(try simp only[app]at hS);refine Gp ?_
   exact⟨_,⟨H',hh,⟨_,rfl,hx⟩,rfl⟩,aI hS⟩
 rw[zzb hk];refine Gp ?_;refine Cc (Ym H v L table weight at_ hv (by omega)) ?_;clear hS;rintro u post ⟨H',hh,rfl,hq⟩ w hS;simp only;cases hc:rn L table weight at_ with
 | none=>
  rw[hc]at hq
  obtain rfl:=hq;refine Gn λw hS=>?_;exact⟨_,⟨H',hh,⟨_,rfl⟩,rfl⟩,aI hS⟩
 | some L'=>
  rw[hc]at hq
  obtain⟨x,rfl,hx⟩:=hq;refine Gn λw hS=>?_;refine zh hx ?_;refine Gp ?_;by_cases he:id=(L'.length:Int)
  ·rw[zzr he];exact⟨_,⟨H',hh,(by simp only;rw[zzd he];exact⟨_,rfl,hx⟩),rfl⟩,aI hS⟩
  rw[zz5 he];exact⟨_,⟨H',hh,(by simp only;rw[zzb he];exact⟨_,rfl⟩),rfl⟩,aI hS⟩
def S2{n:Nat}{L:List Rq}{t:bV}{i:Nat}(hi:i<t.ops.length)(h:(n:Int)<=t.ops[i].table):ic n L t=none:=by
 unfold ic;rw[zzb];rintro ⟨_,h2⟩;unfold sq at h2;rw[zzw]at h2
 have:=zzl (h2 _ (zzi hi));omega
def aF3{n:Nat}{t:bV}(h:∀j (hj:j<t.ops.length),t.ops[j].table<(n:Int)):sq n t=true:=by
 unfold sq;rw[zzw];intro o ho;obtain⟨j,hj,rfl⟩:=yyf ho;exact zzr (h j hj)
def WS{L:List Rq}{l:List gD}{i:Nat}(h:i<l.length):kz L (l.drop i)=match n_ L l[i] with|some L'=>kz L' (l.drop (i+1))|none=>none:=by
 rw[yya h];rfl
structure EP(t:bV):Prop where
 ids:∀n∈t.notes,jL n.id
 ops:t.ops.length<=140737488351232
 iC:t.notes.length<=140737488351232
def Z3(kp gp dp lp pp:Nat)(H:aX)(k:c_)(x:rh)(t:bV)(hx:jF H x t)(hi:EP t)(pJ:k.reqs.length<=64):
  SP 202 [iD kp,agg (kn x)] [.ob (bX kp gp dp lp pp H k),.mem H] (λu post=>∃H',H.le H'/\ux (ic k.ts.length k.reqs t) H' u/\post=[.ob (bX kp gp dp lp pp H' k),.mem H']):=by
 refine Enzz λW F w hS=>?_;apply aWz;delta aF bd aW ba bD ai bn aZ;refine zu hS λxb w hS=>?_;obtain⟨rv,hr,hS⟩:=bX.open (k:=k) hS Xr;unfold kn at hS;rw[hx.aR]at hS
 have ho1:=hi.ops;have kY:=hi.iC;refine Gp ?_;refine zh hx.ops ?_;obtain⟨F2,kq⟩:∃F2,F2= .ob (bQ lp dp k.g)::.ob (kE pp k.plan)::.ob (bk dp k.d)::F:=⟨_,rfl⟩;have hS:=SL.bA hS (t:=.pt kp (nj gp dp lp pp k.aR rv) 198::.ob (fT gp k.ts)::.pt xb [Γ t.aR,x.ov,x.nv] 263::.mem H::.ob (bQ lp dp k.g)::.ob (kE pp k.plan)::.ob (bk dp k.d)::F) Xi;rw[<- kq]at hS
 have gI:∀{w:Ζ} {H':aX} {u:Ε},H.le H'->ux (ic k.ts.length k.reqs t) H' u->SL W (.pt kp (nj gp dp lp pp k.aR rv) 198::.ob (fT gp k.ts)::.mem H'::F2) w->∃post,(∃H',H.le H'/\ux (ic k.ts.length k.reqs t) H' u/\post=[.ob (bX kp gp dp lp pp H' k),.mem H'])/\SL W (app post F) w:=λhh hq hS=>by
  rw[kq]at hS
  have hS:=bX.put k hS (hr.mono hh) Xp;exact⟨_,⟨_,hh,hq,rfl⟩,aI hS⟩
 refine⟨λvs w=>∃i:Nat,vs=[Γ i]/\i<=t.ops.length/\(∀j (hj:j<t.ops.length),j<i->t.ops[j].table<(k.ts.length:Int))/\SL W (.pt kp (nj gp dp lp pp k.aR rv) 198::.ob (fT gp k.ts)::.pt xb [Γ t.aR,x.ov,x.nv] 263::.mem H::F2) w,
  λvs _=>match vs with|[.int _ i]=>(t.ops.length-i).toNat|_=>0,⟨0,rfl,by omega,λj hj h=>by omega,hS⟩,?_⟩
 clear hS;rintro tZ w ⟨i,b9,bg,b5,hS⟩;cases b9;refine bw (λh=>?_) (λh=>?_)
 ·have bg:i<t.ops.length:=by omega
  refine zy hS Xh B' hx.ops (x:=t.ops[i]) (by simp[bg]) bg ?_;refine Gm λb w hS=>?_;refine Cg (Y0 gp k.ts) λw hS=>?_;refine za (λh2=>?_) (λh2=>?_)
  ·refine gI (aX.le_refl H) ?_ (aI hS);rw[S2 bg h2];exact⟨_,rfl⟩
  refine Gp ?_;refine⟨⟨i+1,rfl,by omega,λj hj gJ=>?_,aI hS⟩,by dsimp only;omega⟩;by_cases e:j=i
  ·subst e;omega
  exact b5 j hj (by omega)
 have Ae:=aF3 (n:=k.ts.length) (t:=t) λj hj=>b5 j hj (by omega);clear b5;refine Gp ?_;refine zh hx.iC ?_;have xV:∀{o},kz k.reqs t.notes=o->fy t=true->ic k.ts.length k.reqs t=o:=λh hm=>by unfold ic;rw[zzd ⟨hm,Ae⟩,h]
 have CQ:kz k.reqs t.notes=none->ic k.ts.length k.reqs t=none:=λh=>by unfold ic;split;exact h;rfl
 refine⟨λvs w=>∃(i:Nat) (L:List Rq) (u:Ε) (H2:aX),vs=[u,Γ i]/\i<=t.notes.length/\L.length<=64/\kz k.reqs t.notes=kz L (t.notes.drop i)/\H.le H2/\fX H2 u L/\SL W (.pt kp (nj gp dp lp pp k.aR rv) 198::.ob (fT gp k.ts)::.pt xb [Γ t.aR,x.ov,x.nv] 263::.mem H2::F2) w,
  λvs _=>match vs with|[_,.int _ i]=>(t.notes.length-i).toNat|_=>0,⟨0,k.reqs,rv,H,rfl,by omega,pJ,rfl,aX.le_refl H,hr,aI hS⟩,?_⟩
 clear hS;rintro u v35 w ⟨i,L,_,H2,b9,bg,hL,cU,ep,hu,hS⟩;cases b9;have lN:=hx.mono ep;refine bw (λh=>?_) (λh=>?_)
 ·have bg:i<t.notes.length:=by omega
  rw[WS bg]at cU
  refine zy hS Xh B9 lN.iC (x:=t.notes[i]) (by simp[bg]) bg ?_;have hid:=hi.ids _ (zzi bg);generalize t.notes[i]=n at *
  refine Gm λb w hS=>?_;refine Cc (qw H2 u L n hu hL hid) ?_;clear hS;rintro u post ⟨H3,da,hq,rfl⟩ w hS;cases hc:n_ L n with
  | none=>
   rw[hc]at hq cU
   obtain⟨x,rfl⟩:=hq;(try simp only[app]at hS);refine Gp ?_
   refine zt ?_;refine gI (aX.le_trans ep da) ?_ (aI hS);rw[CQ cU];exact⟨_,rfl⟩
  | some L'=>
   have rQ:=M_ hc;rw[hc]at hq cU
   obtain⟨x,rfl,iS⟩:=hq;(try simp only[app]at hS);refine Gp ?_
   refine zs ?_;refine Gp ?_;exact⟨⟨i+1,L',x,H3,rfl,by omega,rQ,cU,aX.le_trans ep da,iS,aI hS⟩,by dsimp only;omega⟩
 have eM:i=t.notes.length:=by omega
 subst eM;rw[vvr]at cU
 refine zH hS Xh rfl ?_;have e:([Γ t.aR,x.ov,x.nv]:Ξ)=kn x:=by unfold kn;rw[hx.aR]
 rw[e];refine Cg (yY H2 x t lN) λw hS=>?_;refine gI ep ?_ (aI hS);cases hm:fy t with
 | true=>rw[xV cU hm];exact⟨_,rfl,hu⟩
 | false=>rw[show ic k.ts.length k.reqs t=none by unfold ic;rw[hm];rfl];exact⟨_,rfl⟩
def Q7(kp gp dp lp pp:Nat)(H:aX)(k:c_)(x:rh)(t:bV)(L:List Rq)(lv:Ε)(hx:jF H x t)(hl:fX H lv L)(hn:t.ops.length<=1000000)(hk:∀o∈t.ops,jL o.key):
  SP 203 [iD kp,agg (kn x),lv] [.ob (bX kp gp dp lp pp H k),.mem H] (bj (.tuple #[]) [.ob (bX kp gp dp lp pp H (k.B3 t L)),.mem H]):=by
 refine Enzz λW F w hS=>?_;apply aW0;delta bd aW cq ba;refine zu hS λxb w hS=>?_;obtain⟨rv,hr,hS⟩:=bX.open (k:=k) hS Xr;unfold kn at hS;rw[hx.aR]at hS
 have h1:=bK.one hl;refine Gn λw hS=>?_;refine Cg (Qy H gp k.ts x.ov t.ops hx.ops hn hk) λw hS=>?_;have hS:SL W (.ob (bX kp gp dp lp pp H (k.B3 t L))::_) _:=bX.lR hS hl Xp;exact bt hS
structure Pk(g:b6)(d:DS)(f n:Int)(es:List Φ)(p:Φ):Prop where
 off:d.off=false
 cE:E4 d f n es p false
 m2:∀a,a≠1->0<=a->∃g2 d2,cY g {d with arm:=a}=((g2,d2),0)/\mG g2 d2 f n es/\0<=d2.arm/\(a=0->d2.arm=0)/\d2.ops=d.ops+1/\g2.a_=g.a_/\g2.base=g.base/\g2.size=g.size
 m1:∃d2,cY g {d with arm:=1}=((g,d2),8)/\d2.R=d.R/\d2.off=true/\d2.ops=d.ops+1
def St(g:b6)(d:DS)(es:List Φ)(m:Option Φ):Prop:=
 (mG g d 8192 1 es/\g.base=8192)\/((∃p,Pk g d 8192 1 es p)/\g.base=8192)\/(d.off=true/\∃q w,E4 d 8192 1 es q w/\(w=true->m=some q))
def mG.st{g:b6}{d:DS}{es:List Φ}(h:mG g d 8192 1 es)(hb:g.base=8192)(m:Option Φ):St g d es m:=.inl ⟨h,hb⟩
def hJ.head{L:List bR}(h:hJ L)(hL:L≠[]):bF L=cX L+(cr L).length-1:=by
 induction L with
 | nil=>exact absurd rfl hL
 | cons s r ih=>
  cases r with
  | nil=>simp[bF,cX,cr,bR.next]
  | cons t r=>
   have h1:=ih h.2 (by simp);have h2:bF (s::t::r)=bF (t::r):=by simp only[bF,List.getLast?_cons_cons]
   have h3:=h.1;rw[h2,h1,uX s (t::r),zza];simp only[bR.next]at h3;show cX (t::r)+_-1=s.first+_-1;have:cX (t::r)=t.first:=rfl;rw[this];omega
def hJ.read:∀{L:List bR},hJ L->∀i:Nat,kA L (cX L+i)=(cr L)[i]?
 | [],_,i=>by simp[kA,cr]
 | [s],_,i=>by
  have e:cX [s]=s.first:=rfl;rw[e,kA,uX];have he:cr []=([]:List Φ):=rfl;rw[he,zz4];by_cases h:i<s.l.length
  ·rw[zzd ⟨by omega,by show s.first+i<s.first+s.l.length;omega⟩];congr 1;omega
  rw[zzb (by rintro ⟨_,h2⟩;have h2:s.first+i<s.first+s.l.length:=h2;omega),yys (by omega)];rfl
 | s::t::r,h,i=>by
  have e:cX (s::t::r)=s.first:=rfl;have e2:cX (t::r)=t.first:=rfl;have h1:=h.1;simp only[bR.next]at h1;rw[e,kA,uX];by_cases hi:i<s.l.length
  ·rw[zzd ⟨by omega,by show s.first+i<s.first+s.l.length;omega⟩,zzs hi];congr 1;omega
  rw[zzb (by rintro ⟨_,h2⟩;have h2:s.first+i<s.first+s.l.length:=h2;omega),zz3 (by omega)];have:=hJ.read h.2 (i-s.l.length);rw[e2]at this
  rw[<- this];congr 1;omega
def runT(cV:Nat):List bV->Tr->Option Tr
 | [],t=>some t
 | x::r,t=>match stepT cV t x with
  | some t'=>runT cV r t'
  | none=>none
structure wK(cV:Nat)(k:c_)(xs:List bV)(m:Option bV):Prop where
 st:St k.g k.d (xs.map uI) (m.map uI)
 may:∀x∈xs,fy x=true
 run:runT cV xs (nz cV)=some k.tr
 len:k.ts.length=cV
 way:∀x,m=some x->fy x=true/\∃t,stepT cV k.tr x=some t
def aFn{cV:Nat}{t:Tr}{x:bV}{L:List Rq}(hf:ic cV t.2.1 x=some L)(hl:t.2.2<x.aR):stepT cV t x=some ((dQ t.1 x.ops).1,L,x.aR):=by
 unfold stepT;rw[hf];simp only;rw[zzd hl]
def Ka{n:Nat}{L L':List Rq}{x:bV}(h:ic n L x=some L'):fy x=true/\sq n x=true/\kz L x.notes=some L':=by
 unfold ic at h;split at h
 ·rename_i hc;exact⟨hc.1,hc.2,h⟩
 cases h
def Jf{L:List bR}(h:hJ L):bF L-cX L+1=((cr L).length:Int):=by
 by_cases hL:L=[]
 ·subst hL;rfl
 rw[h.head hL];omega
def Mq{L:List bR}{N:Nat}(h:∀s∈L,iM s N):1<=cX L/\cX L<=1099511627776:=by
 cases L with
 | nil=>exact⟨yyv _,by show (1:Int)<=_;decide⟩
 | cons s r=>exact⟨(h s (.head _)).n0,(h s (.head _)).n1⟩
def yU(kp gp dp lp pp:Nat)(H:aX)(k:c_):SP 87 [iD kp] [.ob (bX kp gp dp lp pp H k)] (bj (Γ k.aR) [.ob (bX kp gp dp lp pp H k)]):=by
 refine Enzz λW F w hS=>?_;apply a_4;delta bd;obtain⟨rv,hr,hS⟩:=bX.iff.1 hS;refine Gp ?_;exact⟨_,⟨rfl,rfl⟩,bX.iff.2 ⟨rv,hr,hS⟩⟩
def yX(kp gp dp lp pp:Nat)(H:aX)(k:c_){N:Nat}(hg:gY k.g N)(hN:N<=1000000000000):SP 199 [iD kp] [.ob (bX kp gp dp lp pp H k)] (bj (Γ ((cr k.g.a_).length:Int)) [.ob (bX kp gp dp lp pp H k)]):=by
 refine Enzz λW F w hS=>?_;apply aWw;delta bd ba bG ai;obtain⟨rv,hr,hS⟩:=bX.iff.1 hS;have h1:=rO hg.ok.a_;have h2:=Mq hg.ok.a_;have h3:=Jf hg.seq;refine Gn λw hS=>?_;refine Cg (ZE lp dp k.g hg.ok hN) λw hS=>?_;refine Cg (Zg lp dp k.g hg.ok hN) λw hS=>?_;rw[h3];have hS:=bX.put k hS hr Xp;exact bt hS
def YO(kp gp dp lp pp:Nat)(H:aX)(k:c_)(hq:k.reqs.length<=64):SP 153 [iD kp] [.ob (bX kp gp dp lp pp H k),.mem H] (λv post=>post=[.ob (aY v 321 7 k.reqs.length (k.reqs.map ia).flatten),.ob (bX kp gp dp lp pp H k),.mem H]):=by
 refine Enzz λW F w hS=>?_;apply aR9;delta bd;obtain⟨rv,hr,hS⟩:=bX.iff.1 hS;refine Gp ?_;refine Cc (ym H rv k.reqs hr (by omega)) ?_;clear hS;rintro u post rfl w hS;try simp only[app]at hS
 have hS:=bX.put (H:=H) k hS hr Xp;exact⟨_,rfl,aI hS⟩
def qz(kp gp dp lp pp:Nat)(H:aX)(k:c_)(hq:k.reqs.length<=64):SP 153 [iD kp] [.ob (bX kp gp dp lp pp H k),.mem H] (λv post=>∃H',H.le H'/\fX H' v k.reqs/\post=[.ob (bX kp gp dp lp pp H' k),.mem H']):=by
 intro W F w hS;refine zL.mono (YO kp gp dp lp pp H k hq W F w hS) ?_;rintro u w ⟨post,rfl,hS⟩;try simp only[app]at hS
 obtain⟨H',hh,hR,hS⟩:=zW (H:=H) (v:=u) (n:=k.reqs.length) (sz:=7) (t:=321) (cells:=(k.reqs.map ia).flatten) hS Xp;have hS:=bX.M0 hh hS Xr;exact⟨_,⟨H',hh,hR,rfl⟩,aI hS⟩
def c_.at(k:c_)(t:Tr):c_:={k with ts:=t.1,reqs:=t.2.1,aR:=t.2.2}
def MC{t:bV}(h:fy t=true):EP t/\∀o∈t.ops,jL o.key:=by
 obtain⟨⟨_,_,h1,h2⟩,h3,h4⟩:=vU.1 h;refine⟨⟨λn hn=>?_,by omega,by omega⟩,λo ho=>?_⟩
 ·have:=h4 n hn;unfold iU at this;rw[zzo]at this
  unfold jL;omega
 have:=h3 o ho;unfold jB at this;rw[zzo]at this
 unfold jL;omega
def JI{b:Φ}{t:bV}(h:lX b= .ok t):fy t=true:=by
 unfold lX at h;split at h
 ·cases h
 split at h
 ·rename_i x hx;cases h;unfold xj at hx;simp only at hx;split at hx
  ·rename_i hc;cases hx;exact hc.2.2
  cases hx
 cases h
def W5{ts:List (List Cell)}(h:oa ts){t:bV}(hm:fy t=true):oa (dQ ts t.ops).1:=W4 h (MC hm).2
def aw1{ts:List (List Cell)}{m:Nat}(h:small ts (4096*(m+1))){t:bV}(hm:fy t=true):small (dQ ts t.ops).1 (4096*m):=
 aw0 (Oh h (by have:=(vU.1 hm).1.2.2.1;omega))
def c_.i_(k:c_):Option Tr:=if cX k.g.a_≠1/\0<(cr k.g.a_).length then none else pX k.ts.length (cr k.g.a_) k.tr
structure rj(t:Tr)(n m:Nat):Prop where
 len:t.1.length=n
 ok:oa t.1
 room:small t.1 (4096*m)
 rq:t.2.1.length<=64
def Nb{L L':List Rq}:∀{l:List gD},kz L l=some L'->L.length<=64->L'.length<=64
 | [],h,hl=>by cases h;exact hl
 | n::l,h,hl=>by
  unfold kz at h;cases hn:n_ L n with
  | none=>rw[hn]at h;cases h
  | some L2=>rw[hn]at h;exact Nb h (M_ hn)
def rj.step{t t':Tr}{n m:Nat}(h:rj t n (m+1)){x:bV}(hs:stepT n t x=some t'):rj t' n m:=by
 unfold stepT at hs;cases hf:ic n t.2.1 x with
 | none=>rw[hf]at hs;cases hs
 | some L=>
  rw[hf]at hs
  simp only at hs;split at hs
  ·cases hs;obtain⟨hm,_,hn⟩:=Ka hf;exact⟨by show (dQ _ _).1.length=n;rw[XQ,h.len],W5 h.ok hm,aw1 h.room hm,Nb hn h.rq⟩
  cases hs
def qy(kp gp dp lp pp:Nat)(H:aX)(k:c_){N m:Nat}(hg:gY k.g N)(hN:N<=1000000000000)(ht:rj k.tr k.ts.length m)(hm:(cr k.g.a_).length<=m)(tm:m<=100000):
  SP 147 [iD kp] [.ob (bX kp gp dp lp pp H k),.mem H] (λv post=>∃H',H.le H'/\match k.i_ with
   | none=>v= .bool false/\post=[.ob (bk dp k.d),.mem H']
   | some t=>v= .bool true/\post=[.ob (bX kp gp dp lp pp H' (k.at t)),.mem H']):=by
 refine Enzz λW F w hS=>?_;apply aR2;delta aF bd aW bG bD bc ai aZ;have h2:=Mq hg.ok.a_;have hF:∀{w:Ζ} {H':aX} {t:Tr},k.i_=none->H.le H'->SL W (.ob (bX kp gp dp lp pp H' (k.at t))::.mem H'::F) w->∃post,(∃H',H.le H'/\match k.i_ with
   | none=>(.bool false:Ε)= .bool false/\post=[.ob (bk dp k.d),.mem H']
   | some t=>(.bool false:Ε)= .bool true/\post=[.ob (bX kp gp dp lp pp H' (k.at t)),.mem H'])/\SL W (app post F) w:=λhr hh hS=>by
  rw[hr];obtain⟨rv,Lt,hS⟩:=bX.iff.1 hS;exact⟨[.ob (bk dp k.d),.mem _],⟨_,hh,rfl,rfl⟩,SL.bA (show SL W (_::_::_::_::.ob (bk dp k.d)::_) _ from hS) Xi⟩
 refine⟨λus w=>us=[]/\¬(cX k.g.a_≠1/\0<(cr k.g.a_).length)/\SL W (.ob (bX kp gp dp lp pp H k)::.mem H::F) w,?_,?_⟩
 ·obtain⟨rv,hr,hS⟩:=bX.iff.1 hS;refine Gp ?_;refine Cg (Zg lp dp k.g hg.ok hN) λw hS=>?_;have hS:=bX.put k hS hr Xp;refine za (λh1=>?_) (λh1=>?_)
  ·refine Cg (yX kp gp dp lp pp H k hg hN) λw hS=>?_;refine za (λh3=>?_) (λh3=>?_)
   ·exact hF (t:=k.tr) (by unfold c_.i_;rw[zzd ⟨h1,by omega⟩]) (aX.le_refl H) hS
   exact⟨rfl,λh=>by omega,aI hS⟩
  exact⟨rfl,λh=>h1 h.1,aI hS⟩
 clear hS;rintro w ⟨-,vw,hS⟩;have hK:k.i_=pX k.ts.length (cr k.g.a_) k.tr:=by unfold c_.i_;rw[zzb vw]
 refine⟨λus w=>∃(i:Nat) (t:Tr) (H2:aX),us=[Γ ((i+1:Nat):Int)]/\i<=(cr k.g.a_).length/\k.i_=pX k.ts.length ((cr k.g.a_).drop i) t/\rj t k.ts.length (m-i)/\H.le H2/\SL W (.ob (bX kp gp dp lp pp H2 (k.at t))::.mem H2::F) w,
  λus _=>match us with|[.int _ i]=>((cr k.g.a_).length+1-i).toNat|_=>0,⟨0,k.tr,H,rfl,yye _,hK,ht,aX.le_refl H,hS⟩,?_⟩
 clear hS;rintro v3 w ⟨i,t,H2,bM,hi,bU,hT,ep,hS⟩;cases bM;refine Cc (yX kp gp dp lp pp H2 (k.at t) hg hN) ?_;clear hS;rintro _ post ⟨rfl,rfl⟩ w hS;try simp only[app]at hS
 rw[show (cr (k.at t).g.a_).length=(cr k.g.a_).length from rfl];refine bw (λh=>?_) (λh=>?_)
 ·have bg:i<(cr k.g.a_).length:=by omega
  have rS:cX k.g.a_=1:=by
   rcases Int.lt_trichotomy (cX k.g.a_) 1 with h|h|h
   ·omega
   ·exact h
   exact absurd ⟨by omega,by omega⟩ vw
  have vF:=hg.seq.read i;rw[rS,zzc bg]at vF
  rw[yya bg]at bU
  generalize vk:(cr k.g.a_)[i]=bs at *
  have bU:k.i_=match lX bs with
   | .ok x=>match stepT k.ts.length t x with
    | some t'=>pX k.ts.length ((cr k.g.a_).drop (i+1)) t'
    | none=>none
   | .error _=>none:=bU
  obtain⟨rv,hr,hS⟩:=bX.iff.1 hS;refine Gp ?_;refine Cc (ZJ lp dp (k.at t).g hg.ok hN ((i+1:Nat):Int) (by omega)) ?_;clear hS;rintro r post hq w hS;have hq:wI [.ob (bQ lp dp (k.at t).g)] (kA k.g.a_ ((i+1:Nat):Int)) r post:=hq;rw[show ((i+1:Nat):Int)=1+(i:Int) by omega,vF]at hq
  obtain⟨u,rfl,rfl⟩:=hq;try simp only[app]at hS
  have hS:=bX.put (k.at t) hS hr Xp;refine Gp ?_;refine Cc (QM (.ob (aY u 5 1 bs.length (bs.map bo))) H2 u bs bN.own) ?_;clear hS;rintro r post hq w hS;unfold sx at hq;cases hd:lX bs with
  | error e=>
   rw[hd]at hq bU
   obtain⟨d_,H3,da,rfl,rfl⟩:=hq;try simp only[app]at hS
   have hS:=bX.mono da (Has.front (c:=.ob (bX kp gp dp lp pp H2 (k.at t))) hS Xr);refine Gm λb w hS=>?_;refine Cc (Z3 kp gp dp lp pp H3 (k.at t) ⟨0,Θ,Θ⟩ ⟨0,[],[]⟩ ⟨rfl,bK.nil _ _,bK.nil _ _⟩ ⟨by simp,by simp,by simp⟩ hT.rq) ?_;clear hS;rintro u2 post ⟨H4,jZ,jK,rfl⟩ w hS;have hu:∃y b,u2= .tuple #[y,.bool b]:=by
    unfold ux at jK;split at jK
    ·obtain⟨y,e⟩:=jK;exact⟨y,_,e⟩
    obtain⟨y,e,_⟩:=jK;exact⟨y,_,e⟩
   obtain⟨y,qb,rfl⟩:=hu;refine Gn λw hS=>?_;refine za (λ_=>?_) (λh=>absurd d_ h);exact hF bU (aX.le_trans ep (aX.le_trans da jZ)) (aI hS)
  | ok x=>
   rw[hd]at hq bU
   obtain⟨xv,H3,da,rfl,hx,rfl⟩:=hq;obtain⟨Ub,Ug⟩:=MC (JI hd);have tx:=(vU.1 (JI hd)).1.2.2.1;have LF:kn xv=[Γ x.aR,xv.ov,xv.nv]:=by unfold kn;rw[hx.aR]
   try simp only[app]at hS
   have hS:=bX.mono da (Has.front (c:=.ob (bX kp gp dp lp pp H2 (k.at t))) hS Xr);have h1:=JX hx;refine Gp ?_;refine zD hS λxb w hS=>?_;refine zO hS Xu rfl rfl h1 λw hS=>?_;refine zH hS Xh rfl ?_;refine Cc (Z3 kp gp dp lp pp H3 (k.at t) xv x hx Ub hT.rq) ?_;clear hS;rintro u2 post ⟨H4,jZ,jK,rfl⟩ w hS;have Cw:=aX.le_trans ep (aX.le_trans da jZ);have lH:ic (k.at t).ts.length (k.at t).reqs x=ic k.ts.length t.2.1 x:=by rw[show (k.at t).ts.length=k.ts.length from hT.len];rfl
   rw[lH]at jK
   simp only at bU;unfold stepT at bU;cases hc:ic k.ts.length t.2.1 x with
   | none=>
    rw[hc]at jK bU
    obtain⟨y,rfl⟩:=jK;refine Gn λw hS=>?_;refine Χ ?_;refine Gp ?_;refine zt ?_;exact hF bU Cw (aI hS)
   | some L=>
    rw[hc]at jK bU
    obtain⟨y,rfl,hy⟩:=jK;refine Gn λw hS=>?_;refine Χ ?_;refine Gp ?_;refine zs ?_;obtain⟨NV,pI,hS⟩:=bX.open (k:=k.at t) hS Xr;rw[LF]at hS
    refine Gp ?_;have hS:=bX.put (k.at t) hS pI Xp;rw[show (k.at t).aR=t.2.2 from rfl];refine za (λh5=>?_) (λh5=>?_)
    ·simp only at bU;rw[zzb (by omega)]at bU
     exact hF bU Cw (aI hS)
    simp only at bU;rw[zzd (by omega)]at bU
    rw[<- LF]at hS
    refine zH hS Xh rfl ?_;refine Cg (Q7 kp gp dp lp pp H4 (k.at t) xv x L y (hx.mono jZ) hy (by omega) Ug) λw hS=>?_;have gd:stepT k.ts.length t x=some ((dQ t.1 x.ops).1,L,x.aR):=aFn hc (by omega);have TA:rj ((dQ t.1 x.ops).1,L,x.aR) k.ts.length (m-(i+1)):=by
     have:m-i=(m-(i+1))+1:=by omega
     rw[this]at hT
     exact hT.step gd
    have hS:SL W (.ob (bX kp gp dp lp pp H4 (k.at ((dQ t.1 x.ops).1,L,x.aR)))::_) _:=hS;exact⟨⟨i+1,((dQ t.1 x.ops).1,L,x.aR),H4,rfl,by omega,bU,TA,Cw,aI hS⟩,by dsimp only;omega⟩
 have eM:i=(cr k.g.a_).length:=by omega
 subst eM;rw[vvr]at bU
 have bU:k.i_=some t:=bU;rw[bU];exact⟨_,⟨H2,ep,rfl,rfl⟩,aI hS⟩
def EU(dp:Nat)(H:aX)(y:DS × Except Int c_)(r:Ε)(post:Β):Prop:=match y.2 with
 | .error e=>e≠0/\∃H',H.le H'/\r= .tuple #[.pointer none,Γ e]/\post=[.ob (bk dp y.1),.mem H']
 | .ok k=>∃(kp gp lp pp:Nat) (H':aX),H.le H'/\r= .tuple #[iD kp,Γ 0]/\post=[.ob (bX kp gp dp lp pp H' k),.mem H']
def Oi(n m:Nat)(hm:4096*m<=1000000):small (List.replicate n []) (4096*m):=λC hC=>by
 rw[ww4 hC];simpa using hm
def Nk(n:Nat):oa (List.replicate n []):=λC hC=>by
 rw[ww4 hC];exact⟨.nil,by simp⟩
def qx(H:aX)(dp:Nat)(d:DS)(cV size:Int){N:Nat}(br:d.Ok N)(hN:N<=100000000)(dH:d.ops<=90000)(hn:∀d' g,eO d 8192 size=(d',.ok g)->(cr g.a_).length<=200):
  SP 117 [iD dp,Γ cV,Γ size] [.ob (bk dp d),.mem H] (EU dp H (mj d cV size)):=by
 refine Enzz λW F w hS=>?_;apply aRj;delta aF bD ai bC aZ;have hR:=br.NS;by_cases ht:cV<1\/8<cV
 ·have e:mj d cV size=(d,.error 1):=by unfold mj;rw[zzd ht]
  rw[e];refine Cg (Ti cV ht) λw hS=>?_;refine Υ ?_;exact⟨_,⟨by decide,H,aX.le_refl H,rfl,rfl⟩,aI hS⟩
 obtain⟨n,rfl⟩:∃n:Nat,cV=n:=⟨cV.toNat,by omega⟩;refine Cc (Tj n (by omega) (by omega)) ?_;clear hS;rintro _ post ⟨gp,rfl,rfl⟩ w hS;(try simp only[app]at hS);refine Gp ?_
 refine Χ ?_;refine Cc (qC dp d 8192 size br (by omega) (by omega) (by omega)) ?_;clear hS;rintro r post hq w hS;unfold mj;rw[zzb ht];unfold uq at hq;cases nW:eO d 8192 size with
 | mk d' o=>
  rw[nW]at hq
  cases o with
  | error e=>
   obtain⟨he,rfl,rfl⟩:=hq;(try simp only[app]at hS);refine Gp ?_
   refine za (λ_=>?_) (λh=>absurd he h);exact⟨_,⟨he,H,aX.le_refl H,rfl,rfl⟩,aI hS⟩
  | ok g=>
   obtain⟨lp,rfl,rfl⟩:=hq;(try simp only[app]at hS);refine Gp ?_
   refine Χ ?_;refine Cc (Qv) ?_;clear hS;rintro _ post ⟨pp,rfl,rfl⟩ w hS;(try simp only[app]at hS);refine Gp ?_
   refine zu hS λkp w hS=>?_;have K0:=Xe br (by omega) nW;have hS:SL W (.ob (bX kp gp dp lp pp H ⟨g,d',List.replicate n [],[],0,[]⟩)::_) _:=bX.lR (rv:=Θ) hS (bK.nil H 7) Xp;have tf:(List.replicate n ([]:List Cell)).length=n:=xxd;refine Cc (qy kp gp dp lp pp H ⟨g,d',List.replicate n [],[],0,[]⟩ K0 (by omega) ⟨rfl,Nk n,Oi n 200 (by decide),by simp[c_.tr]⟩ (hn d' g nW) (by omega)) ?_;clear hS;rintro v post ⟨H1,dF,hm⟩ w hS;have s9:=Jf K0.seq;have e:(c_.mk g d' (List.replicate n []) [] 0 []).i_=if cX g.a_≠1/\cX g.a_<=bF g.a_ then none else pX (Int.toNat (n:Int)) (cr g.a_) (nz (Int.toNat (n:Int))):=by
    unfold c_.i_;simp only[tf];rw[zzy];by_cases hc:cX g.a_≠1/\cX g.a_<=bF g.a_
    ·rw[zzd hc,zzd ⟨hc.1,by omega⟩]
    rw[zzb hc,zzb (λh=>hc ⟨h.1,by omega⟩)];rfl
   rw[e]at hm
   simp only;by_cases hc:cX g.a_≠1/\cX g.a_<=bF g.a_
   ·rw[zzd hc]at hm ⊢
    obtain⟨rfl,rfl⟩:=hm;(try simp only[app]at hS);refine Gp ?_
    refine zt ?_;exact⟨_,⟨by decide,H1,dF,rfl,rfl⟩,aI hS⟩
   rw[zzb hc]at hm ⊢
   cases Ls:pX (Int.toNat (n:Int)) (cr g.a_) (nz (Int.toNat (n:Int))) with
   | none=>
    rw[Ls]at hm
    obtain⟨rfl,rfl⟩:=hm;(try simp only[app]at hS);refine Gp ?_
    refine zt ?_;exact⟨_,⟨by decide,H1,dF,rfl,rfl⟩,aI hS⟩
   | some t=>
    rw[Ls]at hm
    obtain⟨rfl,rfl⟩:=hm;(try simp only[app]at hS);refine Gp ?_
    refine zs ?_;have hS:SL W (.ob (bX kp gp dp lp pp H1 ⟨g,d',t.1,[],t.2.2,t.2.1⟩)::_) _:=hS;exact⟨_,⟨kp,gp,lp,pp,H1,dF,rfl,rfl⟩,aI hS⟩
structure TX(t:Tr)(n m:Nat):Prop where
 k:rj t n m
 l0:0<=t.2.2
 l1:t.2.2<=1099511627776
 rq:fV t.2.1
def Nc{L L':List Rq}:∀{l:List gD},kz L l=some L'->fV L->fV L'
 | [],h,hl=>by cases h;exact hl
 | n::l,h,hl=>by
  unfold kz at h;cases hn:n_ L n with
  | none=>rw[hn]at h;cases h
  | some L2=>
   rw[hn]at h
   refine Nc h ?_;unfold n_ at hn;split at hn
   ·exact Ju hn
   split at hn
   ·rename_i L3 h3;split at hn
    ·cases hn;exact I7 h3
    cases hn
   cases hn
def TX.step{t t':Tr}{n m:Nat}(h:TX t n (m+1)){x:bV}(hs:stepT n t x=some t'):TX t' n m:=by
 have hk:=h.k.step hs;unfold stepT at hs;cases hf:ic n t.2.1 x with
 | none=>rw[hf]at hs;cases hs
 | some L=>
  rw[hf]at hs
  simp only at hs;split at hs
  ·cases hs;obtain⟨hm,_,hn⟩:=Ka hf;have h1:=(vU.1 hm).1;exact⟨hk,by show 0<=x.aR;omega,by show x.aR<=_;omega,Nc hn h.rq⟩
  cases hs
def TX.run{n:Nat}:∀(xs:List bV) (t t':Tr) (m:Nat),TX t n (m+xs.length)->runT n xs t=some t'->TX t' n m
 | [],t,t',m,h,hr=>by cases hr;exact h
 | x::xs,t,t',m,h,hr=>by
  have hr:(match stepT n t x with|some t'=>runT n xs t'|none=>none)=some t':=hr;cases hs:stepT n t x with
  | none=>rw[hs]at hr;cases hr
  | some t1=>
   rw[hs]at hr
   rw[zzg,show m+(xs.length+1)=(m+xs.length)+1 by omega]at h
   exact TX.run xs t1 t' m (h.step hs) hr
def Wi:fV []:=⟨by simp,λi h=>by simp at h⟩
def TX.zero(n m:Nat)(hm:4096*m<=1000000):TX (nz n) n m:=⟨⟨xxd,Nk n,Oi n m hm,by simp[nz]⟩,by show (0:Int)<=0;decide,by show (0:Int)<=_;decide,Wi⟩
structure Be(n:Nat)(k:c_)(j:Nat)(xs:List bV)(m:Option bV):Prop where
 s:wK n k xs m
 len:xs.length<=j
 g:gY k.g (1000000*(j+1))
 d:k.d.Ok (1000000*(j+1))
 ops:k.d.ops<=10*(j+1)
 pl:k.plan.length<=j
 XJ:∀f∈k.plan,eY f=true
 bh:∀f∈k.plan,f.bh<=9223372036854775807
def Be.first{n:Nat}(n1:1<=n)(n8:n<=8){size:Int}(s0:64<=size)(s1:size<=65536):∃k,mj eP ((n:Nat):Int) size=(k.d,.ok k)/\Be n k 0 [] none/\k.plan=[]/\k.d=eP/\k.aR=0/\(∀d' g,eO eP 8192 size=(d',.ok g)->(cr g.a_).length<=200):=by
 have nW:eO eP 8192 size=(eP,.ok ⟨[],8192,size,none⟩):=by
  unfold eO;rw[zzb (by omega)];rfl
 have hl:mG ⟨[],8192,size,none⟩ eP 8192 1 []:=⟨trivial,rfl,rfl,λ_=>⟨rfl,rfl⟩,yyv _,by show (0:Int)<=8192;decide,by show (8192:Int)<=12288;decide,s0,s1,by decide,by show (8192:Int)+(0:Nat)+2<=8192+4096;decide,rfl,rfl⟩;refine⟨⟨⟨[],8192,size,none⟩,eP,(nz n).1,[],0,[]⟩,?_,⟨⟨hl.st rfl _,by simp,rfl,xxd,λx hx=>by cases hx⟩,zzz _,⟨⟨by simp,by show (0:Int)<=8192;decide,by show (8192:Int)<=12288;decide,s0,s1,by simp⟩,trivial,by show (0:Int)<=_;decide,λx hx=>by cases hx⟩,we _,by show eP.ops<=_;decide,by simp,by simp,by simp⟩,rfl,rfl,rfl,λd' g hg=>?_⟩
 ·unfold mj;rw[zzb (by omega),zzy];simp only[nW];rfl
 rw[nW]at hg
 cases hg;simp[cr]
def EW(rp:Nat)(v:Ε)(L:List bz)(k:Nat)(bad:Bool):Β:=[.pt rp [v,Γ k,.bool bad] 78,e_ v L]
def de(rp:Nat)(r:bf):zw:=gi λx:Ε × List bz × Nat=>zG (x.2.2<=x.2.1.length/\x.2.1.length<=32767/\r.l=x.2.1.drop x.2.2) (EW rp x.1 x.2.1 x.2.2 r.bad)
def de.iff{W w:Ζ}{rp:Nat}{r:bf}{l:Β}:SL W (.ob (de rp r)::l) w↔∃(v:Ε) (L:List bz) (k:Nat),(k<=L.length/\L.length<=32767/\r.l=L.drop k)/\SL W (.pt rp [v,Γ k,.bool r.bad] 78::e_ v L::l) w:=by
 unfold de EW;simp only[SL.ex,SL.fact,zzq,zzp];exact⟨λ⟨x,h1,h2⟩=>⟨x.1,x.2.1,x.2.2,h1,h2⟩,λ⟨a,b,c,h1,h2⟩=>⟨(a,b,c),h1,h2⟩⟩
def drop_nil{α:Type}{L:List α}{k:Nat}(h:k<=L.length):L.drop k=[]↔k=L.length:=by
 rw[uuh];omega
def zI(rp:Nat)(r:bf)(m:Int):SP 41 [Δ rp,Γ m] [.ob (de rp r)] (bj (Γ (bJ m r).1) [.ob (de rp (bJ m r).2)]):=by
 obtain⟨l,bad⟩:=r;refine Enzz λW F w hS=>?_;apply aZt;delta aF bd aW cq ai;obtain⟨v,L,k,⟨hk,hL,hl⟩,hS⟩:=de.iff.1 hS;have hl:l=L.drop k:=hl;subst hl;simp only at hS;have f_:∀{w:Ζ},bJ m ⟨L.drop k,bad⟩=(0,⟨L.drop k,true⟩)->SL W (.pt rp [v,Γ k,.bool true] 78::e_ v L::F) w->∃post,bj (Γ (bJ m ⟨L.drop k,bad⟩).1) [.ob (de rp (bJ m ⟨L.drop k,bad⟩).2)] (Γ 0) post/\SL W (app post F) w:=λe hS=>by
  rw[e];exact⟨_,⟨rfl,rfl⟩,de.iff.2 ⟨v,L,k,⟨hk,hL,rfl⟩,hS⟩⟩
 refine Gn λw hS=>?_;cases bad with
 | true=>
  refine zt ?_;refine Gn λw hS=>?_;exact f_ rfl hS
 | false=>
  refine zs ?_;refine Gp ?_;refine zB hS (v:=v) Xh ?_;refine bw (λh=>?_) (λh=>?_)
  ·refine Gn λw hS=>?_;exact f_ (by rw[yyt (by omega)];rfl) hS
  have ga:k<L.length:=by omega
  have hx:L[k]?=some L[k]:=zzc ga;have hc:L.drop k=L[k]::L.drop (k+1):=yya ga;have hI:∀bad,bJ m ⟨L.drop k,bad⟩=match bad with|true=>(0,⟨L.drop k,true⟩)|false=>if L[k].kind=1/\0<=L[k].n/\L[k].n<=m then (L[k].n,⟨L.drop (k+1),false⟩) else (0,⟨L.drop k,true⟩):=λbad=>by
   cases bad with
   | true=>rfl
   | false=>rw[hc];exact Dr m _ _
  have hI:=hI false;simp only at hI;refine Gp ?_;refine zX (i:=0) hS (v:=v) Xh oJ hx ga rfl ?_;refine bw (λh1=>?_) (λh1=>?_)
  ·refine Gn λw hS=>?_;exact f_ (by rw[hI,zzb λh=>h1 h.1]) hS
  refine Gp ?_;refine zX (i:=1) hS (v:=v) Xh oJ hx ga rfl ?_;refine bw (λh2=>?_) (λh2=>?_)
  ·refine Gn λw hS=>?_;exact f_ (by rw[hI,zzb λh=>by omega]) hS
  refine Gp ?_;refine zX (i:=1) hS (v:=v) Xh oJ hx ga rfl ?_;refine bw (λh3=>?_) (λh3=>?_)
  ·refine Gn λw hS=>?_;exact f_ (by rw[hI,zzb λh=>by omega]) hS
  refine Gn λw hS=>?_;rw[show ((k+1:Nat):Int)-1=(k:Int) by omega];refine zX (i:=1) hS (v:=v) Xh oJ hx ga rfl ?_;rw[hI,zzd ⟨uuw.1 h1,by omega,by omega⟩];exact⟨_,⟨rfl,rfl⟩,de.iff.2 ⟨v,L,k+1,⟨ga,hL,rfl⟩,aI hS⟩⟩
def Y2(rp:Nat)(r:bf):SP 112 [Δ rp] [.ob (de rp r)] (bj (.bool (mY r).1) [.ob (de rp (mY r).2)]):=by
 refine Enzz λW F w hS=>?_;apply aRe;delta ai;refine Cg (zI rp r 1) λw hS=>?_;exact⟨_,⟨rfl,rfl⟩,hS⟩
def Zu(rp:Nat)(r:bf):SP 75 [Δ rp] [.ob (de rp r)] (bj (.string (cJ r).1) [.ob (de rp (cJ r).2)]):=by
 obtain⟨l,bad⟩:=r;refine Enzz λW F w hS=>?_;apply a_t;delta aF bd aW cq ai;obtain⟨v,L,k,⟨hk,hL,hl⟩,hS⟩:=de.iff.1 hS;have hl:l=L.drop k:=hl;subst hl;simp only at hS;have f_:∀{w:Ζ},iB 2 ⟨L.drop k,bad⟩=(nG,⟨L.drop k,true⟩)->SL W (.pt rp [v,Γ k,.bool true] 78::e_ v L::F) w->∃post,bj (.string (cJ ⟨L.drop k,bad⟩).1) [.ob (de rp (cJ ⟨L.drop k,bad⟩).2)] (.string ⟨#[]⟩) post/\SL W (app post F) w:=λe hS=>by
  unfold cJ;rw[e];exact⟨_,⟨rfl,rfl⟩,de.iff.2 ⟨v,L,k,⟨hk,hL,rfl⟩,hS⟩⟩
 refine Gn λw hS=>?_;cases bad with
 | true=>
  refine zt ?_;refine Gn λw hS=>?_;exact f_ rfl hS
 | false=>
  refine zs ?_;refine Gp ?_;refine zB hS (v:=v) Xh ?_;refine bw (λh=>?_) (λh=>?_)
  ·refine Gn λw hS=>?_;exact f_ (by rw[yyt (by omega)];rfl) hS
  have ga:k<L.length:=by omega
  have hx:L[k]?=some L[k]:=zzc ga;have hc:L.drop k=L[k]::L.drop (k+1):=yya ga;have hI:iB 2 ⟨L.drop k,false⟩=if L[k].kind=2 then (L[k],⟨L.drop (k+1),false⟩) else (nG,⟨L.drop k,true⟩):=by rw[hc];rfl
  refine Gp ?_;refine zX (i:=0) hS (v:=v) Xh oJ hx ga rfl ?_;refine bw (λh1=>?_) (λh1=>?_)
  ·refine Gn λw hS=>?_;exact f_ (by rw[hI,zzb λh=>h1 h]) hS
  refine Gn λw hS=>?_;rw[show ((k+1:Nat):Int)-1=(k:Int) by omega];refine zX (i:=2) hS (v:=v) Xh oJ hx ga rfl ?_;unfold cJ;rw[hI,zzd (uuw.1 h1)];exact⟨_,⟨rfl,rfl⟩,de.iff.2 ⟨v,L,k+1,⟨ga,hL,rfl⟩,aI hS⟩⟩
def QQ(rp:Nat)(r:bf):SP 43 [Δ rp] [.ob (de rp r)] (bj (.bool (decide (r.bad=false/\r.l=[]))) [.ob (de rp r)]):=by
 obtain⟨l,bad⟩:=r;refine Enzz λW F w hS=>?_;apply aZv;delta bd bD bc;obtain⟨v,L,k,⟨hk,hL,hl⟩,hS⟩:=de.iff.1 hS;simp only at hl;refine Gn λw hS=>?_;cases bad with
 | true=>
  refine zs ?_;rw[zz5 (by simp)];exact⟨_,⟨rfl,rfl⟩,de.iff.2 ⟨v,L,k,⟨hk,hL,hl⟩,aI hS⟩⟩
 | false=>
  refine zt ?_;refine Gp ?_;refine zB hS (v:=v) Xh ?_;refine Gp ?_;have e:decide ((k:Int)=(L.length:Int))=decide ((bf.mk l false).bad=false/\(bf.mk l false).l=[]):=by
   rw[yyd];simp only[vv7];rw[hl,drop_nil hk];omega
  rw[e];exact⟨_,⟨rfl,rfl⟩,de.iff.2 ⟨v,L,k,⟨hk,hL,hl⟩,aI hS⟩⟩
def jv(r:bf):bY × bf:=
 let b:=bJ 7 r;let c:=bJ 1099511627776 b.2;let d:=mY c.2;let e:=cJ d.2
 (⟨b.1,c.1,d.1,e.1⟩,e.2)
def QO(rp:Nat)(r:bf):SP 76 [Δ rp] [.ob (de rp r)] (bj (agg (dh (jv r).1)) [.ob (de rp (jv r).2)]):=by
 refine Enzz λW F w hS=>?_;apply a_u;delta ai bn;refine Gm λb w hS=>?_;refine Cg (zI rp r 7) λw hS=>?_;refine Gm λb w hS=>?_;refine Cg (zI rp _ 1099511627776) λw hS=>?_;refine Cg (Y2 rp _) λw hS=>?_;refine Cg (Zu rp _) λw hS=>?_;simp only[jv];exact bt hS
def de.w5{W w:Ζ}{rp:Nat}{r:bf}{l:Β}(h:SL W (.ob (de rp r)::l) w){K:Ε->Prop}(hK:K (.bool r.bad)):bx (.pointer (some ⟨rp,2,none⟩)) w K:=by
 obtain⟨v,L,k,_,hS⟩:=de.iff.1 h;exact zT hS .hd rfl hK
def cI(t:bS):Bool:=decide (1<=t.aR/\t.aR<=1099511627776) &&
 (if t.kind=1 then decide (t.mark=0/\t.changes.length<=16/\t.signals.length<=2) && t.changes.all (λc=>fQ c 8) && t.signals.all (λs=>decide (s.size<=40))
  else decide ((t.kind=2\/t.kind=3)/\1<=t.mark/\t.mark<=1099511627776/\t.changes=[]/\t.signals=[]))
def pS{c:bY}{k:Int}:fQ c k=true↔0<=c.table/\c.table<k/\1<=c.key/\c.key<=1099511627776/\c.val.size<=32/\(c.gone=true->c.val=emp):=by unfold fQ;rw[zzo]
def tE{t:bS}:cI t=true↔(1<=t.aR/\t.aR<=1099511627776) /\
  ((t.kind=1/\t.mark=0/\t.changes.length<=16/\t.signals.length<=2/\(∀c∈t.changes,fQ c 8=true)/\∀s∈t.signals,s.size<=40) \/
   ((t.kind=2\/t.kind=3)/\1<=t.mark/\t.mark<=1099511627776/\t.changes=[]/\t.signals=[])):=by
 unfold cI;rw[zzk,zzo];refine and_congr_right λ_=>?_;split
 ·rename_i hk;rw[zzk,zzk,zzo,zzw,zzw];constructor
  ·rintro ⟨⟨⟨h1,h2,h3⟩,h4⟩,h5⟩;exact .inl ⟨hk,h1,h2,h3,h4,λs hs=>zzl (h5 s hs)⟩
  rintro (⟨_,h1,h2,h3,h4,h5⟩|⟨h,_⟩)
  ·exact⟨⟨⟨h1,h2,h3⟩,h4⟩,λs hs=>zzr (h5 s hs)⟩
  omega
 rename_i hk;rw[zzo];constructor
 ·exact λh=>.inr h
 rintro (⟨h,_⟩|h)
 ·exact absurd h hk
 exact h
def iW{t:bS}(h:cI t=true):(1<=t.aR/\t.aR<=1099511627776)/\(1<=t.kind/\t.kind<=3)/\(0<=t.mark/\t.mark<=1099511627776)/\t.changes.length<=16/\t.signals.length<=2/\(∀c∈t.changes,fQ c 8=true)/\∀s∈t.signals,s.size<=40:=by
 obtain⟨h1,h2⟩:=tE.1 h;rcases h2 with ⟨k,m,a,b,c,d⟩|⟨k,m1,m2,a,b⟩
 ·exact⟨h1,by omega,by omega,a,b,c,d⟩
 rw[a,b];exact⟨h1,by omega,by omega,by simp,by simp,by simp,by simp⟩
def gV(t:bS):List bz:=[iF t.aR,iF t.kind,iF t.mark,iF t.changes.length]++(t.changes.map fI).flatten++([iF t.signals.length]++t.signals.map tF)
def pw(t:bS):Except Int Φ:=if cI t=true then gl (gV t) else .error 1
def SQ(t:bS):(gV t).length=5+t.changes.length*4+t.signals.length:=by
 unfold gV;simp only[zza,zzg,yym,yyh];rw[Cp (f:=fI) (k:=4) (λ_=>rfl)];omega
def J7{t:bS}(h:cI t=true):∀f∈gV t,k7 f:=by
 obtain⟨h1,h2,h3,h4,h5,h6,h7⟩:=iW h;intro f hf;unfold gV at hf;simp only[yyb,zzv,wwn,zz1,yy8,vvf]at hf;rcases hf with ((rfl|rfl|rfl|rfl)|⟨l,⟨c,hc,rfl⟩,hf⟩)|rfl|⟨s,hs,rfl⟩
 ·exact ma (by omega)
 ·exact ma (by omega)
 ·exact ma (by omega)
 ·exact ma (by omega)
 ·have h8:=pS.1 (h6 c hc);have hb:=Jj c.gone;unfold fI at hf;simp only[zzv,yy8,vvf]at hf;rcases hf with rfl|rfl|rfl|rfl
  ·exact ma (by omega)
  ·exact ma (by omega)
  ·exact ma (by omega)
  exact .inr ⟨rfl,rfl,by show c.val.size<=4096;omega⟩
 ·exact ma (by omega)
 have:=h7 s hs;exact .inr ⟨rfl,rfl,by show s.size<=4096;omega⟩
def JZ{t:bS}(h:cI t=true):pw t= .ok (bI (gV t).length 2++((gV t).map bO).flatten)/\dK (bI (gV t).length 2++((gV t).map bO).flatten)= .ok (gV t):=by
 have hl:=SQ t;obtain⟨_,_,_,h4,h5,_,_⟩:=iW h;obtain⟨e1,e2⟩:=xf (l:=gV t) (by omega) (J7 h);exact⟨by unfold pw;rw[zzd h,e1],e2⟩
def cz{α:Type}(one:bf->α × bf):Nat->bf->List α × bf
 | 0,r=>([],r)
 | i+1,r=>((one r).1::(cz one i (one r).2).1,(cz one i (one r).2).2)
def cZ.cz{α:Type}{p:bf->α × bf}(hp:cZ p):∀i,cZ (cz p i)
 | 0,r,h=>h
 | i+1,r,h=>cZ.cz hp i _ (hp r h)
def fS.cz{α:Type}{p q:bf->α × bf}{V:α->Prop}(h:fS p q V)(hp:cZ p)(hq:cZ q):∀i,fS (cz p i) (bW q i) λl=>∃x∈l,V x
 | 0=>⟨λr _=>rfl,λr hr=>.inl hr⟩
 | i+1=>by
  have ih:=fS.cz h hp hq i;refine⟨λr hr=>?_,λr hr=>?_⟩
  ·unfold YtgfbifafbkkghaaGreatDoor.cz bW;unfold bW at hr;cases hb:r.bad with
   | true=>simp[hb]at hr
   | false=>
    simp only[hb]at hr ⊢;have hr:(bW q i (q r).2).2.bad=false:=hr;have h1:(q r).2.bad=false:=by
     cases h1:(q r).2.bad with
     | false=>rfl
     | true=>rw[cZ.many hq i _ h1]at hr;cases hr
    rw[h.same r h1,ih.same _ hr];rfl
  cases hb:r.bad with
  | true=>exact .inl (cZ.cz hp (i+1) r hb)
  | false=>
   unfold bW at hr;simp only[hb]at hr;have hr:(bW q i (q r).2).2.bad=true:=hr;show (YtgfbifafbkkghaaGreatDoor.cz p i (p r).2).2.bad=true\/∃x∈(p r).1::(YtgfbifafbkkghaaGreatDoor.cz p i (p r).2).1,V x;cases h1:(q r).2.bad with
   | false=>
    rw[h.same r h1];rcases ih.bad _ hr with h2|⟨x,h2,h3⟩
    ·exact .inl h2
    exact .inr ⟨x,.tail _ h2,h3⟩
   | true=>
    rcases h.bad r h1 with h2|h2
    ·exact .inl (cZ.cz hp i _ h2)
    exact .inr ⟨_,.head _,h2⟩
def fJ(r:bf):bY × bf:=
 let b:=bm 8 r;let c:=cG b.2;let d:=iu c.2;let e:=cJ d.2
 (⟨b.1,c.1,d.1,e.1⟩,e.2)
def tG(x:Int × Int × Bool × Η):bY:=⟨x.1,x.2.1,x.2.2.1,x.2.2.2⟩
def BQ:fJ=eX tG (cL (bm 8) λ_=>cL cG λ_=>cL iu λ_=>cJ):=by funext r;simp only[fJ,eX,cL,tG]
def Js:jv=eX tG (cL (bJ 7) λ_=>cL (bJ 1099511627776) λ_=>cL mY λ_=>cJ):=by funext r;simp only[jv,eX,cL,tG]
def sL:cZ fJ:=by rw[BQ];exact ((j9 8).seq λ_=>vQ.seq λ_=>w9.seq λ_=>j_).map _
def xa:cZ jv:=by rw[Js];exact ((j5 7).seq λ_=>(j5 _).seq λ_=>Kb.seq λ_=>j_).map _
def wO(c:bY):Prop:=¬(0<=c.table/\c.table<=7)\/¬(0<=c.key/\c.key<=1099511627776)
def Rj:fS fJ jv wO:=by
 rw[BQ,Js];have a4:=P0.seq (f:=λ_=>cJ) (g:=λ_=>cJ) (λ_=>OM) (λ_=>j_) (λ_=>j_);have Ms:cZ (cL iu λ_=>cJ):=w9.seq λ_=>j_;have Mt:cZ (cL mY λ_=>cJ):=Kb.seq λ_=>j_;have a3:=(Dq 1099511627776).seq (f:=λ_=>cL iu λ_=>cJ) (g:=λ_=>cL mY λ_=>cJ) (λ_=>a4) (λ_=>Mt) (λ_=>Ms);have V9:cZ (cL cG λ_=>cL iu λ_=>cJ):=vQ.seq λ_=>Ms;have V':cZ (cL (bJ 1099511627776) λ_=>cL mY λ_=>cJ):=(j5 _).seq λ_=>Mt;have a2:=(Ee 8 7 (by decide)).seq (f:=λ_=>cL cG λ_=>cL iu λ_=>cJ) (g:=λ_=>cL (bJ 1099511627776) λ_=>cL mY λ_=>cJ) (λ_=>a3) (λ_=>V') (λ_=>V9);refine a2.map tG λx h=>?_;rcases h with h|h|h|h
 ·exact .inl h
 ·exact .inr h
 ·exact h.elim
 exact h.elim
def MZ(x:Int × Int × Int × (Int × List bY) × (Int × Ψ)):bS:=⟨x.1,x.2.1,x.2.2.2.1.2,x.2.2.2.2.2,x.2.2.1⟩
def dO{α:Type}(i:bf->Int × bf)(m:Nat->bf->List α × bf):bf->(Int × List α) × bf:=cL i λn=>m n.toNat
def iI:bf->bS × bf:=eX MZ (cL cG λ_=>cL (bm 3) λ_=>cL cG λ_=>cL (dO (bm 16) (cz fJ)) λ_=>dO (bm 2) (cz cJ))
def sQ(l:List bz):Option bS:=
 let x:=iI ⟨l,false⟩
 if x.2.bad=false/\x.2.l=[]/\cI x.1=true then some x.1 else none
def ix(b:Φ):Except Int bS:=match dK b with
 | .error e=>.error e
 | .ok l=>match sQ l with
  | some t=>.ok t
  | none=>.error 3
def r8{α:Type}{one:bf->α × bf}{f:α->List bz}:∀(xs:List α) (l:List bz),(∀x∈xs,∀l,one ⟨f x++l,false⟩=(x,⟨l,false⟩))->cz one xs.length ⟨(xs.map f).flatten++l,false⟩=(xs,⟨l,false⟩)
 | [],l,_=>rfl
 | x::xs,l,h=>by
  have ih:=r8 xs l λy hy=>h y (.tail _ hy);have h1:=h x (.head _) ((xs.map f).flatten++l);rw[zzj,zzt,zze,zzg,cz,h1,ih]
def Jr{c:bY}{l:List bz}(h:0<=c.table/\c.table<=8):fJ ⟨fI c++l,false⟩=(c,⟨l,false⟩):=by
 unfold fJ fI;have e2:bm 8 ⟨[iF c.table,iF c.key,iF (jh c.gone),tF c.val]++l,false⟩=(c.table,⟨[iF c.key,iF (jh c.gone),tF c.val]++l,false⟩):=p7 h;have e3:cG ⟨[iF c.key,iF (jh c.gone),tF c.val]++l,false⟩=(c.key,⟨[iF (jh c.gone),tF c.val]++l,false⟩):=rfl;have e4:iu ⟨[iF (jh c.gone),tF c.val]++l,false⟩=(c.gone,⟨[tF c.val]++l,false⟩):=P1;have e5:cJ ⟨[tF c.val]++l,false⟩=(c.val,⟨l,false⟩):=rfl;simp only[e2,e3,e4,e5]
def aIk{t:bS}(h:cI t=true):iI ⟨gV t,false⟩=(t,⟨[],false⟩):=by
 obtain⟨h1,h2,h3,h4,h5,h6,h7⟩:=iW h;have e0:gV t=iF t.aR::(iF t.kind::(iF t.mark::(iF t.changes.length::((t.changes.map fI).flatten++(iF t.signals.length::((t.signals.map λs=>[tF s]).flatten++[])))))):=by
  unfold gV;have:∀l:Ψ,l.map tF=(l.map λs=>[tF s]).flatten:=λl=>by induction l with
   | nil=>rfl
   | cons x l ih=>rw[zzj,zzj,zzt,ih];rfl
  rw[this];simp
 rw[e0];have e1:∀n l,cG ⟨iF n::l,false⟩=(n,⟨l,false⟩):=λn l=>rfl;have e2:∀l,bm 3 ⟨iF t.kind::l,false⟩=(t.kind,⟨l,false⟩):=λl=>p7 (by omega);have e3:∀l,bm 16 ⟨iF t.changes.length::l,false⟩=((t.changes.length:Int),⟨l,false⟩):=λl=>p7 (by omega);have e4:∀l,cz fJ t.changes.length ⟨(t.changes.map fI).flatten++l,false⟩=(t.changes,⟨l,false⟩):=λl=>r8 t.changes l λc hc l=>Jr (by have:=pS.1 (h6 c hc);omega);have e5:∀l,bm 2 ⟨iF t.signals.length::l,false⟩=((t.signals.length:Int),⟨l,false⟩):=λl=>p7 (by omega);have e6:∀l,cz cJ t.signals.length ⟨(t.signals.map λs=>[tF s]).flatten++l,false⟩=(t.signals,⟨l,false⟩):=λl=>r8 t.signals l λs hs l=>rfl;unfold iI dO eX cL MZ;simp only[e1,e2,e3,e4,e5,e6,zzy]
def JN{t:bS}(h:cI t=true):∃b,pw t= .ok b/\ix b= .ok t:=by
 obtain⟨e1,e2⟩:=JZ h;refine⟨_,e1,?_⟩;unfold ix;rw[e2];have e3:sQ (gV t)=some t:=by
  unfold sQ;rw[aIk h];simp only;rw[zzd ⟨trivial,trivial,h⟩]
 simp only[e3]
def R2{b:Φ}{t:bS}(h:ix b= .ok t):cI t=true:=by
 unfold ix at h;split at h
 ·cases h
 split at h
 ·rename_i x hx;cases h;unfold sQ at hx;simp only at hx;split at hx
  ·rename_i hc;cases hx;exact hc.2.2
  cases hx
 cases h
def lW(t:bS):Φ:=match pw t with
 | .ok b=>b
 | .error _=>[]
def Q_{t:bS}(h:cI t=true):ix (lW t)= .ok t:=by
 obtain⟨b,e1,e2⟩:=JN h;unfold lW;rw[e1];exact e2
def Ra{t:bS}(h:cI t=true):pw t= .ok (lW t):=by
 obtain⟨b,e1,_⟩:=JN h;unfold lW;rw[e1]
def Jo{t:bS}(h:cI t=true):(lW t).length<=1200:=by
 obtain⟨h1,h2,h3,h4,h5,h6,h7⟩:=iW h;unfold lW;rw[(JZ h).1];simp only;rw[zza,eg];unfold gV;simp only[zzx,zzj,xxa,yy1,zzt,xxs,zza,zz4,uR];rw[B6,xxj,xxj];have hT:∀s:Η,(bO (tF s)).length=3+s.size:=λs=>by
  show (cO 2::(bI (s.size:Nat) 2++s.data.toList)).length=_;rw[zzg,zza,eg];have:s.data.toList.length=s.size:=rfl;omega
 have k1:=sY (f:=(λx=>(x.map bO).flatten)∘fI) (k:=62) t.changes λc hc=>by
  have:=(pS.1 (h6 c hc)).2.2.2.2.1;show (((fI c).map bO).flatten).length<=62;unfold fI;simp only[zzj,xxa,zzt,xxs,zza,yym,uR,hT];omega
 have k2:=sY (f:=bO∘tF) (k:=43) t.signals λs hs=>by
  have:=h7 s hs;show (bO (tF s)).length<=43;rw[hT];omega
 omega
def wc(r:Row):Prop:=1<=r.key/\r.key<=1099511627776/\r.val.size<=32
instance (r:Row):Decidable (wc r):=by unfold wc;infer_instance
structure uy(C:List Row):Prop where
 sorted:ek C
 rows:∀r∈C,wc r
 len:C.length<=1000
def pY:Int->List Row->Bool
 | _,[]=>true
 | k,r::C=>decide (k<r.key/\r.key<=1099511627776/\r.val.size<=32) && pY r.key C
def NR:∀{C:List Row} {k:Int},pY k C=true↔(∀r∈C,k<r.key)/\ek C/\∀r∈C,r.key<=1099511627776/\r.val.size<=32
 | [],k=>by simp[pY,ek]
 | r::C,k=>by
  unfold pY;rw[zzk,zzo,NR (C:=C) (k:=r.key)];unfold ek;rw[yyc];constructor
  ·rintro ⟨⟨h1,h2,h3⟩,h4,h5,h6⟩;refine⟨λx hx=>?_,⟨λx hx=>h4 x hx,h5⟩,λx hx=>?_⟩
   ·rcases zzv.1 hx with rfl|hx
    ·exact h1
    have:=h4 x hx;omega
   rcases zzv.1 hx with rfl|hx
   ·exact⟨h2,h3⟩
   exact h6 x hx
  rintro ⟨h1,⟨h2,h3⟩,h4⟩;exact⟨⟨h1 r (.head _),h4 r (.head _)⟩,λx hx=>h2 x hx,h3,λx hx=>h4 x (.tail _ hx)⟩
def mh(C:List Row):Bool:=pY 0 C && decide (C.length<=1000)
def MD{C:List Row}:mh C=true↔uy C:=by
 unfold mh;rw[zzk,zzo,NR];constructor
 ·rintro ⟨⟨h1,h2,h3⟩,h4⟩;exact⟨h2,λr hr=>⟨by have:=h1 r hr;omega,(h3 r hr).1,(h3 r hr).2⟩,h4⟩
 rintro ⟨h1,h2,h3⟩;exact⟨⟨λr hr=>by have:=(h2 r hr).1;omega,h1,λr hr=>⟨(h2 r hr).2.1,(h2 r hr).2.2⟩⟩,h3⟩
def iz(aR:Int)(ts:List (List Row)):Bool:=decide (0<=aR/\aR<=1099511627776/\1<=ts.length/\ts.length<=8) && ts.all mh
def pT{aR:Int}{ts:List (List Row)}:iz aR ts=true↔(0<=aR/\aR<=1099511627776/\1<=ts.length/\ts.length<=8)/\∀C∈ts,uy C:=by
 unfold iz;rw[zzk,zzo,zzw];exact and_congr_right λ_=>⟨λh C hC=>MD.1 (h C hC),λh C hC=>MD.2 (h C hC)⟩
def rC(r:Row):List bz:=[iF r.key,tF r.val]
def l5(C:List Row):List bz:=iF C.length::(C.map rC).flatten
def lD(aR:Int)(ts:List (List Row)):List bz:=[iF aR,iF ts.length]++(ts.map l5).flatten
def SO(C:List Row):(l5 C).length=1+C.length*2:=by
 unfold l5;rw[zzg,Cp (f:=rC) (k:=2) (λ_=>rfl)];omega
def SH{aR:Int}{ts:List (List Row)}(h:iz aR ts=true):(lD aR ts).length<=16010:=by
 obtain⟨h1,h2⟩:=pT.1 h;have k:=sY (f:=l5) (k:=2001) ts λC hC=>by rw[SO];have:=(h2 C hC).len;omega
 unfold lD;rw[zza];simp only[zzg,yym];have:ts.length*2001<=8*2001:=yy4 _ h1.2.2.2;omega
def SG{aR:Int}{ts:List (List Row)}(h:iz aR ts=true):∀f∈lD aR ts,k7 f:=by
 obtain⟨h1,h2⟩:=pT.1 h;intro f hf;unfold lD at hf;simp only[yyb,zzv,wwn,zz1,yy8,vvf]at hf;rcases hf with (rfl|rfl)|⟨l,⟨C,hC,rfl⟩,hf⟩
 ·exact ma (by omega)
 ·exact ma (by omega)
 have hT:=h2 C hC;have hl:=hT.len;unfold l5 at hf;simp only[zzv,wwn,zz1]at hf;rcases hf with rfl|⟨l,⟨r,hr,rfl⟩,hf⟩
 ·exact ma (by omega)
 obtain⟨k1,k2,k3⟩:=hT.rows r hr;unfold rC at hf;simp only[zzv,yy8,vvf]at hf;rcases hf with rfl|rfl
 ·exact ma (by omega)
 exact .inr ⟨rfl,rfl,by show r.val.size<=4096;omega⟩
def pM(aR:Int)(ts:List (List Row)):Φ:=bI (lD aR ts).length 2++((lD aR ts).map bO).flatten
def Sq(s:Η):(bO (tF s)).length=3+s.size:=by
 show (cO 2::(bI (s.size:Nat) 2++s.data.toList)).length=_;rw[zzg,zza,eg];have:s.data.toList.length=s.size:=rfl;omega
def Ve{aR:Int}{ts:List (List Row)}(h:iz aR ts=true):(pM aR ts).length<=360000:=by
 obtain⟨h1,h2⟩:=pT.1 h;unfold pM lD;rw[zza,eg];simp only[zzx,zzj,xxa,yy1,zzt,xxs,zza,zz4,uR];rw[B6,xxj];have k:=sY (f:=(λx=>(x.map bO).flatten)∘l5) (k:=44009) ts λC hC=>by
  have hT:=h2 C hC;have hl:=hT.len;show (((l5 C).map bO).flatten).length<=44009;unfold l5;rw[zzj,zzt,zza,uR,B6,xxj];have k2:=sY (f:=(λx=>(x.map bO).flatten)∘rC) (k:=44) C λr hr=>by
   have:=(hT.rows r hr).2.2;show (((rC r).map bO).flatten).length<=44;unfold rC;simp only[zzj,xxa,zzt,xxs,zza,yym,uR,Sq];omega
  have:C.length*44<=1000*44:=yy4 _ hl;omega
 have:ts.length*44009<=8*44009:=yy4 _ h1.2.2.2;omega
def Vf{aR:Int}{ts:List (List Row)}(h:iz aR ts=true):gl (lD aR ts)= .ok (pM aR ts)/\dK (pM aR ts)= .ok (lD aR ts):=
 xf (l:=lD aR ts) (by have:=SH h;omega) (SG h)
def WC(x:Int × Η):Row:=⟨x.1,x.2⟩
def pZ:bf->Row × bf:=eX WC (cL cG λ_=>cJ)
def mA:bf->List Row × bf:=eX Prod.snd (dO (bm 1000) (bW pZ))
def MY(x:Int × (Int × List (List Row))):Int × List (List Row):=(x.1,x.2.2)
def jy:bf->(Int × List (List Row)) × bf:=eX MY (cL cG λ_=>dO (bm 8) (cz mA))
def oV(l:List bz):Option (Int × List (List Row)):=
 let x:=jy ⟨l,false⟩
 if x.2.bad=false/\x.2.l=[]/\iz x.1.1 x.1.2=true then some x.1 else none
def iO(b:Φ):Option (Int × List (List Row)):=match fg b with
 | .error _=>none
 | .ok (p,n)=>if n=b.length then (match dK p with
  | .error _=>none
  | .ok l=>oV l) else none
def RT{b:Φ}{x:Int × List (List Row)}(h:iO b=some x):iz x.1 x.2=true:=by
 unfold iO at h;split at h
 ·cases h
 split at h
 ·split at h
  ·cases h
  unfold oV at h;simp only at h;split at h
  ·rename_i hc;cases h;exact hc.2.2
  cases h
 cases h
def aia{r:Row}{l:List bz}:pZ ⟨rC r++l,false⟩=(r,⟨l,false⟩):=rfl
def aF1{C:List Row}{l:List bz}(h:C.length<=1000):mA ⟨l5 C++l,false⟩=(C,⟨l,false⟩):=by
 unfold mA dO eX cL l5;rw[zzq,p7 (by omega)];simp only[zzy];rw[My C l λr _ l=>aia]
def Vi{aR:Int}{ts:List (List Row)}(h:iz aR ts=true):jy ⟨lD aR ts,false⟩=((aR,ts),⟨[],false⟩):=by
 obtain⟨h1,h2⟩:=pT.1 h;have e0:lD aR ts=iF aR::(iF ts.length::((ts.map l5).flatten++[])):=by unfold lD;simp
 rw[e0];have e1:∀l,cG ⟨iF aR::l,false⟩=(aR,⟨l,false⟩):=λl=>rfl;have e2:∀l,bm 8 ⟨iF ts.length::l,false⟩=((ts.length:Int),⟨l,false⟩):=λl=>p7 (by omega);have e3:∀l,cz mA ts.length ⟨(ts.map l5).flatten++l,false⟩=(ts,⟨l,false⟩):=λl=>r8 ts l λC hC l=>aF1 (h2 C hC).len;unfold jy dO eX cL MY;simp only[e1,e2,e3,zzy]
def JH{b p:Φ}{n:Nat}(ht:fg b= .ok (p,n))(hn:n=b.length){l:List bz}(hd:dK p= .ok l):iO b=oV l:=by
 unfold iO;rw[ht];simp only;rw[zzd hn,hd]
def Vh{l:List bz}{x:Int × List (List Row)}(h:jy ⟨l,false⟩=(x,⟨[],false⟩))(hm:iz x.1 x.2=true):oV l=some x:=by
 unfold oV;rw[h];simp only;rw[zzd ⟨trivial,trivial,hm⟩]
def RU{aR:Int}{ts:List (List Row)}(h:iz aR ts=true):iO (cD (pM aR ts))=some (aR,ts):=by
 have hl:=Ve h;have h1:=(Vf h).2;have h2:=Vi h;generalize pM aR ts=p at *
 have ht:=OL (p:=p) (r:=[]) (by omega);rw[zz4]at ht
 exact (JH ht (nx p).symm h1).trans (Vh h2 h)

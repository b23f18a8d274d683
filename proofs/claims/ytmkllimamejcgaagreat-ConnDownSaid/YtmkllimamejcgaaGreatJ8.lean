/- Part. -/
import Derived.Test.YtmkllimamejcgaaGreatJ7
import Derived.ProofKit
import Derived.OpenShut
import Derived.SizedLaws
import Derived.Deep.Slices
import Derived.JoinedCond
import Derived.Test.YtmkllimamejcgaaGreatQVcM
import Derived.Test.YtmkllimamejcgaaGreatQVcL
namespace Go.Proofs.YtmkllimamejcgaaGreat
set_option linter.all false
open Go.RowKit Go.ChangeShapes Go.WideShapes Go.ChangeAt
def uua:=@List.all_append
def vvd:=@List.getElem_append_right
def vvb:=@List.drop_drop
def uup:=@Nat.div_lt_iff_lt_mul
def uub:=@Nat.div_add_mod
def wwc:=@Option.some.inj
def ww6:=@List.flatten_singleton
def vvr:=@Tryz.underlying153
def uus:=@Tryz.zeroValue93
def uu6:=@Option.isSome_none
def uu7:=@Option.isSome_some
def uug:=@List.mem_replicate
def xxm:=@List.length_replicate
def uuq:=@List.set_getElem_self
def uun:=@List.getLast?_map
def xx7:=@List.getLast?_eq_getElem?
def vv3:=@List.drop_length
def BQ:iw Unit:=.plain 0 (λ_=>[]) (λ_=>rfl) (λ_ u hu=>by cases hu)
def kh{α β:Type}(S:iw α)(T:iw β):iw (α × β) where
 n:=S.n+T.n
 rd:=λw M x cs=>∃c1 c2,cs=c1++c2/\S.rd w M x.1 c1/\T.rd w M x.2 c2
 len:=λ⟨c1,c2,h,h1,h2⟩=>by rw[h,zza,S.len h1,T.len h2]
 one:=λ⟨c1,c2,h,h1,h2⟩ u hu=>by
  subst h;rcases zz5.1 hu with hu|hu
  ·exact S.one h1 u hu
  exact T.one h2 u hu
 keep:=λ⟨c1,c2,h,h1,h2⟩ hf hM=>⟨c1,c2,h,S.keep h1 hf hM,T.keep h2 hf hM⟩
def iw.via{α β:Type}(T:iw α)(f:β->α):iw β where
 n:=T.n
 rd:=λw M y cs=>T.rd w M (f y) cs
 len:=λh=>T.len h
 one:=λh=>T.one h
 keep:=λh=>T.keep h
def Small{H:Type}(P:Program)(t:Ι)(d:DataW H):Prop:=(d.weights P t).all (·<=reachBytes)=true
def mS{α:Type}(P:Program)(t:Ι)(T:iw α)(ok:α->Prop):Prop:=
 P.cellsOf t=T.n/\∀{H:Type} (enc:Ι × Ε->H) (w:Ζ) (sp:Nat->Bool) (hd:Bool) (fuel:Nat) (cs:Ξ) (x:DataW H × List MemPlace),
  DataW.trod enc P w 0 sp hd fuel t cs=some x->Small P t x.1->∃a,T.rd w km a cs/\ok a
def FV(k:IntKind)(n:Int):Prop:=(Lit.int k n).wf=true
def Dw{n:Int}(h:FV .i64 n): -9223372036854775808<=n/\n<=9223372036854775807:=by
 simpa [FV,Lit.wf,IntKind.min,IntKind.max,IntKind.signed,IntKind.bits] using h
def ni{P:Program}{t:Ι}{k:IntKind}(ht:P.underlying t=some (.int k))(hc:P.cellsOf t=1):mS P t (lB k) (FV k):=
 ⟨hc,λenc w sp hd fuel cs x h _=>by
  obtain⟨n,rfl,rfl,hw⟩:=DataW.trod_int ht h;exact⟨n,rfl,hw⟩⟩
def QI{P:Program}{t:Ι}(ht:P.underlying t=some .bool)(hc:P.cellsOf t=1):mS P t Xv (λ_=>True):=
 ⟨hc,λenc w sp hd fuel cs x h _=>by
  obtain⟨n,rfl,rfl⟩:=DataW.trod_bool ht h;exact⟨n,rfl,trivial⟩⟩
def cnp(s:Η):Prop:=s.size<=140737488351232
def YJ{P:Program}{t:Ι}(ht:P.underlying t=some .string)(hc:P.cellsOf t=1):mS P t DX cnp:=
 ⟨hc,λenc w sp hd fuel cs x h hs=>by
  obtain⟨n,rfl,rfl,hw⟩:=DataW.trod_string ht h;refine⟨n,rfl,?_⟩;simp[Small,DataW.weights,reachBytes]at hs
  exact (zzp hs:n.size<=140737488351232)⟩
def cno{α:Type}(b:Nat)(ok:α->Prop)(xs:List α):Prop:=xs.length*b<=140737488351232/\∀x∈xs,ok x
def X4{H:Type}{P:Program}{e:Ι}{n:Nat}:∀{l:List (DataW H)},(DataW.weightsAll P e l).all (·<=n)=true->∀d∈l,(d.weights P e).all (·<=n)=true
 | [],_,_,h=>by cases h
 | x::r,h,d,hd=>by
  simp only[DataW.weightsAll,uua,zzu]at h;rcases zz0.1 hd with rfl|hd
  ·exact h.1
  exact X4 h.2 d hd
def RH{α:Type}{p:Nat->α->Prop}:∀(n:Nat),(∀i,i<n->∃y,p i y)->∃ys:List α,ys.length=n/\∀i (h:i<ys.length),p i ys[i]
 | 0,_=>⟨[],rfl,λi h=>by simp at h⟩
 | n+1,h=>by
  obtain⟨ys,hl,hy⟩:=RH n (λi hi=>h i (by omega));obtain⟨y,hy'⟩:=h n (by omega);refine⟨ys++[y],by simp[hl],λi hi=>?_⟩;by_cases de:i<ys.length
  ·rw[www de];exact hy i de
  have:i=n:=by simp at hi;omega
  subst this;rw[vvd (by omega)];simpa [hl] using hy'
def Kb{α:Type}{P:Program}{t e:Ι}{T:iw α}{ok:α->Prop}{b:Nat}(h:mS P e T ok)(ht:P.underlying t=some (.slice e))(hc:P.cellsOf t=1)(hb:P.bytesOf e=b)(vP:0<T.n):mS P t (GH T) (cno b ok):=by
 refine⟨hc,λenc w sp hd fuel cs x hx hs=>?_⟩;rcases Go.Deep.open_slice ht hx with ⟨rfl,rfl⟩|⟨a,len,cap,m,n,D,Pl,rfl,_,hl,hm,vM,rfl,vD⟩
 ·exact⟨[],⟨_,rfl,kX.nil T w km⟩,by simp,λx hx=>by cases hx⟩
 have hle:len<=m:=by rw[vM];split<;>omega
 simp only[Small,DataW.weights,ht,hb,List.all_cons,uua,zzu,zzw,zzn,List.length_range]at hs;have bUy:∀i,i<len->∃y:α,ok y/\∃pH,T.rd w km y pH/\At w km a.block (a.off+i*T.n) pH/\a=⟨a.block,a.off,none⟩:=λi hi=>by
  obtain⟨pH,h1,h2⟩:=vD i (by omega);obtain⟨y,hy,cH⟩:=h.2 enc w sp hd n pH _ h2 (X4 hs.2.1 _ (zzx.2 ⟨i,by simpa using hi,rfl⟩));obtain⟨_,hlen,Fk⟩:=World.cells?_some h1;have pY:a.spot=none:=by
   have h0:=Fk 0 (by rw[h.1];exact vP);rw[zzc (by rw[hlen,h.1];exact vP)]at h0
   cases pY:a.spot with
   | none=>rfl
   | some q=>
    exfalso;by_cases vF:i*P.cellsOf e=0
    ·simp[Addr.add,vF,World.cell?,pY]at h0
     split at h0<;>cases h0
    have h00:=vD 0 (by omega);obtain⟨cs0,vw,_⟩:=h00;obtain⟨_,bVt,bUj⟩:=World.cells?_some vw;have EZ:=bUj 0 (by rw[h.1];exact vP);rw[zzc (by rw[bVt,h.1];exact vP)]at EZ
    simp[Addr.add,World.cell?,pY]at EZ
    split at EZ<;>cases EZ
  obtain⟨ab,ao,asp⟩:=a;simp only at pY;subst pY;refine⟨y,cH,pH,hy,⟨λ_ x=>x,λj u hu=>?_⟩,rfl⟩;have hj:=(zzf.1 hu).1;have:=Fk j (by omega);rw[yyd,yyd,hu,h.1]at this
  exact this
 obtain⟨ys,FQ,hy⟩:=RH len bUy;subst FQ;refine⟨ys,⟨_,rfl,some a,cap,rfl,hl,λi hi=>?_⟩,?_,λx hx=>?_⟩
 ·obtain⟨_,pH,h1,h2,h3⟩:=hy i hi;exact⟨a.block,a.off,pH,yyt some h3,h1,h2⟩
 ·have:=hs.1;simp only[reachBytes]at this;rw[yyx]at this
  omega
 obtain⟨i,hi,rfl⟩:=yyl hx;exact (hy i hi).1
def D9{α:Type}(P:Program)(fs:List Field)(o:Nat)(T:iw α)(ok:α->Prop):Prop:=
 ∀{H:Type} (enc:Ι × Ε->H) (w:Ζ) (sp:Nat->Bool) (hd:Bool) (n:Nat) (cs:Ξ) (xs:List (DataW H × List MemPlace)),xs.length=fs.length ->
  (∀(i:Nat) (f:Field),fs[i]?=some f->DataW.trod enc P w 0 sp hd n f.type ((cs.drop f.offset).take (P.cellsOf f.type))=xs[i]?) ->
  (DataW.weightsEach P (fs.map (·.type)) (xs.map (·.1))).all (·<=reachBytes)=true->cs.length=o+T.n->∃a,T.rd w km a (cs.drop o)/\ok a
def ER(P:Program)(o:Nat):D9 P [] o BQ (λ_=>True):=λenc w sp hd n cs xs _ _ _ hl=>⟨(),by
 show cs.drop o=[];rw[List.drop_eq_nil_iff];have:BQ.n=0:=rfl;omega,trivial⟩
def kP{α β:Type}{P:Program}{f:Field}{fs:List Field}{o:Nat}{S:iw α}{T:iw β}{VY:α->Prop}{VZ:β->Prop}(h1:mS P f.type S VY)(ho:f.offset=o)(h2:D9 P fs (o+S.n) T VZ):
  D9 P (f::fs) o (kh S T) (λx=>VY x.1/\VZ x.2):=λenc w sp hd n cs xs hl hx hs hc=>by
 match xs,hl with
 | y::ys,hl=>
  have Tz:(kh S T).n=S.n+T.n:=rfl;simp only[zzo,DataW.weightsEach,uua,zzu]at hs;have e0:=hx 0 f rfl;rw[ho,h1.1]at e0
  obtain⟨a,ha,bV5⟩:=h1.2 enc w sp hd n _ y e0 hs.1;obtain⟨b,hb,bV6⟩:=h2 enc w sp hd n cs ys (by simpa using hl) (λi g hg=>by simpa using hx (i+1) g (by simpa using hg)) hs.2 (by omega);refine⟨(a,b),⟨_,_,?_,ha,hb⟩,bV5,bV6⟩;rw[<- vvb];exact (yyk _ _).symm
def yq{α:Type}{P:Program}{t:Ι}{fs:Array Field}{T:iw α}{ok:α->Prop}(ht:P.underlying t=some (.struct fs))(hc:P.cellsOf t=T.n)(h:D9 P fs.toList 0 T ok):mS P t T ok:=
 ⟨hc,λenc w sp hd fuel cs x hx hs=>by
  obtain⟨xs,n,_,rfl,hl,hlen,hf⟩:=DataW.trod_struct ht hx;simp only[Small,DataW.weights,ht]at hs;obtain⟨a,ha,cH⟩:=h enc w sp hd n cs xs (by simpa using hlen) (λi f hi=>hf i f (by simpa using hi)) hs (by omega);exact⟨a,by simpa using ha,cH⟩⟩
def y0{α β:Type}{P:Program}{t:Ι}{T:iw α}{ok:α->Prop}(f:β->α)(g:α->β)(hg:∀a,f (g a)=a)(h:mS P t T ok):mS P t (T.via f) (λb=>ok (f b)):=
 ⟨h.1,λenc w sp hd fuel cs x hx hs=>by
  obtain⟨a,ha,cH⟩:=h.2 enc w sp hd fuel cs x hx hs;exact⟨g a,by show T.rd w km (f (g a)) cs;rw[hg];exact ha,by show ok (f (g a));rw[hg];exact cH⟩⟩
def Zk{α:Type}{P:Program}{t:Ι}{T:iw α}{ok VX:α->Prop}(h:mS P t T ok)(hi:∀a,ok a->VX a):mS P t T VX:=
 ⟨h.1,λenc w sp hd fuel cs x hx hs=>let ⟨a,ha,cH⟩:=h.2 enc w sp hd fuel cs x hx hs;⟨a,ha,hi a cH⟩⟩
def XJ{H:Type}{enc:Ι × Ε->H}{P:Program}(hl:laidOutB P=true){W W':Ζ}(hb:Below W.heap.size W W'):∀{ts:List Ι} {vs:Ξ} {ds:List (DataW H)} {ps:List MemPlace},
  (∀t∈ts,P.readableRec t=true/\t<P.types.size)->DataW.TrodAll enc P W 0 (λ_=>true) true ts vs ds ps->(∀x∈ps,x.block<W.heap.size)->DataW.TrodAll enc P W' 0 (λb=>decide (b<W.heap.size)) true ts vs ds ps
 | [],_,_,_,_,h,_=>by
  obtain⟨rfl,rfl,rfl⟩:=trodAll_nil h;exact trodAll_mk0
 | t::ts,_,_,_,hr,h,de=>by
  obtain⟨v,vs1,d,ds1,a,b,rfl,rfl,rfl,h1,h2⟩:=trodAll_cons h;exact⟨a,b,Below.trod hl (hr t (by simp)).1 (hr t (by simp)).2 h1 hb (λx hx=>de x (by simp[hx])),XJ hl hb (λt ht=>hr t (by simp[ht])) h2 (λx hx=>de x (by simp[hx])),rfl⟩
def cPa{H:Type}{enc:Ι × Ε->H}{P:Program}{f:Func}{s:ChangeSpec}{tb:Ι}(hl:laidOutB P=true)(hr:∀t∈f.params.toList,P.readableRec t=true/\t<P.types.size)
  (Uw:s.vars=[]) (Dl:f.resultTypes = #[tb]) (hb:P.underlying tb=some .bool) (Fu:∀ds:List (DataW H),ds.length=f.params.size->(s.fn H ds).results=[.lit (.bool true)]/\(s.fn H ds).args=ds/\(s.fn H ds).vars=[])
  {W W':Ζ} {args:Array Ε} {ds gs:List (DataW H)} {before:List MemPlace} (hW:DataW.Whole enc P f.params.toList s.vars false W args.toList ds gs before) (Tq:Below W.heap.size W W') :
  s.post enc P f false true false false W args (.bool true) W':=by
 have de:=hW.lt;have Fa:=hW;obtain⟨p,q,hA,hV,rfl,hfz,_⟩:=hW;rw[Uw]at hV
 obtain⟨rfl,rfl⟩:=trodVars_none hV;have hlen:∀{ts:List Ι} {vs:Ξ} {ds:List (DataW H)} {ps:List MemPlace} {w:Ζ} {base:Nat} {sp:Nat->Bool} {hd:Bool},DataW.TrodAll enc P w base sp hd ts vs ds ps->ds.length=ts.length:=by
  intro ts;induction ts with
  | nil=>intro vs ds ps w base sp hd h;obtain⟨rfl,rfl,rfl⟩:=trodAll_nil h;rfl
  | cons t ts ih=>intro vs ds ps w base sp hd h;obtain⟨v,vs1,d,ds1,a,b,rfl,rfl,rfl,_,h2⟩:=trodAll_cons h;simp[ih h2]
 obtain⟨e1,e2,e3⟩:=Fu ds (by simpa using hlen hA);refine⟨ds,[],p++[],[],p,[],Fa,?_,?_,?_,Tq.frame _,λh=>by cases h⟩
 ·rw[zz1,e1,Dl];exact trodAll_mk1 (shut_bool hb true)
 ·rw[zz1,e2];exact XJ hl Tq hr hA (λx hx=>de x (by simp[hx]))
 rw[zz1,e3,Uw];rfl
def UX:Option TypeDesc->Bool
 | some .bool|some (.int _)|some .string|some (.slice _)=>true
 | _=>false
def bIl{P:Program}{w:Ζ}{r:Reach}{b0:Nat}{t:Ι}{v:Ε}(hf:UX (P.underlying t)=true)(oC:Value.okWide P w r b0 t v):v.cells.toList=[v]:=by
 unfold Value.okWide at oC;cases hu:P.underlying t with
 | none=>rw[hu]at hf;cases hf
 | some d=>
  rw[hu]at hf oC
  cases d<;>first|(cases hf;done)|(unfold Cell.okWide Cell.ok at oC;rw[hu]at oC;cases v<;>first|rfl|(exfalso;simp_all))
def cNb{α:Type}{P:Program}{t:Ι}{T:iw α}{ok:α->Prop}{H:Type}{enc:Ι × Ε->H}{W:Ζ}{r:Reach}{b0:Nat}{v:Ε}{d:DataW H}{ps:List MemPlace}{sp:Nat->Bool}{hd:Bool}
  (h:mS P t T ok) (hf:UX (P.underlying t)=true) (oC:Value.okWide P W r b0 t v) (h0:DataW.Trod enc P W 0 sp hd t v d ps) (hs:Small P t d):∃a,T.rd W km a [v]/\ok a:=by
 obtain⟨fuel,hx⟩:=h0;rw[bIl hf oC]at hx
 exact h.2 enc W sp hd fuel [v] _ hx hs
def cNa{α:Type}{P:Program}{t:Ι}{fs:Array Field}{T:iw α}{ok:α->Prop}{H:Type}{enc:Ι × Ε->H}{W:Ζ}{r:Reach}{b0:Nat}{v:Ε}{d:DataW H}{ps:List MemPlace}{sp:Nat->Bool}{hd:Bool}
  (h:mS P t T ok) (ht:P.underlying t=some (.struct fs)) (oC:Value.okWide P W r b0 t v) (h0:DataW.Trod enc P W 0 sp hd t v d ps) (hs:Small P t d):∃a cs,v= .agg cs/\T.rd W km a cs.toList/\ok a:=by
 obtain⟨fuel,hx⟩:=h0;unfold Value.okWide at oC;rw[ht]at oC
 obtain⟨cs,rfl,_⟩:=oC;obtain⟨a,h1,h2⟩:=h.2 enc W sp hd fuel _ _ hx hs;exact⟨a,cs,rfl,h1,h2⟩
open Go.RowKit
def GV(P:Program)(f:FuncId)(args:Ξ)(w:Ζ):Prop:=zQ P f args w λv w'=>v= .bool true/\Below w.heap.size w w'
def qC{P:Program}{f:FuncId}{args:Ξ}{w:Ζ}(h:Spec P f args [.mem (bw.of w)] λv post=>v= .bool true/\∃H l,(bw.of w).le H/\post= .mem H::l):GV P f args w:=by
 refine (h w [] w (SL.init w)).mono ?_;rintro v w' ⟨post,⟨rfl,H,l,hH,rfl⟩,hS⟩;exact⟨rfl,hS.below (.hd) hH⟩
def GV.calls{P:Program}{f:FuncId}{args:Ξ}{w:Ζ}(h:GV P f args w):Calls P f args.toArray w λe w'=>e= .returned (.bool true)/\Below w.heap.size w w':=
 ttg h λe w' ⟨v,he,hv,hb⟩=>⟨by rw[he,hv],hb⟩
def kX.flat{α:Type}{T:iw α}{enc:α->Ξ}{w:Ζ}{xs:List α}{v:Ε}(h:kX T w km xs v)(he:∀{M x cs},T.rd w M x cs->cs=enc x)(hn:∀x,(enc x).length=T.n):
  dq (bw.of w) T.n v xs.length (xs.map enc).flatten:=by
 obtain⟨a,cap,rfl,hc,hx⟩:=h.out;have hlen:(xs.map enc).flatten.length=xs.length*T.n:=by
  rw[Ij (n:=T.n) _ (λx hx=>by obtain⟨y,_,rfl⟩:=zzx.1 hx;exact hn y),zzn]
 refine⟨hlen,a,cap,rfl,hc,?_⟩;rcases yyu xs.length with h0|h0
 ·exact .inl h0
 right;obtain⟨b,off,_,rfl,_,_⟩:=hx 0 h0;refine⟨b,off,rfl,λj u hu=>?_⟩;have hj:=(zzf.1 hu).1;rcases yyu T.n with hz|hz
 ·rw[hlen,hz]at hj;omega
 have hi:j / T.n<xs.length:=by rw[hlen]at hj;exact (uup hz).2 hj
 obtain⟨b',cne,cs,pS,hr,il⟩:=hx (j / T.n) hi;simp at pS;obtain⟨rfl,rfl⟩:=pS;have gz:=he hr;subst gz;have xE:j % T.n<(enc xs[j / T.n]).length:=by rw[hn];exact vvg _ hz
 have hg:=EV (n:=T.n) (xs.map enc) (λx hx=>by obtain⟨y,_,rfl⟩:=zzx.1 hx;exact hn y) (j / T.n) (j % T.n) (by simpa using hi) ((enc xs[j / T.n])[j % T.n]'xE) (by simp[zzc xE]);have IL:j / T.n*T.n+j % T.n=j:=by rw[Nat.mul_comm];exact uub j T.n
 rw[IL]at hg
 rw[hu]at hg
 have Jo:u=(enc xs[j / T.n])[j % T.n]:=wwc hg;have:=il.2 (j % T.n) u (by rw[Jo];exact zzc xE);rw[show off+j / T.n*T.n+j % T.n=off+j by omega]at this
 unfold World.cell? at this;unfold bw.cell bw.of;simp only at this ⊢;split at this
 ·rename_i c t f mc;rw[mc];simpa using this
 cases this
def Ih{α:Type}{enc:α->Ξ}{n:Nat}{xs:List α}(hn:∀x,(enc x).length=n){j i:Nat}(hj:j<xs.length){u:Ε}(hu:(enc xs[j])[i]?=some u):((xs.map enc).flatten)[j*n+i]?=some u:=
 EV (n:=n) (xs.map enc) (λx hx=>by obtain⟨y,_,rfl⟩:=zzx.1 hx;exact hn y) j i (by simpa using hj) u (by simpa using hu)
set_option maxRecDepth 100000
structure rY(X:Μ)(sz:Nat)(v:Ε)(n:Nat)(cs:Ξ):Prop where
 sl:∀{W w:Ζ} {l:Β},SL W l w->Has X l->∃a c,v= .slice a n c/\n<=c
 src:∀{W w:Ζ} {l:Β},SL W l w->Has X l->kJ w sz v n cs
def rY.own{v:Ε}{t:Ι}{sz n:Nat}{cs:Ξ}:rY (.ob (bR v t sz n cs)) sz v n cs:=
 ⟨λh m=>by
  obtain⟨l2,r⟩:=m.rem;rcases bR.open (h.perm r.perm) with ⟨⟨a',rfl⟩,rfl,_,_⟩|⟨b',Ez,rest,rfl,hc,_⟩
  ·exact⟨a',0,rfl,zzj _⟩
  exact⟨_,_,rfl,hc⟩,λh m=>nk h m⟩
def rY.pt{p n sz:Nat}{t:Ι}{cs:Ξ}(h:cs.length=n*sz):rY (.pt p cs t) sz (.slice (some ⟨p,0,none⟩) n n) n cs:=
 ⟨λ_ _=>⟨_,_,rfl,zzj _⟩,λhS m=>kf hS m h⟩
section
variable {W w:Ζ} {l:Β} {X:Μ} {v:Ε} {sz n:Nat} {cs:Ξ}
def QV{K:Ε->Prop}(hS:SL W l w)(m:Has X l)(hb:rY X sz v n cs)(k:K (Γ n)):zd v K:=by
 obtain⟨a,c,rfl,_⟩:=hb.sl hS m;exact ye k
def cAc{α:Type}{enc:α->Ξ}{xs:List α}{j:Nat}{kk:IntKind}{K:Ε->Prop}(hS:SL W l w)(m:Has X l)(hb:rY X sz v n (xs.map enc).flatten)(he:∀x,(enc x).length=sz)(fX:0<sz)(hx:xs.length=n)(hj:j<n)
  (hK:K (.agg (enc (xs[j]'(by omega))).toArray)):zk sz v (.int kk (j:Int)) λp=>zg sz p w K:=by
 obtain⟨a,c,rfl,hc⟩:=hb.sl hS m;have hs:=hb.src hS m;have hlen:(xs.map enc).flatten.length=n*sz:=by
  rw[<- hx];clear hx hs hb hK hj hc;induction xs with
  | nil=>simp
  | cons x xs ih=>simp[he,ih,yyx];omega
 cases a with
 | none=>
  have e:(xs.map enc).flatten=[]:=hs.2;have e2:(enc (xs[j]'(by omega))).length=0:=by
   rw[e]at hlen
   simp only[yym]at hlen;rw[he];rcases yyu sz with h|h
   ·exact h
   have:0<n*sz:=Nat.mul_pos (by omega) h;omega
  rw[he]at e2;omega
 | some p=>
  refine⟨p,_,c,kk,j,rfl,rfl,hj,?_⟩;refine⟨_,enc (xs[j]'(by omega)),rfl,he _,λi u hu=>?_,hK⟩;rw[Ra];refine hs.2.2 (j*sz+i) u ?_;exact Ih he (by omega) hu
end
def rU(X:Μ)(l:List dE)(u:Ε)(post:Β):Prop:=match ou l with
 | .error e=>u= .tuple #[Θ,Γ e]/\post=[X]
 | .ok b=>∃v,u= .tuple #[v,Γ 0]/\post=[.ob (bR v 5 1 b.length (b.map cX)),X]
def rU.er{X:Μ}{l:List dE}{e:Int}(h:ou l= .error e):rU X l (.tuple #[Θ,Γ e]) [X]:=by
 unfold rU;rw[h];exact⟨rfl,rfl⟩
def rU.ok{X:Μ}{l:List dE}{b:Φ}(h:ou l= .ok b)(v:Ε):rU X l (.tuple #[v,Γ 0]) [.ob (bR v 5 1 b.length (b.map cX)),X]:=by
 unfold rU;rw[h];exact⟨v,rfl,rfl⟩
def bFc{x:dE}(h:oJ x=true):(fy x).length<=5000:=by
 unfold fy;unfold oJ at h;by_cases h1:x.kind=1
 ·rw[zzd h1];simp[lQ]
 rw[zzb h1]at h ⊢
 by_cases h2:x.kind=2
 ·rw[zzd h2]at h
  have h3:x.s.size<=4096:=by
   rw[zzu]at h
   exact zzp h.2
  have:x.s.data.toList.length=x.s.size:=rfl;simp only[zzi,zza,lQ];omega
 rw[zzb h2]at h;cases h
def Sy:∀{l:List dE},l.all oJ=true->(l.map fy).flatten.length<=l.length*5000
 | [],_=>by simp
 | x::l,h=>by
  rw[List.all_cons,zzu]at h
  have h1:=bFc h.1;have h2:=Sy h.2;simp only[zzo,zz8,zza,zzi];omega
def yE(X:Μ)(v:Ε)(xs:List dE)(hx:rY X 3 v xs.length (xs.map gj).flatten)(hN:xs.length<=140737488355328):SP 218 [v] [X] (rU X xs):=by
 refine Enzz λW F w hS=>?_;apply cHb;delta Nl aI a_ aR cL ai cQ bI;refine QV hS .hd hx ?_;refine bZ (λh=>?_) (λh=>?_)
 ·exact⟨_,.er (by unfold ou;rw[zzd (by omega)]),hS⟩
 refine QV hS .hd hx ?_;refine zW ?_;rw[wrap_u64 (by omega) (by omega)];have hS:=bR.nil (t:=5) (sz:=1) hS;have hS:SL W (.ob (bR Θ 5 1 ([]:Φ).length (([]:Φ).map cX))::X::F) w:=hS;refine Cc (Zv [] Θ xs.length 2 (by omega) (by simp)) ?_;clear hS;rintro GL post rfl w hS;(try simp only[app]at hS);rw[zzr]at hS
 refine QV hS Xh hx ?_;have hb:∀i,i<=xs.length->(xs.take i).all oJ=true->(eV xs.length 2++((xs.take i).map fy).flatten).length<=200000000:=λi hi ha=>by
  have:=Sy ha;rw[zza,lQ];rw[zzg]at this
  omega
 refine⟨λvs w=>∃(i:Nat) (u:Ε),i<=xs.length/\vs=[u,Γ i]/\(xs.take i).all oJ=true/\SL W (.ob (bR u 5 1 (eV xs.length 2++((xs.take i).map fy).flatten).length ((eV xs.length 2++((xs.take i).map fy).flatten).map cX))::X::F) w,λvs _=>match vs with
  | [_,.int _ i]=>xs.length-i.toNat
  | _=>0,⟨0,GL,by omega,rfl,rfl,(by simpa using hS)⟩,?_⟩
 clear hS;rintro u1 u2 w1 ⟨i,u,hi,hv,ha,hS⟩;cases hv;have hbi:=hb i hi ha;refine bZ (λh=>?_) (λh=>?_)
 ·have hi:i<xs.length:=by omega
  refine cAc hS Xh hx Cy (by omega) rfl hi ?_;have Ju:xs[i]∈xs:=zzh hi;have rE:xs.take (i+1)=xs.take i++[xs[i]]:=by rw[ww4];simp[hi]
  generalize xs[i]=x at *
  unfold gj;refine Gm λb w hS=>?_;refine Cc (qM x) ?_;clear hS;rintro v post ⟨rfl,rfl⟩ w hS;(try simp only[app]at hS);refine z7 ?_;cases hr:oJ x with
  | false=>
   refine zq ?_;refine⟨[X],.er ?_,aW hS⟩;unfold ou;rw[zzb (by omega),zzb];intro h;have:=zz3.1 h x Ju;rw[hr]at this;cases this
  | true=>
   refine zp ?_;have xk:(xs.take (i+1)).all oJ=true:=by rw[rE,uua,ha];simp[hr]
   have o8:=hb (i+1) (by omega) xk;have lg:((xs.take (i+1)).map fy).flatten=((xs.take i).map fy).flatten++fy x:=by rw[rE];simp
   rw[lg]at o8
   rw[zza,zza]at o8
   have hk:x.kind=1\/x.kind=2:=by
    unfold oJ at hr;by_cases h1:x.kind=1
    ·exact .inl h1
    rw[zzb h1]at hr
    by_cases h2:x.kind=2
    ·exact .inr h2
    rw[zzb h2]at hr;cases hr
   generalize hc:eV xs.length 2++((xs.take i).map fy).flatten=c at *
   have mZ:c.length+(fy x).length<=200000000:=by rw[<- hc,zza];omega
   refine Gp ?_;refine zW ?_;rw[wrap_u8];refine zN (cells:=[cX (gW x.kind)]) hS rfl ?_;clear hS;intro p w hS;refine zI (m:=1) (cs:=[cX (gW x.kind)]) hS Xr (kf hS .hd rfl) rfl rfl (by intro v hv;simp only[zz7]at hv;subst hv;rfl) (by omega) (by omega) ?_;clear hS;intro u' w hS;refine Gp ?_;have hS:SL W (.ob (bR u' 5 1 (c++[gW x.kind]).length ((c++[gW x.kind]).map cX))::.pt b [Γ x.kind,Γ x.n,.string x.s] 327::X::F) w:=by
    simp only[zza,zzi,yym,zzt,zzo,yy7];exact aW hS
   refine za (λh1=>?_) (λh1=>?_)
   ·refine Gp ?_;refine zW ?_;have eu:IntKind.u64.wrap x.n=wk x.n:=rfl;rw[eu];refine Cc (Zv (c++[gW x.kind]) u' (wk x.n) 8 (by omega) (by simp;omega)) ?_;clear hS;rintro v36 post rfl w hS;(try simp only[app]at hS);refine Gp ?_;refine⟨⟨i+1,v36,by omega,rfl,xk,?_⟩,?_⟩
    ·have e:eV xs.length 2++((xs.take (i+1)).map fy).flatten=c++[gW x.kind]++eV (wk x.n) 8:=by
      rw[lg,<- zzk,hc];have:fy x=gW x.kind::eV (wk x.n) 8:=by unfold fy;rw[zzd h1]
      rw[this];simp
     rw[e];exact aW hS
    simp only[zzy];omega
   have fX:x.s.size<=4096:=by
    unfold oJ at hr;rw[zzb h1,zzd (by omega),zzu]at hr
    exact zzp hr.2
   have TI:fy x=gW x.kind::(eV x.s.size 2++x.s.data.toList):=by unfold fy;rw[zzb h1]
   refine Gn λw hS=>?_;refine zW ?_;rw[wrap_u64 (by omega) (by omega)];refine Gp ?_;refine Cc (Zv (c++[gW x.kind]) u' x.s.size 2 (by omega) (by simp;omega)) ?_;clear hS;rintro v42 post rfl w hS;(try simp only[app]at hS);refine Gp ?_;have Jl:x.s.data.toList.length=x.s.size:=rfl;have vD:(fy x).length=1+(2+x.s.size):=by rw[TI];simp only[zzi,zza,lQ];omega
   refine zI (m:=x.s.size) (cs:=x.s.data.toList.map cX) hS Xr cB6 (by simp) rfl (uY _) (by simp only[zza,zzi,yym,lQ];omega) (by simp only[zza,zzi,yym,lQ];omega) ?_;clear hS;intro v45 w hS;refine Gp ?_;refine⟨⟨i+1,v45,by omega,rfl,xk,?_⟩,?_⟩
   ·have e:eV xs.length 2++((xs.take (i+1)).map fy).flatten=(c++[gW x.kind]++eV x.s.size 2)++x.s.data.toList:=by
     rw[lg,<- zzk,hc,TI];simp
    rw[e];generalize c++[gW x.kind]++eV x.s.size 2=A at *
    rw[zza,zzt,Jl];exact aW hS
   simp only[zzy];omega
 obtain rfl:i=xs.length:=by omega
 rw[zz4]at hS ha
 exact⟨_,.ok (by unfold ou;rw[zzb (by omega),zzd ha]) u1,hS⟩
abbrev nZ:=Ε × Φ
def gK(x:nZ):zB:=bR x.1 5 1 x.2.length (x.2.map cX)
def gx(es:List nZ):Ξ:=es.map Prod.fst
def oR(es:List nZ):List Φ:=es.map Prod.snd
def awv(X:Μ)(q:Φ)(r:Ε)(post:Β):Prop:=∃(u:Ε) (es:List nZ),oR es=(jo q).1/\r= .tuple #[u,Γ ((jo q).2:Nat)]/\post=[.ob (bR u 205 1 es.length (gx es)),.ob (ze gK es),X]
def cBe(X:Μ)(v:Ε)(q:Φ)(hq:dS X v q)(hN:q.length<=10000000000):SP 322 [v] [X] (awv X q):=by
 refine Enzz λW F w hS=>?_;apply cJj;delta OG aI ai bI;have hS:=bR.nil (t:=205) (sz:=1) (ze.nil (A:=gK) hS);refine⟨λvs w=>∃(u:Ε) (es:List nZ) (at_:Nat),vs=[u,Γ at_]/\at_<=q.length/\es.length*8<=at_/\oR es++(jo (q.drop at_)).1=(jo q).1/\at_+(jo (q.drop at_)).2=(jo q).2 /\
   SL W (.ob (bR u 205 1 es.length (gx es))::.ob (ze gK es)::X::F) w,λvs _=>match vs with
  | [_,.int _ i]=>q.length-i.toNat
  | _=>0,⟨_,[],0,rfl,zz9 _,zzj _,rfl,by simp,hS⟩,?_⟩
 clear hS;rintro u1 u2 w1 ⟨u,es,i,hv,hi,h8,h1,h2,hS⟩;cases hv;refine WT hS Xh hq hi ?_;intro v12 dU;refine Cc (YR X v12 (q.drop i) dU (by rw[zzq];omega)) ?_;clear hS;intro GL post hQ w hS;unfold tY at hQ;cases ht:gY (q.drop i) with
 | error e=>
  rw[ht]at hQ
  obtain⟨rfl,rfl⟩:=hQ;(try simp only[app]at hS);refine Gp ?_
  have he:=XA ht;rw[DV ht]at h1 h2
  refine za (λ_=>?_) (λh=>by omega);refine⟨_,⟨u1,es,by simpa using h1,?_,rfl⟩,aW hS⟩;rw[<- h2];rfl
 | ok x=>
  obtain⟨p,n⟩:=x;rw[ht]at hQ
  obtain⟨y,rfl,rfl⟩:=hQ;(try simp only[app]at hS);refine Gp ?_
  have hl:=D0 ht;rw[Gy ht]at h1 h2
  rw[zzq]at hl
  refine za (λh=>absurd rfl h) (λ_=>?_);have tG:=hS.rL .hd;obtain⟨ay,cy,ey,_⟩:=bR.at hS .hd;subst ey;refine zN (cells:=[.slice ay p.length cy]) hS rfl ?_;clear hS;intro b w hS;refine zI (m:=1) (cs:=[.slice ay p.length cy]) hS Xr (kf hS .hd rfl) rfl rfl (by intro v hv;simp only[zz7]at hv;subst hv;rfl) (by omega) (by omega) ?_;clear hS;intro u' w hS;have hS:=ze.snoc (A:=gK) (xs:=es) (x:=(.slice ay p.length cy,p)) (SL.b_ hS (t:=.ob (ze gK es)::.ob (bR (.slice ay p.length cy) 5 1 p.length (p.map cX))::.ob (bR u' 205 1 (es.length+1) (gx es++[.slice ay p.length cy]))::X::F) Xi);refine Zy (a:=i) (b:=n) (by omega) ?_;refine⟨⟨u',es++[(.slice ay p.length cy,p)],i+n,rfl,by omega,by simp;omega,?_,?_,?_⟩,?_⟩
  ·rw[<- h1,<- vvb];simp[oR]
  ·rw[<- h2,<- vvb];simp only;omega
  ·rw[show (es++[((Value.slice ay p.length cy,p):nZ)]).length=es.length+1 by simp,show gx (es++[((Value.slice ay p.length cy,p):nZ)])=gx es++[.slice ay p.length cy] by simp[gx]];exact aW hS
  simp only[zzy];omega
def bFd{n:Nat}(h:n<=1099511627776):ou [⟨1,n,⟨#[]⟩⟩]= .ok (dP n):=by
 have e:wk (n:Int)=(n:Int):=by unfold wk;omega
 unfold ou;rw[zzb (by simp),zzd (by simp[oJ])];show Except.ok (eV ((1:Nat):Int) 2++(fy ⟨1,n,⟨#[]⟩⟩++[]))=_;unfold fy;rw[zzd rfl,e];show Except.ok ([gW ((1:Int).fdiv (2 ^ (8*1))),gW ((1:Int).fdiv (2 ^ (8*0)))]++(gW 1::eV n 8++[]))=_;rw[zz1];rfl
def GR(n:Int)(r:Ε)(post:Β):Prop:=if n<1\/1099511627776<n then r= .tuple #[Θ,Γ 1]/\post=[] else ∃u,r= .tuple #[u,Γ 0]/\post=[.ob (bR u 5 1 (da (dP n.toNat)).length ((da (dP n.toNat)).map cX))]
def Y8(n:Int):SP 333 [Γ n] [] (GR n):=by
 refine Enzz λW F w hS=>?_;apply cJv;delta OR aI ai cQ bI;unfold GR;refine bZ (λh=>?_) (λh=>?_)
 ·exact⟨[],by rw[zzd (.inl h)];exact⟨rfl,rfl⟩,hS⟩
 refine bZ (λh2=>?_) (λh2=>?_)
 ·exact⟨[],by rw[zzd (.inr h2)];exact⟨rfl,rfl⟩,hS⟩
 obtain⟨k,rfl⟩:=wwg (show 0<=n by omega);have hx:=bFd (n:=k) (by omega);refine yW (cells:=gj ⟨1,k,⟨#[]⟩⟩) rfl ?_;refine zN (cells:=gj ⟨1,k,⟨#[]⟩⟩) hS rfl ?_;clear hS;intro p w hS;refine Cc (yE (.pt p (gj ⟨1,k,⟨#[]⟩⟩) 327) _ [⟨1,k,⟨#[]⟩⟩] (rY.pt rfl) (by simp)) ?_;clear hS;intro v post hQ w hS;unfold rU at hQ;rw[hx]at hQ
 obtain⟨u,rfl,rfl⟩:=hQ;(try simp only[app]at hS);refine Gp ?_
 refine za (λh=>absurd rfl h) (λ_=>?_);refine Cc (Z8 (.ob (bR u 5 1 (dP k).length ((dP k).map cX))) u (dP k) dS.own (by rw[AZ];omega)) ?_;clear hS;intro v post hQ w hS;unfold s4 at hQ;rw[zzb (by rw[AZ];omega)]at hQ
 obtain⟨y,rfl,rfl⟩:=hQ;(try simp only[app]at hS);refine Gp ?_
 refine⟨[.ob (bR y 5 1 (da (dP k)).length ((da (dP k)).map cX))],?_,aW hS⟩;rw[zzb (by omega)];exact⟨y,rfl,rfl⟩
abbrev Lq(rp:Nat)(lv:Ε)(n f:Int)(es:List nZ):Β:=[.pt rp [lv,Γ n,Γ f] 441,.ob (bR lv 205 1 es.length (gx es)),.ob (ze gK es)]
def pT(es:List nZ):Option Int:=match es with
 | []=>none
 | e::_=>pc e.2
def Yg(rp:Nat)(lv:Ε)(n f:Int)(es:List nZ):SP 323 [Δ rp] (Lq rp lv n f es) (cE (.bool (pT es).isSome) (Lq rp lv n ((pT es).getD f) es)):=by
 refine Enzz λW F w hS=>?_;apply cJk;delta OH aI a_ cV bV bY ai;refine Gp ?_;refine zu hS (t:=205) (sz:=1) (n:=es.length) (cells:=gx es) Xh ?_;refine bZ (λh=>?_) (λh=>?_)
 ·have:es=[]:=zzl (by omega);subst this;exact⟨_,⟨rfl,rfl⟩,hS⟩
 obtain⟨e,es,rfl⟩:∃e iP,es=e::iP:=by
  cases es with
  | nil=>simp at h
  | cons e iP=>exact⟨e,iP,rfl⟩
 refine Gp ?_;refine yh (j:=0) hS (t:=205) (n:=(e::es).length) (cells:=gx (e::es)) Xh (by simp) (u:=e.1) rfl ?_;have hS:=ze.take (t:=0) (x:=e) (SL.b_ hS (t:=.ob (ze gK (e::es))::.pt rp [lv,Γ n,Γ f] 441::.ob (bR lv 205 1 (e::es).length (gx (e::es)))::F) Xi) rfl;have mY:∀{w:Ζ} {k:Int},SL W (.ob (gK e)::.ob (ze gK ((e::es).eraseIdx 0))::.pt rp [lv,Γ n,Γ k] 441::.ob (bR lv 205 1 (e::es).length (gx (e::es)))::F) w ->
   SL W (.pt rp [lv,Γ n,Γ k] 441::.ob (bR lv 205 1 (e::es).length (gx (e::es)))::.ob (ze gK (e::es))::F) w:=λ{w k} h=>by
  have h2:SL W (.ob (ze gK (e::es))::.pt rp [lv,Γ n,Γ k] 441::.ob (bR lv 205 1 (e::es).length (gx (e::es)))::F) w:=ze.put h (by simp);exact SL.b_ h2 Xi
 have hR:dS (.ob (gK e)) e.1 e.2:=dS.own;refine Cc (yD (.ob (gK e)) e.1 e.2 hR) ?_;clear hS;intro v post hQ w hS;unfold wq at hQ;have hh:pT (e::es)=pc e.2:=rfl;rw[hh];unfold pc;cases hd:jD e.2 with
 | error k=>
  rw[hd]at hQ
  obtain⟨rfl,rfl⟩:=hQ;(try simp only[app]at hS);refine Gp ?_
  have hk:k≠0:=by
   intro hk;rw[HQ]at hd
   split at hd
   ·cases hd
   rename_i h0;cases hd;exact h0 hk
  refine za (λ_=>?_) (λh=>absurd hk h);exact⟨_,⟨rfl,rfl⟩,mY hS⟩
 | ok l=>
  rw[hd]at hQ
  obtain⟨y,rfl,rfl⟩:=hQ;(try simp only[app]at hS);refine Gp ?_
  refine za (λh=>absurd rfl h) (λ_=>?_);refine zu hS (t:=327) (sz:=3) (n:=l.length) (cells:=(l.map gj).flatten) Xh ?_;refine bZ (λh1=>?_) (λh1=>?_)
  ·have:Fl l=none:=by
    match l,h1 with
    | [],_=>rfl
    | [x],h1=>simp at h1
    | _::_::_,_=>rfl
   simp only[this];exact⟨_,⟨rfl,rfl⟩,mY (k:=f) (aW hS)⟩
  obtain⟨x,rfl⟩:∃x,l=[x]:=List.length_eq_one_iff.1 (by omega);have hx:Fl [x]=if x.kind=1/\1<=x.n/\x.n<=1099511627776 then some x.n else none:=rfl
  simp only[hx];refine yi (j:=0) (i:=0) (x:=x) (xs:=[x]) hS (t:=327) (sz:=3) (n:=1) Xh Cy rfl (by omega) (u:=Γ x.kind) rfl ?_;refine bZ (λh2=>?_) (λh2=>?_)
  ·rw[zzb (by omega)];exact⟨_,⟨rfl,rfl⟩,mY (k:=f) (aW hS)⟩
  refine yi (j:=0) (i:=1) (x:=x) (xs:=[x]) hS (t:=327) (sz:=3) (n:=1) Xh Cy rfl (by omega) (u:=Γ x.n) rfl ?_;refine bZ (λh3=>?_) (λh3=>?_)
  ·rw[zzb (by omega)];exact⟨_,⟨rfl,rfl⟩,mY (k:=f) (aW hS)⟩
  refine yi (j:=0) (i:=1) (x:=x) (xs:=[x]) hS (t:=327) (sz:=3) (n:=1) Xh Cy rfl (by omega) (u:=Γ x.n) rfl ?_;refine bZ (λh4=>?_) (λh4=>?_)
  ·rw[zzb (by omega)];exact⟨_,⟨rfl,rfl⟩,mY (k:=f) (aW hS)⟩
  rw[zzd ⟨by omega,by omega,by omega⟩];refine yi (j:=0) (i:=1) (x:=x) (xs:=[x]) hS (t:=327) (sz:=3) (n:=1) Xh Cy rfl (by omega) (u:=Γ x.n) rfl ?_;refine Gn λw hS=>?_;exact⟨_,⟨rfl,rfl⟩,mY (k:=x.n) (aW hS)⟩
def Ec(X:Μ)(q:Φ)(r:Ε)(post:Β):Prop:=match gX q with
 | none=>r= .tuple #[Γ 0,Θ,Γ 0,Γ 3]/\post=[X]
 | some (f,l,n)=>∃(u:Ε) (es:List nZ),oR es=l/\r= .tuple #[Γ f,u,Γ (n:Nat),Γ 0]/\post=[.ob (dt u 205 1 es.length (gx es)),.ob (ze gK es),X]
def cx8(es:List nZ)(n:Nat):Option (Int × List Φ × Nat):=match es with
 | []=>none
 | e::iP=>(pc e.2).map λk=>(k,oR iP,n)
def czb{q:Φ}{es:List nZ}(he:oR es=(jo q).1):gX q=cx8 es (jo q).2:=by
 unfold gX;rw[<- he];cases es with
 | nil=>rfl
 | cons e es=>rfl
def Y9(X:Μ)(v:Ε)(q:Φ)(hq:dS X v q)(hN:q.length<=10000000000):SP 270 [v] [X] (Ec X q):=by
 refine Enzz λW F w hS=>?_;apply cIc;delta NY bU aR bV cL ai bI;refine Cc (cBe X v q hq hN) ?_;clear hS;rintro r post ⟨u,es,he,rfl,rfl⟩ w hS;(try simp only[app]at hS);have tG:=hS.rL .hd;obtain⟨au,cu,eu,_⟩:=bR.at hS .hd;subst eu;refine Gp ?_;refine⟨_,rfl,zC hS ?_⟩;clear hS;intro rp w hS;have hS:SL W (.pt rp [.slice au es.length cu,Γ ((jo q).2:Nat),Γ 0] 441::.ob (bR (.slice au es.length cu) 205 1 es.length (gx es))::.ob (ze gK es)::X::F) w:=hS;refine Cc (Yg rp (.slice au es.length cu) ((jo q).2:Nat) 0 es) ?_;clear hS;rintro v post ⟨rfl,rfl⟩ w hS;(try simp only[app]at hS);refine z7 ?_;have hr:=czb he;cases hd:pT es with
 | none=>
  refine zq ?_;refine⟨[X],?_,aW hS⟩;unfold Ec;have:gX q=none:=by
   rw[hr];cases es with
   | nil=>rfl
   | cons e es=>have hd:pc e.2=none:=hd;show (pc e.2).map _=none;rw[hd];rfl
  rw[this];exact⟨rfl,rfl⟩
 | some k=>
  refine zp ?_;cases es with
  | nil=>cases hd
  | cons e es=>
   have hd:pc e.2=some k:=hd;have hr:gX q=some (k,oR es,(jo q).2):=by
    rw[hr];show (pc e.2).map _=_;rw[hd];rfl
   rw[show (pT (e::es)).getD 0=k by show (pc e.2).getD 0=k;rw[hd];rfl]at hS
   refine Gn λw hS=>?_;have hS:=ze.take (t:=0) (x:=e) (SL.b_ hS (t:=.ob (ze gK (e::es))::.pt rp [.slice au (e::es).length cu,Γ ((jo q).2:Nat),Γ k] 441::.ob (bR (.slice au (e::es).length cu) 205 1 (e::es).length (gx (e::es)))::X::F) Xi) rfl;have hS:=dt.of (SL.b_ hS (t:=.ob (bR (.slice au (e::es).length cu) 205 1 (e::es).length (gx (e::es)))::.pt rp [.slice au (e::es).length cu,Γ ((jo q).2:Nat),Γ k] 441::.ob (ze gK ((e::es).eraseIdx 0))::X::F) Xi);refine Yd (k:=1) hS (by simp) ?_;clear hS;intro y hS;have e1:(e::es).length-1=es.length:=by simp
   have e2:(gx (e::es)).drop (1*1)=gx es:=rfl;have e3:(e::es).eraseIdx 0=es:=rfl;rw[e1,e2,e3]at hS
   refine Gp ?_;refine⟨[.ob (dt y 205 1 es.length (gx es)),.ob (ze gK es),X],?_,aW hS⟩;unfold Ec;rw[hr];exact⟨y,es,rfl,rfl,rfl⟩
section
variable {W w:Ζ} {l:Β} {X:Μ} {v:Ε} {sz n:Nat}
end
abbrev kj(u:Ε)(L:List dE):Μ:=.ob (bR u 327 3 L.length (L.map gj).flatten)
def bIb(L:List dE):∀v∈(L.map gj).flatten,v.oneCell'=true:=tR Sx L
def yc{W w:Ζ}{l F:Β}{x y:Ε}{L M:List dE}{K:Ε->Ζ->Prop}(hS:SL W l w)(hr:gd (kj x L) l F)(gU:kJ w 3 y M.length (M.map gj).flatten)(hb:L.length+M.length<=1000000)
  (h:∀v' w',SL W (kj v' (L++M)::F) w'->K v' w'):zx 3 32 [Γ 0,Γ 0,.string ⟨#[]⟩] 327 x y w K:=
 zI hS hr gU (oV H_ M) rfl (bIb M) (by omega) (by omega) λv' w' hS=>h v' w' (by
  have e:((L++M).map gj).flatten=(L.map gj).flatten++(M.map gj).flatten:=by simp
  show SL W (.ob (bR v' 327 3 (L++M).length ((L++M).map gj).flatten)::F) w';rw[e,zza];exact hS)
def GD{W w:Ζ}{l:Β}{b:Nat}{x:dE}(hS:SL W l w)(m:Has (.pt b (gj x) 327) l):kJ w 3 (.slice (some ⟨b,0,none⟩) 1 1) [x].length ([x].map gj).flatten:=by
 simpa using kf (m:=1) (sz:=3) (cap:=1) hS m rfl
section
variable (b:Nat) (x1 x2 x3 x4 x5 x6 x7:Int) (t:Ι)
def FY:SP 215 [.slice (some ⟨b,0,none⟩) 1 1] [.pt b [Γ x1] t] (λu post=>post=[kj u [iF x1]]):=yI b [x1] t (by simp)
def UU:SP 215 [.slice (some ⟨b,0,none⟩) 2 2] [.pt b [Γ x1,Γ x2] t] (λu post=>post=[kj u [iF x1,iF x2]]):=yI b [x1,x2] t (by simp)
def UW:SP 215 [.slice (some ⟨b,0,none⟩) 4 4] [.pt b [Γ x1,Γ x2,Γ x3,Γ x4] t] (λu post=>post=[kj u [iF x1,iF x2,iF x3,iF x4]]):=yI b [x1,x2,x3,x4] t (by simp)
def bXz:SP 215 [.slice (some ⟨b,0,none⟩) 7 7] [.pt b [Γ x1,Γ x2,Γ x3,Γ x4,Γ x5,Γ x6,Γ x7] t] (λu post=>post=[kj u [iF x1,iF x2,iF x3,iF x4,iF x5,iF x6,iF x7]]):=yI b [x1,x2,x3,x4,x5,x6,x7] t (by simp)
end
def BZ(H:bw)(t:cD)(u:Ε)(post:Β):Prop:=match uj t with
 | .error e=>u= .tuple #[Θ,Γ e]/\post=[.mem H]
 | .ok b=>∃v,u= .tuple #[v,Γ 0]/\post=[.ob (bR v 5 1 b.length (b.map cX)),.mem H]
def pL(t:cD)(i:Nat):List dE:=[iF t.aw,iF t.ops.length]++((t.ops.take i).map pO).flatten
def rj(t:cD)(i:Nat):List dE:=pL t t.ops.length++[iF t.notes.length]++((t.notes.take i).map pN).flatten
def bF1{t:cD}{i:Nat}(h:i<t.ops.length):pL t (i+1)=pL t i++pO t.ops[i]:=by
 unfold pL;rw[zze h,zzt,yyw,wwd,ww6,zzk]
def bF4{t:cD}{i:Nat}(h:i<t.notes.length):rj t (i+1)=rj t i++pN t.notes[i]:=by
 unfold rj;rw[zze h,zzt,yyw,wwd,ww6,<- zzk]
def bF2(t:cD):rj t t.notes.length=kZ t:=by
 unfold rj pL kZ;simp
def CH{α β:Type}{f:α->List β}{n:Nat}(hn:∀x,(f x).length=n)(xs:List α):((xs.map f).flatten).length=xs.length*n:=by
 induction xs with
 | nil=>simp
 | cons x xs ih=>simp[hn,ih,yyx];omega
def SI(t:cD)(i:Nat):(pL t i).length<=2+5*i:=by
 unfold pL;rw[zza,CH (n:=5) (λ_=>rfl),zzg];simp;omega
def bF3(t:cD)(i:Nat):(rj t i).length<=3+5*t.ops.length+7*i:=by
 have:=SI t t.ops.length;unfold rj;rw[zza,zza,CH (n:=7) (λ_=>rfl),zzg];simp;omega
def YL(H:bw)(x:iD)(t:cD)(hx:ie H x t):SP 227 [agg (eP x)] [.mem H] (BZ H t):=by
 refine Enzz λW F w hS=>?_;apply cHk;delta Nv aI a_ aR cL ai cQ bI;refine zw hS λxb w hS=>?_;refine Gp ?_;refine Cg (zZ H x t hx) λw hS=>?_;refine zt (λh=>?_) (λhm=>?_)
 ·exact⟨[.mem H],by unfold BZ uj;rw[h];exact⟨rfl,rfl⟩,aW hS⟩
 have hb:=(oF.1 hm).1;unfold eP at hS;rw[hx.aw]at hS
 refine Gp ?_;refine zo hx.ops ?_;refine Gm λb w hS=>?_;refine Cc (UU b t.aw t.ops.length 2) ?_;clear hS;rintro u post rfl w hS;(try simp only[app]at hS);refine Gp ?_
 refine zo hx.ops ?_;have hS:SL W (kj u (pL t 0)::_) _:=hS;refine⟨λvs w=>∃(i:Nat) (u:Ε),vs=[u,Γ i]/\i<=t.ops.length/\SL W (kj u (pL t i)::.pt xb [Γ t.aw,x.ov,x.nv] 214::.mem H::F) w,
  λvs _=>match vs with|[_,.int _ i]=>(t.ops.length-i).toNat|_=>0,⟨0,_,rfl,by omega,aW hS⟩,?_⟩
 clear hS;rintro u v3 w ⟨i,_,eU,hi,hS⟩;cases eU;have su:=SI t i;refine bZ (λh=>?_) (λh=>?_)
 ·have cz:i<t.ops.length:=by omega
  have hs:=bF1 cz;refine zD hS Xh wV hx.ops (x:=t.ops[i]) (by simp[cz]) cz ?_;generalize t.ops[i]=o at *
  obtain⟨ol,ot,ok,og,ov⟩:=o;refine Gm λb w hS=>?_;unfold jF at hS;refine Cg (Zx og) λw hS=>?_;refine Gm λb w hS=>?_;refine Cc (UW b ol ot ok (g_ og) 2) ?_;clear hS;rintro u2 post rfl w hS;try simp only[app]at hS
  refine yc (L:=pL t i) hS Xr (nk hS Xh) (by simp;omega) λu3 w hS=>?_;refine Gp ?_;refine Cg (yN ov) λw hS=>?_;refine Gm λb w hS=>?_;refine yc (M:=[tF ov]) hS Xr (GD hS Xh) (by simp;omega) λu4 w hS=>?_;refine Gp ?_;refine⟨⟨i+1,_,rfl,by omega,?_⟩,by dsimp only;omega⟩;rw[hs];simp only[zzk]at hS;have hS:SL W (kj _ (pL t i++pO ⟨ol,ot,ok,og,ov⟩)::_) _:=hS;exact aW hS
 have jO:i=t.ops.length:=by omega
 subst jO;refine Gp ?_;refine zo hx.iS ?_;refine Gm λb w hS=>?_;refine Cc (FY b t.notes.length 2) ?_;clear hS;rintro u2 post rfl w hS;try simp only[app]at hS
 refine yc (L:=pL t t.ops.length) hS Xr (nk hS Xh) (by simp;omega) λu3 w hS=>?_;refine Gp ?_;refine zo hx.iS ?_;refine⟨λvs w=>∃(i:Nat) (u:Ε),vs=[u,Γ i]/\i<=t.notes.length/\SL W (kj u (rj t i)::.pt xb [Γ t.aw,x.ov,x.nv] 214::.mem H::F) w,
  λvs _=>match vs with|[_,.int _ i]=>(t.notes.length-i).toNat|_=>0,⟨0,u3,rfl,by omega,?_⟩,?_⟩
 ·rw[show rj t 0=pL t t.ops.length++[iF t.notes.length] by unfold rj;simp];exact aW hS
 clear hS;rintro u v3 w ⟨i,_,eU,hi,hS⟩;cases eU;have E8:=bF3 t i;refine bZ (λh=>?_) (λh=>?_)
 ·have cz:i<t.notes.length:=by omega
  have hs:=bF4 cz;refine zD hS Xh wU hx.iS (x:=t.notes[i]) (by simp[cz]) cz ?_;generalize t.notes[i]=o at *
  obtain⟨n1,n2,n3,n4,n5,n6,n7⟩:=o;refine Gm λb w hS=>?_;unfold kO at hS;refine Cg (Zx n7) λw hS=>?_;refine Gm λb w hS=>?_;refine Cc (bXz b n1 n2 n3 n4 n5 n6 (g_ n7) 2) ?_;clear hS;rintro u2 post rfl w hS;try simp only[app]at hS
  refine yc (L:=rj t i) hS Xr (nk hS Xh) (by simp;omega) λu3 w hS=>?_;refine Gp ?_;refine⟨⟨i+1,_,rfl,by omega,?_⟩,by dsimp only;omega⟩;rw[hs];have hS:SL W (kj _ (rj t i++pN ⟨n1,n2,n3,n4,n5,n6,n7⟩)::_) _:=hS;exact aW hS
 have jO:i=t.notes.length:=by omega
 subst jO;rw[bF2]at hS E8
 refine Cc (yE (kj u (kZ t)) u (kZ t) rY.own (by omega)) ?_;clear hS;rintro r post hq w hS;try simp only[app]at hS
 unfold rU at hq;unfold BZ uj;rw[hm,zzd rfl];cases he:ou (kZ t) with
 | error e=>
  rw[he]at hq
  obtain⟨rfl,rfl⟩:=hq;(try simp only[app]at hS);refine Gp ?_
  exact cC hS
 | ok bs=>
  rw[he]at hq
  obtain⟨v,rfl,rfl⟩:=hq;(try simp only[app]at hS);refine Gp ?_
  exact⟨_,⟨v,rfl,rfl⟩,aW hS⟩
section
variable (a b c d e f g:dE)
end
def pM(c:ep):List dE:=[iF c.table,iF c.key,iF (g_ c.gone),tF c.val]
section
variable {α β γ:Type}
def tT(p:cY->α × cY)(f:α->cY->β × cY)(r:cY):(α × β) × cY:=(((p r).1,(f (p r).1 (p r).2).1),(f (p r).1 (p r).2).2)
def xX(g:α->β)(p:cY->α × cY)(r:cY):β × cY:=(g (p r).1,(p r).2)
end
def BM{m:Int}(hm:0<=m)(r:cY):0<=(dC m r).1/\(dC m r).1<=m:=by
 unfold dC;split
 ·exact⟨yyf _,hm⟩
 omega
def bZj{α:Type}(one:cY->α × cY){i:Nat}{r:cY}(h:i=0\/r.bad=true):iV one i r=([],r):=by
 cases i with
 | zero=>rfl
 | succ i=>unfold iV;rw[zzd (by rcases h with h|h;cases h;exact h)]
def bZi{α:Type}(one:cY->α × cY){i:Nat}{r:cY}(h:r.bad=false):iV one (i+1) r=((one r).1::(iV one i (one r).2).1,(iV one i (one r).2).2):=by
 conv=>lhs;unfold iV
 rw[zzb (by rw[h];decide)]
structure pA{α:Type}(one:cY->α × cY)(n:Nat)(r0:cY)(xs:List α)(k:Nat)(r:cY):Prop where
 eq:iV one n r0=(xs++(iV one k r).1,(iV one k r).2)
 le:xs.length+k<=n
def pA.start{α:Type}(one:cY->α × cY)(n:Nat)(r:cY):pA one n r [] n r:=⟨rfl,by simp⟩
def pA.step{α:Type}{one:cY->α × cY}{n:Nat}{r0:cY}{xs:List α}{k:Nat}{r:cY}(h:pA one n r0 xs (k+1) r)(hb:r.bad=false):pA one n r0 (xs++[(one r).1]) k (one r).2:=
 ⟨by rw[h.eq,bZi one hb];simp,by have:=h.le;rw[zza,yya];omega⟩
def pA.stop{α:Type}{one:cY->α × cY}{n:Nat}{r0:cY}{xs:List α}{k:Nat}{r:cY}(h:pA one n r0 xs k r)(hb:k=0\/r.bad=true):iV one n r0=(xs,r):=by
 rw[h.eq,bZj one hb,zz1]
def cwp(rp:Nat)(r:cY):SP 273 [Δ rp] [.ob (fm rp r)] (cE (agg (jF (nV r).1)) [.ob (fm rp (nV r).2)]):=by
 refine Enzz λW F w hS=>?_;apply cIf;delta N1 ai cQ;refine Gm λb w hS=>?_;refine Cg (zP rp r) λw hS=>?_;refine Cg (zy rp (fz r).2 8) λw hS=>?_;refine Cg (zP rp _) λw hS=>?_;refine Cg (y9 rp _) λw hS=>?_;refine Cg (yF rp _) λw hS=>?_;simp only[nV];exact cC hS
def QN(rp:Nat)(r:cY):SP 274 [Δ rp] [.ob (fm rp r)] (cE (agg (kO (ph r).1)) [.ob (fm rp (ph r).2)]):=by
 refine Enzz λW F w hS=>?_;apply cIg;delta N2 ai;refine Gm λb w hS=>?_;refine Cg (zy rp r 2) λw hS=>?_;refine Cg (zy rp _ 64) λw hS=>?_;refine Cg (zy rp _ 8) λw hS=>?_;refine Cg (zy rp _ 8) λw hS=>?_;refine Cg (zP rp _) λw hS=>?_;refine Cg (zP rp _) λw hS=>?_;refine Cg (y9 rp _) λw hS=>?_;simp only[ph];exact cC hS
def wm(X:Μ)(H:bw)(b:Φ)(u:Ε)(post:Β):Prop:=match nH b with
 | .error e=>e≠0/\∃H',H.le H'/\u= .tuple #[agg (eP ⟨0,Θ,Θ⟩),Γ e]/\post=[X,.mem H']
 | .ok t=>∃x H',H.le H'/\u= .tuple #[agg (eP x),Γ 0]/\ie H' x t/\post=[X,.mem H']
def a_3{b:Φ}{e:Int}(h:jD b= .error e):nH b= .error e:=by unfold nH;rw[h]
def a_5{b:Φ}{l:List dE}(h:jD b= .ok l)(h2:¬((nS ⟨l,false⟩).2.bad=false/\(nS ⟨l,false⟩).2.l=[]/\eC (nS ⟨l,false⟩).1=true)):nH b= .error 3:=by
 unfold nH AB;rw[h];simp only;rw[zzb h2]
def a_4{b:Φ}{l:List dE}(h:jD b= .ok l)(h2:(nS ⟨l,false⟩).2.bad=false/\(nS ⟨l,false⟩).2.l=[]/\eC (nS ⟨l,false⟩).1=true):nH b= .ok (nS ⟨l,false⟩).1:=by
 unfold nH AB;rw[h];simp only;rw[zzd h2]
def HR{b:Φ}{e:Int}(h:jD b= .error e):e≠0:=by
 rw[HQ]at h
 split at h
 ·cases h
 rename_i h2;cases h;exact h2
abbrev nC(v:Ε)(l:List gr):Μ:=.ob (bR v 390 5 l.length (l.map jF).flatten)
abbrev nB(v:Ε)(l:List ix):Μ:=.ob (bR v 393 7 l.length (l.map kO).flatten)
structure GU(l:List dE)(aw:Int)(r1:cY):Prop where
 aw:(nS ⟨l,false⟩).1.aw=aw
 ops:(nS ⟨l,false⟩).1.ops=(iV nV (dC 4096 r1).1.toNat (dC 4096 r1).2).1
 iS:∀r2,(iV nV (dC 4096 r1).1.toNat (dC 4096 r1).2).2=r2->(nS ⟨l,false⟩).1.notes=(iV ph (dC 256 r2).1.toNat (dC 256 r2).2).1/\(nS ⟨l,false⟩).2=(iV ph (dC 256 r2).1.toNat (dC 256 r2).2).2
def GU.is(l:List dE):GU l (fz ⟨l,false⟩).1 (fz ⟨l,false⟩).2:=⟨rfl,rfl,λr2 h=>by subst h;exact⟨rfl,rfl⟩⟩
def YK(X:Μ)(H:bw)(v:Ε)(bs:Φ)(hv:dS X v bs):SP 201 [v] [X,.mem H] (wm X H bs):=by
 refine Enzz λW F w hS=>?_;apply cGu;delta M4 aI aR cL ai cQ bI;refine Gb λzb w hS=>?_;refine Cc (yD X v bs hv) ?_;clear hS;rintro r post hq w hS;unfold wq at hq;cases hd:jD bs with
 | error e=>
  rw[hd]at hq
  obtain⟨rfl,rfl⟩:=hq;have he:=HR hd;(try simp only[app]at hS);refine Gp ?_
  refine za (λ_=>?_) (λh=>absurd he h);refine Gn λw hS=>?_;exact⟨[X,.mem H],by unfold wm;rw[a_3 hd];exact⟨he,H,bw.le_refl H,rfl,rfl⟩,aW hS⟩
 | ok l=>
  rw[hd]at hq
  obtain⟨lv,rfl,rfl⟩:=hq;(try simp only[app]at hS);refine Gp ?_
  refine za (λh=>absurd rfl h) (λ_=>?_);refine Cc (Za lv l) ?_;clear hS;rintro _ post ⟨rp,rfl,rfl⟩ w hS;try simp only[app]at hS
  refine Cc (zP rp ⟨l,false⟩) ?_;clear hS;rintro v1 post ⟨rfl,rfl⟩ w hS;try simp only[app]at hS
  have hI:=GU.is l;generalize (fz ⟨l,false⟩).1=aw at *
  generalize (fz ⟨l,false⟩).2=r1 at *
  have nf:=BM (m:=4096) (by decide) r1;refine Gp ?_;refine Gb λxb w hS=>?_;have hS:SL W (nC Θ []::_) _:=bR.nil hS;have hS:SL W (nB Θ []::_) _:=bR.nil hS;refine⟨λus w=>us=[]/\∃ov,SL W (nC ov (iV nV (dC 4096 r1).1.toNat (dC 4096 r1).2).1::.ob (fm rp (iV nV (dC 4096 r1).1.toNat (dC 4096 r1).2).2)::nB Θ []::.pt xb [Γ aw,ov,Θ] 214::.pt zb [Γ 0,Θ,Θ] 214::X::.mem H::F) w,?_,?_⟩
  ·refine Cc (zy rp r1 4096) ?_;clear hS;rintro v1 post ⟨rfl,rfl⟩ w hS;try simp only[app]at hS
   generalize (dC 4096 r1).1=n1 at *
   generalize (dC 4096 r1).2=r2 at *
   refine⟨λus w=>∃(k:Nat) (ops:List gr) (r:cY) (ov:Ε),us=[Γ k]/\pA nV n1.toNat r2 ops k r/\SL W (nC ov ops::.ob (fm rp r)::nB Θ []::.pt xb [Γ aw,ov,Θ] 214::.pt zb [Γ 0,Θ,Θ] 214::X::.mem H::F) w,
    λus _=>match us with|[.int _ i]=>i.toNat|_=>0,⟨n1.toNat,[],r2,Θ,by rw[show ((n1.toNat:Nat):Int)=n1 by omega],pA.start _ _ _,aW hS⟩,?_⟩
   clear hS;rintro v8 w ⟨k,ops,r,ov,cP,hM,hS⟩;cases cP;have hle:=hM.le;refine bZ (λh=>?_) (λh=>?_)
   ·refine Cg (y7 rp r) λw hS=>?_;refine zt (λhb=>?_) (λhb=>?_)
    ·obtain⟨k,rfl⟩:∃j,k=j+1:=⟨k-1,by omega⟩;have hM:=hM.step hb;refine Gn λw hS=>?_;refine Cg (cwp rp r) λw hS=>?_;refine Gm λb w hS=>?_;refine yx (n:=ops.length) (xs:=ops) (y:=(nV r).1) (enc:=jF) hS Xr Xh wV (λx=>Cv x) rfl (by omega) (by omega) λu w hS=>?_;have h1:=bR.one hS;refine Gn λw hS=>?_;refine⟨⟨k,_,_,u,by rw[show ((k+1:Nat):Int)-1=(k:Int) by omega],hM,?_⟩,by dsimp only;omega⟩;have hS:=hS.p8 (x:=(nV r).1);exact aW hS
    refine⟨rfl,ov,?_⟩;rw[hM.stop (.inr hb)];exact aW hS
   refine⟨rfl,ov,?_⟩;rw[hM.stop (.inl (by omega))];exact aW hS
  clear hS;rintro w ⟨_,ov,hS⟩;have dV:=hI.ops;obtain⟨bV3,dJ⟩:=hI.iS _ rfl;generalize (iV nV (dC 4096 r1).1.toNat (dC 4096 r1).2).1=ops at *
  generalize (iV nV (dC 4096 r1).1.toNat (dC 4096 r1).2).2=r3 at *
  have xF:=BM (m:=256) (by decide) r3;refine⟨λus w=>us=[]/\∃nv,SL W (nB nv (iV ph (dC 256 r3).1.toNat (dC 256 r3).2).1::.ob (fm rp (iV ph (dC 256 r3).1.toNat (dC 256 r3).2).2)::nC ov ops::.pt xb [Γ aw,ov,nv] 214::.pt zb [Γ 0,Θ,Θ] 214::X::.mem H::F) w,?_,?_⟩
  ·refine Cc (zy rp r3 256) ?_;clear hS;rintro v1 post ⟨rfl,rfl⟩ w hS;try simp only[app]at hS
   generalize (dC 256 r3).1=n1 at *
   generalize (dC 256 r3).2=r2 at *
   refine⟨λus w=>∃(k:Nat) (iS:List ix) (r:cY) (nv:Ε),us=[Γ k]/\pA ph n1.toNat r2 iS k r/\SL W (nB nv iS::.ob (fm rp r)::nC ov ops::.pt xb [Γ aw,ov,nv] 214::.pt zb [Γ 0,Θ,Θ] 214::X::.mem H::F) w,
    λus _=>match us with|[.int _ i]=>i.toNat|_=>0,⟨n1.toNat,[],r2,Θ,by rw[show ((n1.toNat:Nat):Int)=n1 by omega],pA.start _ _ _,aW hS⟩,?_⟩
   clear hS;rintro v8 w ⟨k,iS,r,nv,cP,hM,hS⟩;cases cP;have hle:=hM.le;refine bZ (λh=>?_) (λh=>?_)
   ·refine Cg (y7 rp r) λw hS=>?_;refine zt (λhb=>?_) (λhb=>?_)
    ·obtain⟨k,rfl⟩:∃j,k=j+1:=⟨k-1,by omega⟩;have hM:=hM.step hb;refine Gn λw hS=>?_;refine Cg (QN rp r) λw hS=>?_;refine Gm λb w hS=>?_;refine yx (n:=iS.length) (xs:=iS) (y:=(ph r).1) (enc:=kO) hS Xr Xh wU HY rfl (by omega) (by omega) λu w hS=>?_;have h1:=bR.one hS;refine Gn λw hS=>?_;refine⟨⟨k,_,_,u,by rw[show ((k+1:Nat):Int)-1=(k:Int) by omega],hM,?_⟩,by dsimp only;omega⟩;have hS:=hS.p8 (x:=(ph r).1);exact aW hS
    refine⟨rfl,nv,?_⟩;rw[hM.stop (.inr hb)];exact aW hS
   refine⟨rfl,nv,?_⟩;rw[hM.stop (.inl (by omega))];exact aW hS
  clear hS;rintro w ⟨_,nv,hS⟩;rw[<- bV3,<- dJ,<- dV]at hS
  have kB:=hI.aw;generalize ht:(nS ⟨l,false⟩).1=t at *
  generalize hr:(nS ⟨l,false⟩).2=r at *
  obtain⟨H1,dj,hO,hS⟩:=bR.freeze (SL.b_ hS (t:=.mem H::nC ov t.ops::nB nv t.notes::.ob (fm rp r)::.pt xb [Γ aw,ov,nv] 214::.pt zb [Γ 0,Θ,Θ] 214::X::F) Xi);obtain⟨H2,dU,hN,hS⟩:=bR.freeze hS;have hx:ie H2 ⟨aw,ov,nv⟩ t:=⟨kB.symm,hO.mono dU,hN⟩;have e_:=bw.le_trans dj dU;refine Cg (y6 rp r) λw hS=>?_;have fu:¬(r.bad=false/\r.l=[]/\eC t=true)->∀{w:Ζ},SL W (X::.mem H2::F) w->∃post,wm X H bs (.tuple #[agg (eP ⟨0,Θ,Θ⟩),Γ 3]) post/\SL W (app post F) w:=λh w hS=>⟨[X,.mem H2],by unfold wm;rw[a_5 hd (by rw[ht,hr];exact h)];exact⟨by decide,H2,e_,rfl,rfl⟩,hS⟩;refine zt (λhb=>?_) (λhb=>?_)
  ·have hb:=yy0 hb;refine Gn λw hS=>?_;exact fu (λh=>hb ⟨h.1,h.2.1⟩) (aW hS)
  have hb:=zzp hb;refine Gp ?_;refine Cg (zZ H2 ⟨aw,ov,nv⟩ t hx) λw hS=>?_;refine zt (λhm=>?_) (λhm=>?_)
  ·refine Gn λw hS=>?_;exact fu (λh=>by rw[h.2.2]at hm;cases hm) (aW hS)
  have h1:=mD hx;refine zA hS Xh rfl ?_;refine zr hS Xu rfl rfl h1 λw hS=>?_;refine Gp ?_;exact⟨[X,.mem H2],by unfold wm;rw[a_4 hd (by rw[ht,hr];exact⟨hb.1,hb.2,hm⟩),ht];exact⟨⟨aw,ov,nv⟩,H2,e_,rfl,hx,rfl⟩,aW hS⟩
def jz(x:Nat × List Cell):zB:=jK λm:List (Int × Cell)=>zG (lY m x.2) [.ob (eE KI pF x.1 m)]
def jz.iff{W w:Ζ}{x:Nat × List Cell}{l:Β}:SL W (.ob (jz x)::l) w↔∃m,lY m x.2/\SL W (.ob (eE KI pF x.1 m)::l) w:=by
 unfold jz;simp only[SL.ex,SL.fact,zzv,zzr]
abbrev kF(b:Nat):Ε:=.map (some b)
def gu(r:Nat)(ts:List (List Cell)):zB:=jK λx:Nat × Nat × Ξ × Α=>zG (x.2.2.2.length=ts.length/\ts.length<=8/\sO ts)
 [.pt r [.slice (some ⟨x.1,0,none⟩) ts.length x.2.1] 148,.pt x.1 (x.2.2.2.map kF++x.2.2.1) 153,.ob (ze jz (x.2.2.2.zip ts))]
def gu.iff{W w:Ζ}{r:Nat}{ts:List (List Cell)}{l:Β}:SL W (.ob (gu r ts)::l) w↔∃(bv cap:Nat) (rest:Ξ) (bs:Α),(bs.length=ts.length/\ts.length<=8/\sO ts) /\
  SL W (.pt r [.slice (some ⟨bv,0,none⟩) ts.length cap] 148::.pt bv (bs.map kF++rest) 153::.ob (ze jz (bs.zip ts))::l) w:=by
 unfold gu;simp only[SL.ex,SL.fact,zzv,zzr];constructor
 ·rintro ⟨⟨bv,cap,rest,bs⟩,h1,h2⟩;exact⟨bv,cap,rest,bs,h1,h2⟩
 rintro ⟨bv,cap,rest,bs,h1,h2⟩;exact⟨⟨bv,cap,rest,bs⟩,h1,h2⟩
def X8:∀(bs:Α) (ts:List (List Cell)) (t:Nat) (b:Nat) (C:List Cell),bs[t]?=some b->(bs.zip ts).set t (b,C)=bs.zip (ts.set t C)
 | [],ts,t,b,C,h=>by simp at h
 | x::bs,[],t,b,C,h=>by simp
 | x::bs,y::ts,0,b,C,h=>by simp at h;subst h;simp
 | x::bs,y::ts,t+1,b,C,h=>by simp;exact X8 bs ts t b C (by simpa using h)
def Ap.open{W w:Ζ}{bs:Α}{ts:List (List Cell)}{l:Β}{t:Nat}(ht:t<ts.length)(hb:t<bs.length)(h:SL W (.ob (ze jz (bs.zip ts))::l) w):
  ∃m,lY m ts[t]/\SL W (.ob (eE KI pF bs[t] m)::.ob (ze jz ((bs.zip ts).eraseIdx t))::l) w:=
 jz.iff.1 (ze.take h (x:=(bs[t],ts[t])) (by simp[List.getElem?_zip_eq_some,hb,ht]))
def Ap.close{W w:Ζ}{bs:Α}{ts:List (List Cell)}{l:Β}{t:Nat}{C:List Cell}{m:List (Int × Cell)}(ht:t<ts.length)(hb:t<bs.length)(hm:lY m C)
  (h:SL W (.ob (eE KI pF bs[t] m)::.ob (ze jz ((bs.zip ts).eraseIdx t))::l) w):SL W (.ob (ze jz (bs.zip (ts.set t C)))::l) w:=by
 have h1:SL W (.ob (jz (bs[t],C))::.ob (ze jz ((bs.zip ts).eraseIdx t))::l) w:=jz.iff.2 ⟨m,hm,h⟩;have h2:=ze.put h1 (by simp;omega)
 rwa [X8 bs ts t bs[t] C (by simp[hb])]at h2
def qw(a:Option Addr)(n cap:Nat)(t:Int):SP 81 [.slice a n cap,Γ t] [] (cE (.bool (decide (0<=t/\t<n))) []):=by
 refine Enzz λW F w hS=>?_;apply cLs;delta PU aI bY ai;refine bZ (λh=>?_) (λh=>?_)
 ·refine Gp ?_;have:(decide (t<(n:Int)))=decide (0<=t/\t<n):=by simp[h]
  rw[this];(exact cC hS)
 have:(decide (0<=t/\t<(n:Int)))=false:=by simp;omega
 rw[this];(exact cC hS)
def Qy(bv cap:Nat)(rest:Ξ)(bs:Α)(ts:List (List Cell))(o:gr)(hb:bs.length=ts.length):
  SP 329 [.slice (some ⟨bv,0,none⟩) ts.length cap,agg (jF o)] [.pt bv (bs.map kF++rest) 153,.ob (ze jz (bs.zip ts))]
   (cE (.bool (lS ts o).2) [.pt bv (bs.map kF++rest) 153,.ob (ze jz (bs.zip (lS ts o).1))]):=by
 refine Enzz λW F w hS=>?_;apply cJq;delta OM aI a_ aR cL bY ai cQ;obtain⟨aw,table,key,gone,val⟩:=o;refine⟨_,rfl,zC hS ?_⟩;clear hS;intro p w hS;simp only[jF]at hS;refine Gp ?_;refine Cg (qw (some ⟨bv,0,none⟩) ts.length cap table) λw hS=>?_;refine zt (λhe=>?_) (λhe=>?_)
 ·have hp:lS ts ⟨aw,table,key,gone,val⟩=(ts,false):=by
   simp only[xxc]at he;unfold lS;by_cases h0:table<0
   ·simp[h0]
   have:ts[table.toNat]?=none:=yys (by omega);simp[h0,this]
  rw[hp];(exact cC hS)
 have mc:=zzp he;obtain⟨t,rfl⟩:∃t:Nat,table=t:=⟨table.toNat,by omega⟩;have ht:t<ts.length:=by omega
 have tJ:t<bs.length:=by omega
 have xp:(bs.map kF++rest)[0+t*1]?=some (kF bs[t]):=by simp[zzs,tJ]
 obtain⟨m,hm,hS⟩:=Ap.open ht tJ (SL.b_ hS (t:=.ob (ze jz (bs.zip ts))::.pt p [Γ aw,Γ t,Γ key,.bool gone,.string val] 390::.pt bv (bs.map kF++rest) 153::F) Xi);refine⟨λvs w=>vs=[]/\(∀c,rl ts[t] key=some c->¬aw<c.aw)/\SL W (.ob (eE KI pF bs[t] m)::.ob (ze jz ((bs.zip ts).eraseIdx t))::.pt p [Γ aw,Γ t,Γ key,.bool gone,.string val] 390::.pt bv (bs.map kF++rest) 153::F) w,?_,?_⟩
 ·refine yz hS ?_;clear hS;intro w hS;refine Gp ?_;refine zF ht (zV hS Xh xp ?_);refine Gp ?_;refine Y2 (z:=agg (kA ⟨0,0,false,⟨#[]⟩⟩)) hS Xh (pg .i64) vvr yy4 uus ?_;rw[hm.get];cases hg:rl ts[t] key with
  | none=>
   simp only[vvt,ww8,uu6];refine Gm λb w hS=>?_;refine zV hS Xh xp (Y3 ?_);refine Gp ?_;refine Y2 (z:=agg (kA ⟨0,0,false,⟨#[]⟩⟩)) hS Xh (pg .i64) vvr yy4 uus ?_;rw[hm.get,hg];simp only[vvt,ww8,uu6];refine⟨trivial,?_⟩;simp only[kA];refine Gn λw hS=>?_;exact⟨by simp,λc hc=>(by cases hc),(by exact aW hS)⟩
  | some c=>
   simp only[yyh,xxi,uu7];refine Gm λb w hS=>?_;refine zV hS Xh xp (Y3 ?_);refine Gp ?_;refine Y2 (z:=agg (kA ⟨0,0,false,⟨#[]⟩⟩)) hS Xh (pg .i64) vvr yy4 uus ?_;rw[hm.get,hg];simp only[yyh,xxi,uu7];refine⟨trivial,?_⟩;simp only[pF,kA];refine Gn λw hS=>?_;refine za (λhl=>?_) (λhl=>?_)
   ·have hp:rN ts[t] ⟨aw,t,key,gone,val⟩=(ts[t],false):=by unfold rN;simp only[hg,hl,wwj]
    rw[Ws (t:=t) rfl ht,hp];have hS:=Ap.close (l:=.pt bv (bs.map kF++rest) 153::F) ht tJ hm (by exact aW hS);(exact cC hS)
   exact⟨by simp,λc' hc=>(by cases hc;exact hl),(by exact aW hS)⟩
 clear hS;rintro w ⟨-,tD,hS⟩;have hp:rN ts[t] ⟨aw,t,key,gone,val⟩=(mi ts[t] (cellOf ⟨aw,t,key,gone,val⟩),true):=by
  unfold rN;cases hg:rl ts[t] key with
  | none=>simp only
  | some c=>simp only[tD c hg,wwb]
 rw[Ws (t:=t) rfl ht,hp];refine Gm λb w hS=>?_;refine⟨λvs w=>vs=[]/\SL W (.pt b (kA (cellOf ⟨aw,t,key,gone,val⟩)) 93::.ob (eE KI pF bs[t] m)::.ob (ze jz ((bs.zip ts).eraseIdx t))::.pt p [Γ aw,Γ t,Γ key,.bool gone,.string val] 390::.pt bv (bs.map kF++rest) 153::F) w,?_,?_⟩
 ·refine Gp ?_;cases gone with
  | true=>
   refine zq ?_;refine Gn λw hS=>?_;simp only[cellOf,kA,wwj];exact aW hS
  | false=>
   refine zp ?_;refine⟨rfl,?_⟩;simp only[cellOf,kA,xxe,wwb];exact aW hS
 clear hS;rintro w ⟨-,hS⟩;refine yz hS ?_;clear hS;intro w hS;refine Gp ?_;refine zF ht (zV hS Xh xp ?_);refine Gp ?_;refine qR (val:=pF) hS Xu (pg .i64) vvr yy4 ?_;clear hS;intro u w hS;have uF:lY (gI m key (cellOf ⟨aw,t,key,gone,val⟩)) (mi ts[t] (cellOf ⟨aw,t,key,gone,val⟩)):=hm.put (cellOf ⟨aw,t,key,gone,val⟩);have hS:=Ap.close (l:=.pt bv (bs.map kF++rest) 153::F) ht tJ uF (by exact aW hS);(exact cC hS)
def bI6(n:Int)(h:n<1\/8<n):SP 141 [Γ n] [] (cE (.tuple #[.pointer none,Γ 1]) []):=by
 refine Enzz λW F w hS=>?_;apply XQ;delta G5 aI bU cV ai cT bI;refine bZ (λh1=>?_) (λh1=>?_)
 ·(exact cC hS)
 refine Gp ?_;refine za (λh2=>?_) (λh2=>by omega);(exact cC hS)
def bI7(n:Nat)(h1:1<=n)(h2:n<=8):SP 141 [Γ n] [] (λv post=>∃r:Nat,v= .tuple #[Δ r,Γ 0]/\post=[.ob (gu r (List.replicate n []))]):=by
 refine Enzz λW F w hS=>?_;apply XQ;delta G5 aI bU cV ai cT bI;refine Gp ?_;refine za (λh=>by omega) (λ_=>?_);refine Gp ?_;refine za (λh=>by omega) (λ_=>?_);refine Gp ?_;refine⟨_,rfl,zC hS ?_⟩;clear hS;intro r w hS;have hS:=bR.nil (t:=153) (sz:=1) hS;have hS:=ze.nil (A:=jz) hS;refine⟨λvs w=>∃(k:Nat) (v:Ε) (bs:Α),vs=[Γ k]/\k<=n/\bs.length=k/\SL W (.ob (ze jz (bs.zip (List.replicate k [])))::.ob (bR v 153 1 k (bs.map kF))::.pt r [v] 148::F) w,λvs _=>match vs with|[.int _ k]=>(n-k).toNat|_=>0,⟨0,_,[],rfl,by omega,rfl,hS⟩,?_⟩;clear hS;rintro KY w ⟨k,v,bs,eU,hk,Fh,hS⟩;cases eU;refine bZ (λh=>?_) (λh=>?_)
 ·refine Gp ?_;refine cAk (key:=KI) (val:=pF) (p:=λb w'=>zn (cK [.map none] 1) [(0,1,(.map (some b)))] 153 1 w' _) hS ?_;clear hS;intro b w hS;have hS:SL W (.ob (jz (b,[]))::_) w:=jz.iff.2 ⟨[],lY.nil,hS⟩;refine zN (cells:=[kF b]) hS (by simp[iz,cK,Value.cells]) ?_;clear hS;intro b2 w hS;refine zI (n:=k) (m:=1) (cells:=bs.map kF) hS Xr (kf (cs:=[kF b]) hS .hd rfl) rfl rfl (by simp[Value.oneCell']) (by omega) (by omega) ?_;clear hS;intro v' w hS;have h1:=bR.one hS;have hS:=ze.snoc (A:=jz) (x:=(b,[])) (xs:=bs.zip (List.replicate k [])) (l:=.ob (bR v' 153 1 (k+1) (bs.map kF++[kF b]))::.pt r [v] 148::F) (by exact aW hS);refine Gn λw hS=>?_;refine⟨⟨k+1,v',bs++[b],rfl,(by omega),(by simp[Fh]),?_⟩,(by dsimp only;omega)⟩;have e:(bs++[b]).zip (List.replicate (k+1) ([]:List Cell))=bs.zip (List.replicate k [])++[(b,[])]:=by
   rw[List.replicate_succ',List.zip_append (by simp[Fh])];rfl
  rw[e,zzt,zzo,yy7];exact aW hS
 obtain rfl:k=n:=by omega
 rcases bR.open (Has.front hS Xr) with ⟨_,h0,_⟩|⟨bv,cap,rest,rfl,hc,hl,hr,hS⟩
 ·omega
 have hS:SL W (.ob (gu r (List.replicate k []))::F) w:=gu.iff.2 ⟨bv,cap,rest,bs,⟨by simp[Fh],by simpa using h2,λC hC=>by
  obtain⟨_,rfl⟩:=uug.1 hC;exact⟨List.Pairwise.nil,by simp⟩⟩,by rw[xxm];exact aW hS⟩
 exact⟨_,⟨r,rfl,rfl⟩,hS⟩
def qL(r:Nat)(ts:List (List Cell)):SP 276 [Δ r] [.ob (gu r ts)] (cE (Γ ts.length) [.ob (gu r ts)]):=by
 refine Enzz λW F w hS=>?_;apply cIi;delta N4 bU;obtain⟨bv,cap,rest,bs,hA,hS⟩:=gu.iff.1 hS;refine Gp ?_;have hS:=gu.iff.2 ⟨bv,cap,rest,bs,hA,hS⟩;(exact cC hS)
def bRe(H:bw)(r:Nat)(ts:List (List Cell))(v:Ε)(ops:List gr)(hv:dq H 5 v ops.length (ops.map jF).flatten)(hn:ops.length<=1000000)(hk:∀o∈ops,lr o.key):
  SP 278 [Δ r,v] [.mem H,.ob (gu r ts)] (cE (Γ ((fA ts ops).2:Nat)) [.mem H,.ob (gu r (fA ts ops).1)]):=by
 refine Enzz λW F w hS=>?_;apply cIk;delta N6 aI bU ai cQ;refine zo hv ?_;refine⟨λvs w=>∃k:Nat,vs=[Γ ((fA ts (ops.take k)).2:Nat),Γ k]/\k<=ops.length/\SL W (.mem H::.ob (gu r (fA ts (ops.take k)).1)::F) w,λvs _=>match vs with|[_,.int _ k]=>(ops.length-k).toNat|_=>0,⟨0,rfl,by omega,hS⟩,?_⟩;clear hS;rintro v5 v10 w ⟨k,eU,nN,hS⟩;cases eU;refine bZ (λh=>?_) (λh=>?_)
 ·have fW:k<ops.length:=by omega
  have hx:ops[k]?=some ops[k]:=by simp[fW]
  refine zD hS Xh bFh hv hx fW ?_;obtain⟨bv,cap,rest,bs,hA,hS⟩:=gu.iff.1 (SL.b_ hS (t:=.ob (gu r (fA ts (ops.take k)).1)::.mem H::F) Xi);refine zC hS ?_;clear hS;intro p w hS;refine zr (vs:=jF ops[k]) hS Xu rfl rfl (Cv _) ?_;clear hS;intro w hS;refine Gn λw hS=>?_;refine Cc (Qy bv cap rest bs (fA ts (ops.take k)).1 ops[k] hA.1) ?_;clear hS;rintro v post ⟨rfl,rfl⟩ w hS;try simp only[app]at hS
  have xJ:fA ts (ops.take (k+1))=((lS (fA ts (ops.take k)).1 ops[k]).1,(fA ts (ops.take k)).2+if (lS (fA ts (ops.take k)).1 ops[k]).2 then 1 else 0):=by
   rw[zze fW,cwu];simp[fA]
  have hle:(fA ts (ops.take k)).2<=k:=yy2 (cwv _ _) (by simp;omega);have hS:=gu.iff.2 ⟨bv,cap,rest,bs,⟨by rw[Gj];exact hA.1,by rw[Gj];exact hA.2.1,V2 hA.2.2 (hk _ (zzh fW))⟩,(by rw[Gj];exact SL.b_ hS (t:=.pt r [.slice (some ⟨bv,0,none⟩) (fA ts (ops.take k)).1.length cap] 148::.pt bv (bs.map kF++rest) 153::.ob (ze jz (bs.zip (lS (fA ts (ops.take k)).1 ops[k]).1))::.mem H::F) Xi)⟩;cases o8:(lS (fA ts (ops.take k)).1 ops[k]).2 with
  | true=>
   refine zq ?_;refine Gp ?_;refine⟨⟨k+1,(by rw[xJ,o8];simp),(by omega),(by rw[xJ];exact aW hS)⟩,(by dsimp only;omega)⟩
  | false=>
   refine zp ?_;refine Gp ?_;refine⟨⟨k+1,(by rw[xJ,o8];simp),(by omega),(by rw[xJ];exact aW hS)⟩,(by dsimp only;omega)⟩
 obtain rfl:k=ops.length:=by omega
 rw[zz4]at hS ⊢
 (exact cC hS)
def qv(r:Nat)(ts:List (List Cell))(t:Int)(hs:small ts 0):SP 30 [Δ r,Γ t] [.ob (gu r ts)]
  (λv post=>post=[.ob (gu r ts),.ob (bR v 93 4 (rh ts t).length ((rh ts t).map kA).flatten)]):=by
 refine Enzz λW F w hS=>?_;apply cI6;delta Ou aI bU cL ai cQ bI;obtain⟨bv,cap,rest,bs,hA,hS⟩:=gu.iff.1 hS;refine Gp ?_;refine Cg (qw (some ⟨bv,0,none⟩) ts.length cap t) λw hS=>?_;refine zt (λhe=>?_) (λhe=>?_)
 ·have hc:rh ts t=[]:=by
   have mc:=yy0 he;unfold rh;split
   ·rw[yys (by omega)];rfl
   rfl
  rw[hc];have hS:=gu.iff.2 ⟨bv,cap,rest,bs,hA,hS⟩;exact⟨_,rfl,(bR.nil hS).perm (.swap _ _ _)⟩
 have mc:=zzp he;obtain⟨t,rfl⟩:∃u:Nat,t=u:=⟨t.toNat,by omega⟩;have ht:t<ts.length:=by omega
 have tJ:t<bs.length:=by omega
 have xp:(bs.map kF++rest)[0+t*1]?=some (kF bs[t]):=by simp[zzs,tJ]
 have hc:rh ts t=ts[t]:=by unfold rh;simp[ht]
 rw[hc];have cH:=hA.2.2 ts[t] (zzh ht);have hsm:=hs ts[t] (zzh ht);refine Gp ?_;refine zF ht (zV hS Xh xp ?_);obtain⟨m,hm,hS⟩:=Ap.open ht tJ (SL.b_ hS (t:=.ob (ze jz (bs.zip ts))::.pt r [.slice (some ⟨bv,0,none⟩) ts.length cap] 148::.pt bv (bs.map kF++rest) 153::F) Xi);have mg:=hm.len cH.1;refine cAf (val:=pF) hS .hd (by omega) (hm.wf cH) ?_;clear hS;intro v w hS;rw[hm.p7 cH.1,mg]at hS
 refine zu hS .hd ?_;refine⟨λvs w=>∃(k:Nat) (u:Ε),vs=[u,Γ k]/\k<=ts[t].length/\SL W (.ob (bR u 93 4 k (((ts[t].take k).map kA).flatten))::.ob (bR v 2 1 ts[t].length ((ts[t].map (·.key)).map KI))::.ob (eE KI pF bs[t] m)::.ob (ze jz ((bs.zip ts).eraseIdx t))::.pt r [.slice (some ⟨bv,0,none⟩) ts.length cap] 148::.pt bv (bs.map kF++rest) 153::F) w,λvs _=>match vs with|[_,.int _ k]=>(ts[t].length-k).toNat|_=>0,⟨0,_,rfl,by omega,bR.nil hS⟩,?_⟩;clear hS;rintro v5 v25 w ⟨k,u,eU,hk,hS⟩;cases eU;refine bZ (λh=>?_) (λh=>?_)
 ·have fW:k<ts[t].length:=by omega
  refine yh hS (.tl .hd) fW (u:=KI ts[t][k].key) (by simp[fW]) ?_;refine Gp ?_;refine zF ht (zV hS Xh xp ?_);refine yL (z:=agg (kA ⟨0,0,false,⟨#[]⟩⟩)) hS Xh (pg .i64) vvr yy4 uus ?_;rw[hm.get,SY cH.1 (zzh fW)];refine zN hS (bIf _ _ rfl) ?_;clear hS;intro b w hS;refine zI (n:=k) (m:=1) hS Xr (kf (cs:=kA ts[t][k]) hS .hd rfl) rfl rfl (bFa _) (by omega) (by omega) ?_;clear hS;intro u' w hS;refine Gp ?_;refine⟨⟨k+1,u',rfl,(by omega),(by rw[bIn kA _ k fW];exact aW hS)⟩,(by dsimp only;omega)⟩
 obtain rfl:k=ts[t].length:=by omega
 rw[zz4]at hS
 have hS:=Ap.close (C:=ts[t]) (l:=.ob (bR v5 93 4 ts[t].length ((ts[t].map kA).flatten))::.pt r [.slice (some ⟨bv,0,none⟩) ts.length cap] 148::.pt bv (bs.map kF++rest) 153::F) ht tJ hm (by exact aW hS);rw[uuq]at hS
 have hS:SL W (.ob (gu r ts)::.ob (bR v5 93 4 ts[t].length ((ts[t].map kA).flatten))::F) w:=gu.iff.2 ⟨bv,cap,rest,bs,hA,by exact aW hS⟩;exact⟨_,rfl,hS⟩
def Qz(r:Nat)(ts:List (List Cell))(t:Int)(hs:small ts 0):SP 28 [Δ r,Γ t] [.ob (gu r ts)]
  (λv post=>post=[.ob (gu r ts),.ob (bR v 66 2 (rowsOf (rh ts t)).length ((rowsOf (rh ts t)).map eh).flatten)]):=by
 refine Enzz λW F w hS=>?_;apply cIm;delta N8 aI a_ cL ai cQ bI;refine Cc (qv r ts t hs) ?_;clear hS;rintro v post rfl w hS;try simp only[app]at hS
 have hc:=aWc (t:=t) hs;generalize rh ts t=C at hS hc ⊢;refine zu hS Xh ?_;refine⟨λvs w=>∃(k:Nat) (u:Ε),vs=[u,Γ k]/\k<=C.length/\SL W (.ob (bR u 66 2 (rowsOf (C.take k)).length (((rowsOf (C.take k)).map eh).flatten))::.ob (gu r ts)::.ob (bR v 93 4 C.length ((C.map kA).flatten))::F) w,λvs _=>match vs with|[_,.int _ k]=>(C.length-k).toNat|_=>0,⟨0,_,rfl,by omega,bR.nil hS⟩,?_⟩;clear hS;rintro v5 v12 w ⟨k,u,eU,hk,hS⟩;cases eU;refine bZ (λh=>?_) (λh=>?_)
 ·have fW:k<C.length:=by omega
  have hle:=czq (C.take k);rw[zzg]at hle
  refine zT hS Xh bw9 (x:=C[k]) (by simp[fW]) fW ?_;have hr:=czr C k fW;generalize C[k]=c at hr ⊢;obtain⟨key,aw,gone,val⟩:=c;simp only[kA];refine Gm λb w hS=>?_;cases gone with
  | true=>
   refine zp ?_;refine Gp ?_;refine⟨⟨k+1,v5,rfl,(by omega),(by rw[hr];simp only[wwj];exact aW hS)⟩,(by dsimp only;omega)⟩
  | false=>
   refine zq ?_;refine Gm λb w hS=>?_;refine zI (n:=(rowsOf (C.take k)).length) (m:=1) hS Xr (kf (cs:=eh ⟨key,val⟩) hS .hd rfl) rfl rfl (bFi _) (by omega) (by omega) ?_;clear hS;intro u' w hS;refine Gp ?_;refine⟨⟨k+1,u',rfl,(by omega),(by rw[hr];simp only[xxe,wwb,zza,yya,vt];exact aW hS)⟩,(by dsimp only;omega)⟩
 obtain rfl:k=C.length:=by omega
 rw[zz4]at hS
 exact⟨_,rfl,aW hS⟩
structure dL where
 file:Int
 first:Int
 size:Nat
 es:List nZ
 a:Option Addr
 c:Nat
def dL.lv(x:dL):Ε:=.slice x.a x.es.length x.c
def dL.pl(x:dL):c_:=⟨x.file,x.first,x.size,oR x.es⟩
def fC(x:dL):Ξ:=[Γ x.file,Γ x.first,Γ x.size,x.lv]
def GO(x:dL):(fC x).length=4:=rfl
def Aw(es:List nZ):(oR es).length=es.length:=by simp[oR]
def dO(x:dL):zB:=zG True [.ob (dt x.lv 205 1 x.es.length (gx x.es)),.ob (ze gK x.es)]
def dO.iff{W w:Ζ}{x:dL}{l:Β}:SL W (.ob (dO x)::l) w↔SL W (.ob (dt x.lv 205 1 x.es.length (gx x.es))::.ob (ze gK x.es)::l) w:=by
 unfold dO;simp only[SL.fact,zzv,zzr,uut]
def fg(v:Ε)(t:Option wy):zB:=match t with
 | none=>zG (v= .pointer none) []
 | some x=>jK λb:Nat=>zG (v= Δ b) [.pt b [Γ x.file,Γ x.oz,.bool x.fresh] 454]
def Aq{W w:Ζ}{v:Ε}{l:Β}:SL W (.ob (fg v none)::l) w↔v= .pointer none/\SL W l w:=by
 unfold fg;simp only[SL.fact,zzr]
def Ar{W w:Ζ}{v:Ε}{x:wy}{l:Β}:SL W (.ob (fg v (some x))::l) w↔∃b:Nat,v= Δ b/\SL W (.pt b [Γ x.file,Γ x.oz,.bool x.fresh] 454::l) w:=by
 unfold fg;simp only[SL.ex,SL.fact,zzv,zzr]
def aw3{W w:Ζ}{v:Ε}{t:Option wy}{l:Β}(h:SL W (.ob (fg v t)::l) w):v.oneCell'=true:=by
 cases t with
 | none=>rw[(Aq.1 h).1];rfl
 | some x=>obtain⟨b,rfl,_⟩:=Ar.1 h;rfl
abbrev eM(sv tv:Ε)(dp:Nat)(base size:Int):Ξ:=[sv,Δ dp,Γ base,Γ size,tv]
abbrev eK(sv:Ε)(xs:List dL):Μ:=.ob (dt sv 268 4 xs.length (xs.map fC).flatten)
abbrev Lk(lp dp:Nat)(base size:Int)(t:Option wy)(sv tv:Ε)(xs:List dL):Β:=[.pt lp (eM sv tv dp base size) 186,eK sv xs,.ob (ze dO xs),.ob (fg tv t)]
def dd(lp dp:Nat)(g:cU):zB:=jK λx:Ε × Ε × List dL=>zG (x.2.2.map dL.pl=g.bF) (Lk lp dp g.base g.size g.dx x.1 x.2.1 x.2.2)
def dd.iff{W w:Ζ}{lp dp:Nat}{g:cU}{l:Β}:SL W (.ob (dd lp dp g)::l) w↔∃sv tv xs,xs.map dL.pl=g.bF/\SL W (.pt lp (eM sv tv dp g.base g.size) 186::eK sv xs::.ob (ze dO xs)::.ob (fg tv g.dx)::l) w:=by
 unfold dd Lk;simp only[SL.ex,SL.fact,zzv,zzr];exact⟨λ⟨x,h1,h2⟩=>⟨x.1,x.2.1,x.2.2,h1,h2⟩,λ⟨a,b,c,h1,h2⟩=>⟨(a,b,c),h1,h2⟩⟩
section
variable {W w:Ζ} {l:Β}
def ZQ{v:Ε}{xs:List dL}{j:Nat}{k:IntKind}{K:Ε->Prop}(h:SL W l w)(m:Has (eK v xs) l)(hj:j<xs.length)(hK:K (.agg (fC xs[j]).toArray)):zk 4 v (.int k (j:Int)) λp=>zg 4 p w K:=by
 refine y1 h m hj λb o hb=>⟨⟨b,o,none⟩,fC xs[j],rfl,rfl,λi u hu=>?_,hK⟩;rw[yyd];have hi:i<4:=(zzf.1 hu).1;exact hb i u hi (Ih GO hj hu)
def Y4{v u:Ε}{xs:List dL}{i j:Nat}{k:IntKind}{K:Ε->Prop}(h:SL W l w)(m:Has (eK v xs) l)(hj:j<xs.length)(hu:(fC xs[j])[i]?=some u)(hK:K u):zk 4 v (.int k (j:Int)) λp=>zl i p λq=>cn q w K:=by
 refine y1 h m hj λb o hb=>?_;refine yK ?_;have hi:i<4:=(zzf.1 hu).1;exact⟨_,u,rfl,hb i u hi (Ih GO hj hu),hK⟩
end
def SS(xs:List dL):(xs.map fC).flatten.length=xs.length*4:=by
 induction xs with
 | nil=>rfl
 | cons x xs ih=>simp[ih,GO];omega
def yU(f n s:Int)(a:Option Addr)(k c:Nat)(h : -1000000000000000<=n/\n<=1000000000000000)(hk:k<=1000000000000000):SP 152 [.agg #[Γ f,Γ n,Γ s,.slice a k c]] [] (cE (Γ (n+k)) []):=by
 refine Enzz λW F w hS=>?_;apply cFj;delta Mh a_;refine⟨[Γ f,Γ n,Γ s,.slice a k c],rfl,?_⟩;refine Gm λb w hS=>?_;(exact cC hS)
def y5(x:dL){N:Nat}(h:kY x.pl N)(hN:N<=1000000000000000):SP 152 [.agg (fC x).toArray] [] (cE (Γ x.pl.next) []):=by
 have h1:=h.n0;have h2:=h.n1;have h3:=h.ln;have e:x.pl.next=x.first+x.es.length:=by simp[c_.next,dL.pl,Aw]
 rw[e];have h3:x.es.length<=N:=by simpa [dL.pl,Aw] using h3
 exact yU x.file x.first x.size x.a x.es.length x.c (by simp only[dL.pl]at h1 h2;omega) (by omega)
def yf(lp:Nat)(cs:Ξ)(t:Ι)(sv:Ε)(xs:List dL)(gz:cs[0]?=some sv){N:Nat}(h:∀s∈xs.map dL.pl,kY s N)(hN:N<=1000000000000000)(hl:xs.length<=1000000000000000):
  SP 101 [Δ lp] [.pt lp cs t,eK sv xs] (cE (Γ (cI (xs.map dL.pl))) [.pt lp cs t,eK sv xs]):=by
 refine Enzz λW F w hS=>?_;apply cEd;delta Lv aI bU ai;refine Gp ?_;refine zV hS .hd gz ?_;refine zJ hS Xh ?_;refine Gp ?_;have hh:=sB h;refine za (λh0=>?_) (λh0=>?_)
 ·have:xs=[]:=zzl (by omega);subst this;(exact cC hS)
 refine Gn λw hS=>?_;refine zV hS .hd gz ?_;refine Gp ?_;refine zV hS .hd gz ?_;refine zJ hS Xh ?_;refine Gp ?_;have e:((xs.length:Nat):Int)-1=((xs.length-1:Nat):Int):=by omega
 rw[e];have hj:xs.length-1<xs.length:=by omega
 refine ZQ hS Xh hj ?_;have hm:(xs[xs.length-1]'hj).pl∈xs.map dL.pl:=zzx.2 ⟨_,zzh hj,rfl⟩;have hg:cI (xs.map dL.pl)=(xs[xs.length-1]'hj).pl.next-1:=by
  unfold cI;rw[uun,xx7,zzc hj];rfl
 have cH:=h _ hm;rw[hg]at hh ⊢
 refine Cg (y5 _ cH hN) λw hS=>?_;exact cC hS
def bZe(lp:Nat)(cs:Ξ)(t:Ι)(sv:Ε)(xs:List dL)(gz:cs[0]?=some sv)(hl:xs.length<=1000000000000000):
  SP 102 [Δ lp] [.pt lp cs t,eK sv xs] (cE (Γ (fj (xs.map dL.pl))) [.pt lp cs t,eK sv xs]):=by
 refine Enzz λW F w hS=>?_;apply cEe;delta Lw aI bU a_ ai;refine Gp ?_;refine zV hS .hd gz ?_;refine zJ hS Xh ?_;refine bZ (λh0=>?_) (λh0=>?_)
 ·have:xs=[]:=zzl (by omega);subst this;(exact cC hS)
 cases xs with
 | nil=>simp at h0
 | cons x xs=>
  refine Gp ?_;refine zV hS .hd gz ?_;refine Y4 (j:=0) (i:=1) hS Xh (by simp) (u:=Γ x.first) rfl ?_;exact⟨_,⟨rfl,rfl⟩,hS⟩
def ze.back{W w:Ζ}{l:Β}{α:Type}{A:α->zB}{xs:List α}{t:Nat}{x:α}(h:SL W (.ob (A x)::.ob (ze A (xs.eraseIdx t))::l) w)(hx:xs[t]?=some x):SL W (.ob (ze A xs)::l) w:=by
 obtain⟨ht,e⟩:=zzf.1 hx;have:=ze.put h ht
 rwa [<- e,uuq]at this
def cMw(x:dL):x.pl.next=x.first+x.es.length:=by simp[c_.next,dL.pl,Aw]
def cx9(xs:List dL)(i:Nat)(n:Int):mN ((xs.drop i).map dL.pl) n=match xs[i]? with
 | none=>none
 | some x=>if x.first<=n/\n<x.pl.next then (oR x.es)[(n-x.first).toNat]? else mN ((xs.drop (i+1)).map dL.pl) n:=by
 cases h:xs[i]? with
 | none=>
  have:xs.drop i=[]:=yy6 (by rw[List.getElem?_eq_none_iff]at h;exact h);rw[this];rfl
 | some x=>
  obtain⟨hi,e⟩:=zzf.1 h;rw[yyq hi,e];rfl
def Eb(pre:Β)(o:Option Φ)(r:Ε)(post:Β):Prop:=match o with
 | none=>r= .tuple #[Θ,Γ 5]/\post=pre
 | some b=>∃u,r= .tuple #[u,Γ 0]/\post= .ob (bR u 5 1 b.length (b.map cX))::pre
def QP(lp:Nat)(cs:Ξ)(t:Ι)(sv:Ε)(xs:List dL)(n:Int)(gz:cs[0]?=some sv){N:Nat}(h:∀s∈xs.map dL.pl,kY s N)(hN:N<=1000000000000000)(hl:xs.length<=1000000000000000)(hn : -9000000000000000000<=n/\n<=9000000000000000000):
  SP 136 [Δ lp,Γ n] [.pt lp cs t,eK sv xs,.ob (ze dO xs)] (Eb [.pt lp cs t,eK sv xs,.ob (ze dO xs)] (mN (xs.map dL.pl) n)):=by
 refine Enzz λW F w hS=>?_;apply cE2;delta LW aI bU a_ ai bI;refine Gp ?_;refine zV hS .hd gz ?_;refine zJ hS Xh ?_;refine⟨λvs w=>∃i:Nat,i<=xs.length/\vs=[Γ i]/\mN (xs.map dL.pl) n=mN ((xs.drop i).map dL.pl) n/\SL W (.pt lp cs t::eK sv xs::.ob (ze dO xs)::F) w,λvs _=>match vs with
  | [.int _ i]=>xs.length-i.toNat
  | _=>0,⟨0,by omega,rfl,rfl,hS⟩,?_⟩
 clear hS;rintro v1 w1 ⟨i,hi,hv,hr,hS⟩;cases hv;rw[cx9]at hr
 refine bZ (λh0=>?_) (λh0=>?_)
 ·have hj:i<xs.length:=by omega
  have hx:xs[i]?=some xs[i]:=zzc hj;refine ZQ hS Xh hj ?_;have cH:=h _ (zzx.2 ⟨_,zzh hj,rfl⟩);rw[hx]at hr
  simp only at hr;generalize xs[i]=x at *
  have pf:=cMw x;unfold fC dL.lv;refine Gm λb w hS=>?_;refine za (λh1=>?_) (λh1=>?_)
  ·refine Gp ?_;refine Cg (y5 x cH hN) λw hS=>?_;refine za (λh2=>?_) (λh2=>?_)
   ·rw[zzd ⟨h1,h2⟩]at hr
    have Fx:=cH.n0;have hh2:=cH.n1;simp only[dL.pl]at Fx hh2;refine Gp ?_;obtain⟨j,IY⟩:=wwg (show 0<=n-x.first by omega);have gS:j<x.es.length:=by omega
    rw[IY]at hr ⊢
    have hS:=ze.take (SL.b_ hS (t:=.ob (ze dO xs)::.pt lp cs t::eK sv xs::F) Xi) hx;have hS:=dO.iff.1 hS;unfold dL.lv at hS;refine y1 (j:=j) hS .hd gS λb o hb=>?_;have TJ:x.es[j]?=some x.es[j]:=zzc gS;have oC:(gx x.es)[j*1+0]?=some x.es[j].1:=by simp[gx,gS]
    refine⟨_,_,rfl,hb 0 _ (by omega) oC,?_⟩;have hS:=ze.take (SL.b_ hS (t:=.ob (ze gK x.es)::.ob (dt (.slice x.a x.es.length x.c) 205 1 x.es.length (gx x.es))::.ob (ze dO (xs.eraseIdx i))::.pt lp cs t::eK sv xs::F) Xi) TJ;have o9:x.es[j].2.length<=1048576:=cH.bl _ (zzx.2 ⟨_,zzh gS,rfl⟩);have hby:(oR x.es)[((j:Int)).toNat]?=some x.es[j].2:=by simp[oR,gS]
    rw[hby]at hr
    rw[hr];generalize x.es[j]=e at *
    have hR:dS (.ob (gK e)) e.1 e.2:=dS.own;obtain⟨ea,ec,ee,_⟩:=hR.sl hS .hd;have pQ:=hR;rw[ee]at pQ ⊢
    refine Zn (cs:=e.2.map cX) hS (λw' c gE=>pQ.src gE (.tl .hd)) (by simp) (uY _) (by omega) ?_;clear hS;intro u w hS _;have hS:=ze.back (SL.b_ hS (t:=.ob (gK e)::.ob (ze gK (x.es.eraseIdx j))::.ob (dt (.slice x.a x.es.length x.c) 205 1 x.es.length (gx x.es))::.ob (bR u 5 1 e.2.length (e.2.map cX))::.ob (ze dO (xs.eraseIdx i))::.pt lp cs t::eK sv xs::F) Xi) TJ;have hS:=(dO.iff (x:=x)).2 (SL.b_ hS (t:=.ob (dt (.slice x.a x.es.length x.c) 205 1 x.es.length (gx x.es))::.ob (ze gK x.es)::.ob (bR u 5 1 e.2.length (e.2.map cX))::.ob (ze dO (xs.eraseIdx i))::.pt lp cs t::eK sv xs::F) Xi);have hS:=ze.back (SL.b_ hS (t:=.ob (dO x)::.ob (ze dO (xs.eraseIdx i))::.ob (bR u 5 1 e.2.length (e.2.map cX))::.pt lp cs t::eK sv xs::F) Xi) hx;exact⟨.ob (bR u 5 1 e.2.length (e.2.map cX))::[.pt lp cs t,eK sv xs,.ob (ze dO xs)],⟨u,rfl,rfl⟩,aW hS⟩
   rw[zzb (by omega)]at hr
   refine Gp ?_;refine⟨⟨i+1,by omega,rfl,hr,aW hS⟩,?_⟩;simp only[zzy];omega
  rw[zzb (by omega)]at hr
  refine Gp ?_;refine⟨⟨i+1,by omega,rfl,hr,aW hS⟩,?_⟩;simp only[zzy];omega
 have hx:xs[i]?=none:=yys (by omega);rw[hx]at hr
 rw[hr];exact⟨_,⟨rfl,rfl⟩,hS⟩
def bZ5(bF:List c_)(base size:Int)(x:wy)(d:DS):dc ⟨bF,base,size,some x⟩ d =
  ((⟨bF,base,size,if (if x.fresh=true then d.remove x.file else d.cut x.file x.oz).2=0 then none else some x⟩,(if x.fresh=true then d.remove x.file else d.cut x.file x.oz).1),(if x.fresh=true then d.remove x.file else d.cut x.file x.oz).2):=rfl
def QF(lp dp:Nat)(g:cU)(d:DS)(N:Nat)(cH:d.Ok N)(hN:N<=140737488355328)(dV:d.ops<=100000):
  SP 286 [Δ lp] [.ob (dd lp dp g),.ob (bX dp d)] (cE (Γ (dc g d).2) [.ob (dd lp dp (dc g d).1.1),.ob (bX dp (dc g d).1.2)]):=by
 refine Enzz λW F w hS=>?_;apply cIt;delta Od aI bU cV ai cT;obtain⟨sv,tv,xs,hx,hS⟩:=dd.iff.1 hS;obtain⟨bF,base,size,dx⟩:=g;simp only at hx hS;cases dx with
 | none=>
  rw[show dc ⟨bF,base,size,none⟩ d=((⟨bF,base,size,none⟩,d),0) from rfl];obtain⟨rfl,hS⟩:=Aq.1 (SL.b_ hS (t:=.ob (fg tv none)::.pt lp (eM sv tv dp base size) 186::eK sv xs::.ob (ze dO xs)::.ob (bX dp d)::F) Xi);refine Gp ?_;refine zq ?_;have hS:=(Aq (v:=.pointer none)).2 ⟨rfl,hS⟩;exact⟨_,⟨rfl,rfl⟩,dd.iff.2 ⟨sv,.pointer none,xs,hx,aW hS⟩⟩
 | some x=>
  obtain⟨tb,rfl,hS⟩:=Ar.1 (SL.b_ hS (t:=.ob (fg tv (some x))::.pt lp (eM sv tv dp base size) 186::eK sv xs::.ob (ze dO xs)::.ob (bX dp d)::F) Xi);rw[bZ5];refine Gp ?_;refine zp ?_;refine Gp ?_;refine yT (λhf=>?_) (λhf=>?_)
  ·simp only[zzd hf];refine Gn λw hS=>?_;refine Cg (yO dp d N cH dV x.file) λw hS=>?_;refine za (λh=>?_) (λh=>?_)
   ·rw[zzd h];refine Gn λw hS=>?_;have hS:=(Aq (v:=.pointer none)).2 ⟨rfl,hS⟩;exact⟨_,⟨rfl,rfl⟩,dd.iff.2 ⟨sv,.pointer none,xs,hx,aW hS⟩⟩
   rw[zzb h];have hS:=(Ar (v:=Δ tb) (x:=x)).2 ⟨tb,rfl,SL.b_ hS (t:=.pt tb [Γ x.file,Γ x.oz,.bool x.fresh] 454::.pt lp (eM sv (Δ tb) dp base size) 186::eK sv xs::.ob (ze dO xs)::.ob (bX dp (d.remove x.file).1)::F) Xi⟩;exact⟨_,⟨rfl,rfl⟩,dd.iff.2 ⟨sv,_,xs,hx,aW hS⟩⟩
  have hf:¬x.fresh=true:=by rw[hf];decide
  simp only[zzb hf];refine Gn λw hS=>?_;refine Cg (Zs dp d N cH hN dV x.file x.oz) λw hS=>?_;refine za (λh=>?_) (λh=>?_)
  ·rw[zzd h];refine Gn λw hS=>?_;have hS:=(Aq (v:=.pointer none)).2 ⟨rfl,hS⟩;exact⟨_,⟨rfl,rfl⟩,dd.iff.2 ⟨sv,.pointer none,xs,hx,aW hS⟩⟩
  rw[zzb h];have hS:=(Ar (v:=Δ tb) (x:=x)).2 ⟨tb,rfl,SL.b_ hS (t:=.pt tb [Γ x.file,Γ x.oz,.bool x.fresh] 454::.pt lp (eM sv (Δ tb) dp base size) 186::eK sv xs::.ob (ze dO xs)::.ob (bX dp (d.cut x.file x.oz).1)::F) Xi⟩;exact⟨_,⟨rfl,rfl⟩,dd.iff.2 ⟨sv,_,xs,hx,aW hS⟩⟩
def aij(lp dp:Nat)(g:cU)(d:DS)(X:Μ)(p:Φ)(y:Except Int ig)(r:Ε)(post:Β):Prop:=match y with
 | .error e=>(∃z,r= .tuple #[.agg #[Γ 0,.bool false,Θ],Γ z]/\z=e/\z≠0)/\post=[.ob (dd lp dp g),.ob (bX dp d),X]
 | .ok x=>∃a c,r= .tuple #[.agg #[Γ x.file,.bool x.fresh,.slice a x.b.length c],Γ 0]/\post=[.ob (bR (.slice a x.b.length c) 5 1 x.b.length (x.b.map cX)),.ob (dd lp dp g),.ob (bX dp d),X]
def cU.Ok.xs{g:cU}{N:Nat}(h:g.Ok N){xs:List dL}(hx:xs.map dL.pl=g.bF):(∀s∈xs.map dL.pl,kY s N)/\xs.length<=N/\0<=cI g.bF/\cI g.bF<=1099511627776+N:=by
 refine⟨by rw[hx];exact h.bF,?_,sB h.bF⟩;have:=h.ln;rw[<- hx,zzn]at this;exact this
def QM(X:Μ)(lp dp:Nat)(g:cU)(d:DS)(v:Ε)(p:Φ)(hv:dS X v p)(hp:p.length<=140737488355328){M:Nat}(hg:g.Ok M)(hM:M<=1000000000000000):
  SP 285 [Δ lp,v] [.ob (dd lp dp g),.ob (bX dp d),X] (aij lp dp g d X p (eQ g d.off p)):=by
 refine Enzz λW F w hS=>?_;apply cIs;delta Oc aI bU a_ bV Hi ai bI;obtain⟨sv,tv,xs,hx,hS⟩:=dd.iff.1 hS;obtain⟨cH,hl,hh0,Fx⟩:=hg.xs hx;have tz:=hg.b0;have Ff:=hg.b1;have vQ:=hg.s1;have xN:=hg.s0;have lh:cI (xs.map dL.pl)=cI g.bF:=by rw[hx]
 refine Gm λb w hS=>?_;refine Cc (Z8 X v p hv hp) ?_;clear hS;rintro r post hQ w hS;unfold s4 at hQ;by_cases xm:1048576<p.length
 ·rw[zzd xm]at hQ
  obtain⟨rfl,rfl⟩:=hQ;have dW:eQ g d.off p= .error 1:=by unfold eQ;rw[zzd xm]
  rw[dW];(try simp only[app]at hS);refine Gp ?_
  refine za (λ_=>?_) (λh=>absurd (by decide) h);refine Gn λw hS=>?_;exact⟨_,⟨⟨1,rfl,rfl,by decide⟩,rfl⟩,SL.b_ (dd.iff.2 ⟨sv,tv,xs,hx,SL.b_ hS (t:=.pt lp (eM sv tv dp g.base g.size) 186::eK sv xs::.ob (ze dO xs)::.ob (fg tv g.dx)::.ob (bX dp d)::X::F) Xi⟩) Xi⟩
 rw[zzb xm]at hQ
 obtain⟨u,rfl,rfl⟩:=hQ;try simp only[app]at hS
 have hu:=hS.rL .hd;obtain⟨au,cu,eu,_⟩:=bR.at hS .hd;subst eu;refine Gp ?_;refine za (λh=>absurd rfl h) (λ_=>?_);refine Gp ?_;refine Cg (zM dp d) λw hS=>?_;have gH:∀{w:Ζ} {l:Β},SL W (.pt lp (eM sv tv dp g.base g.size) 186::eK sv xs::.ob (ze dO xs)::.ob (fg tv g.dx)::l) w->SL W (.ob (dd lp dp g)::l) w:=λh=>dd.iff.2 ⟨sv,tv,xs,hx,h⟩;refine yT (λho=>?_) (λho=>?_)
 ·have dW:eQ g d.off p= .error 8:=by unfold eQ;rw[zzb xm,zzd ho]
  rw[dW];refine Gn λw hS=>?_;exact⟨_,⟨⟨8,rfl,rfl,by decide⟩,rfl⟩,SL.b_ (gH (SL.b_ hS (t:=.pt lp (eM sv tv dp g.base g.size) 186::eK sv xs::.ob (ze dO xs)::.ob (fg tv g.dx)::.ob (bX dp d)::X::F) Xi)) Xi⟩
 refine Gp ?_;refine Cg (yf lp (eM sv tv dp g.base g.size) 186 sv xs rfl cH hM (by omega)) λw hS=>?_;rw[lh];refine za (λh1=>?_) (λh1=>?_)
 ·have dW:eQ g d.off p= .error 7:=by unfold eQ;rw[zzb xm,zzb (by rw[ho];decide),zzd h1]
  rw[dW];refine Gn λw hS=>?_;exact⟨_,⟨⟨7,rfl,rfl,by decide⟩,rfl⟩,SL.b_ (gH (SL.b_ hS (t:=.pt lp (eM sv tv dp g.base g.size) 186::eK sv xs::.ob (ze dO xs)::.ob (fg tv g.dx)::.ob (bX dp d)::X::F) Xi)) Xi⟩
 refine Gp ?_;refine⟨λvs w=>∃f:Int,vs=[Γ f]/\eQ g d.off p=mE g f p/\-1000000<=f/\f<=1000000/\SL W (.pt b [Γ 0,.bool false,Θ] 343::.pt lp (eM sv tv dp g.base g.size) 186::eK sv xs::.ob (ze dO xs)::.ob (fg tv g.dx)::.ob (bX dp d)::.ob (bR (.slice au (da p).length cu) 5 1 (da p).length ((da p).map cX))::X::F) w,?_,?_⟩
 ·refine Gp ?_;refine zJ hS Xh ?_;refine bZ (λh2=>?_) (λh2=>?_)
  ·refine Gp ?_;have e:((xs.length:Nat):Int)-1=((xs.length-1:Nat):Int):=by omega
   rw[e];have hj:xs.length-1<xs.length:=by omega
   refine ZQ hS Xh hj ?_;have hm:(xs[xs.length-1]'hj).pl∈xs.map dL.pl:=zzx.2 ⟨_,zzh hj,rfl⟩;have nc:g.bF.getLast?=some (xs[xs.length-1]'hj).pl:=by
    rw[<- hx,uun,xx7,zzc hj];rfl
   have ng:=cH _ hm;generalize xs[xs.length-1]'hj=x at *
   have sG:eQ g d.off p=if x.pl.l.length=0\/(x.pl.size:Int)+(da p).length<=g.size then .ok ⟨x.pl.file,false,da p⟩ else mE g (x.pl.file+1) p:=by
    unfold eQ;rw[zzb xm,zzb (by rw[ho];decide),zzb (by omega),nc]
   have j7:x.pl.l.length=x.es.length:=by simp[dL.pl,Aw]
   have UE:x.pl.size=x.size:=rfl;have Bk:x.pl.file=x.file:=rfl;have k1:=ng.f0;have k2:=ng.f1;have k3:=ng.sz;rw[j7,UE,Bk]at sG
   rw[Bk]at k1 k2
   rw[UE]at k3
   have uJ:=kI p;unfold fC dL.lv;refine Gm λb w hS=>?_;refine za (λh3=>?_) (λh3=>?_)
   ·rw[zzd (.inl (by omega))]at sG
    rw[sG];refine Gn λw hS=>?_;exact⟨_,⟨au,cu,rfl,rfl⟩,SL.b_ (gH (SL.b_ hS (t:=.pt lp (eM sv tv dp g.base g.size) 186::eK sv xs::.ob (ze dO xs)::.ob (fg tv g.dx)::.ob (bR (.slice au (da p).length cu) 5 1 (da p).length ((da p).map cX))::.ob (bX dp d)::X::F) Xi)) Xi⟩
   refine bZ (λh4=>?_) (λh4=>?_)
   ·rw[zzd (.inr (by omega))]at sG
    rw[sG];refine Gn λw hS=>?_;exact⟨_,⟨au,cu,rfl,rfl⟩,SL.b_ (gH (SL.b_ hS (t:=.pt lp (eM sv tv dp g.base g.size) 186::eK sv xs::.ob (ze dO xs)::.ob (fg tv g.dx)::.ob (bR (.slice au (da p).length cu) 5 1 (da p).length ((da p).map cX))::.ob (bX dp d)::X::F) Xi)) Xi⟩
   rw[zzb (by omega)]at sG
   refine Gp ?_;exact⟨x.file+1,rfl,sG,by omega,by omega,aW hS⟩
  have sG:eQ g d.off p=mE g g.base p:=by
   have Ja:g.bF=[]:=by
    rw[<- hx];have:xs=[]:=zzl (by omega);rw[this];rfl
   unfold eQ;rw[zzb xm,zzb (by rw[ho];decide),zzb (by omega),Ja];rfl
  exact⟨g.base,rfl,sG,by omega,by omega,aW hS⟩
 clear hS;rintro v8 w ⟨f,eU,sG,f0,f1,hS⟩;cases eU;rw[sG];unfold mE;refine bZ (λh2=>?_) (λh2=>?_)
 ·rw[zzd h2];refine Gn λw hS=>?_;exact⟨_,⟨⟨7,rfl,rfl,by decide⟩,rfl⟩,SL.b_ (gH (SL.b_ hS (t:=.pt lp (eM sv tv dp g.base g.size) 186::eK sv xs::.ob (ze dO xs)::.ob (fg tv g.dx)::.ob (bX dp d)::X::F) Xi)) Xi⟩
 rw[zzb h2];refine Gp ?_;refine Cg (yf lp (eM sv tv dp g.base g.size) 186 sv xs rfl cH hM (by omega)) λw hS=>?_;rw[lh];refine Cc (Y8 (cI g.bF+1)) ?_;clear hS;rintro r post hQ w hS;unfold GR at hQ;rw[zzb (by omega)]at hQ
 obtain⟨y,rfl,rfl⟩:=hQ;try simp only[app]at hS
 have hy:=hS.rL .hd;obtain⟨ay,cy,ey,_⟩:=bR.at hS .hd;subst ey;refine Gm λb w hS=>?_;refine yH (F:=_) (ZC _ 2 _ [_,_] [da (dP (cI g.bF+1).toNat),da p] [.ob (bR (.slice ay (da (dP (cI g.bF+1).toNat)).length cy) 5 1 (da (dP (cI g.bF+1).toNat)).length ((da (dP (cI g.bF+1).toNat)).map cX)),.ob (bR (.slice au (da p).length cu) 5 1 (da p).length ((da p).map cX))] rfl rfl ?_ ?_ (by omega)) hS Xp ?_
 ·intro i hi
  match i,hi with
  | 0,_=>exact⟨_,.hd,dS.own⟩
  | 1,_=>exact⟨_,.tl .hd,dS.own⟩
 ·have:=kI p;have:=kI (dP (cI g.bF+1).toNat);have:=AZ (cI g.bF+1).toNat;simp;omega
 clear hS;rintro c post rfl w hS;(try simp only[app]at hS);have e2:[da (dP (cI g.bF+1).toNat),da p].flatten=da (dP (cI g.bF+1).toNat)++da p:=by simp
 rw[e2]at hS
 have hc:=hS.rL .hd;obtain⟨ac,cc,ec,_⟩:=bR.at hS .hd;subst ec;refine Gn λw hS=>?_;have e3:(da (dP (cI g.bF+1).toNat)).length+(da p).length=(da (dP (cI g.bF+1).toNat)++da p).length:=by rw[zza]
 rw[e3];exact⟨_,⟨ac,cc,rfl,rfl⟩,SL.b_ (gH (SL.b_ hS (t:=.pt lp (eM sv tv dp g.base g.size) 186::eK sv xs::.ob (ze dO xs)::.ob (fg tv g.dx)::.ob (bR (.slice ac (da (dP (cI g.bF+1).toNat)++da p).length cc) 5 1 (da (dP (cI g.bF+1).toNat)++da p).length ((da (dP (cI g.bF+1).toNat)++da p).map cX))::.ob (bX dp d)::X::F) Xi)) Xi⟩
def awu(lp dp:Nat)(g:cU)(d:DS)(X:Μ)(y:Except Int ig)(r:Ε)(post:Β):Prop:=match y with
 | .error e=>e≠0/\r= .tuple #[.agg #[Γ 0,.bool false,Θ],Γ e]/\post=[.ob (dd lp dp g),.ob (bX dp d),X]
 | .ok x=>∃a c,r= .tuple #[.agg #[Γ x.file,.bool x.fresh,.slice a x.b.length c],Γ (dc g d).2]/\post=[.ob (bR (.slice a x.b.length c) 5 1 x.b.length (x.b.map cX)),.ob (dd lp dp (dc g d).1.1),.ob (bX dp (dc g d).1.2),X]
def ZI(X:Μ)(lp dp:Nat)(g:cU)(d:DS)(v:Ε)(p:Φ)(hv:dS X v p)(hp:p.length<=140737488355328){M N:Nat}(hg:g.Ok M)(hM:M<=1000000000000000)(cH:d.Ok N)(hN:N<=140737488355328)(dV:d.ops<=100000):
  SP 219 [Δ lp,v] [.ob (dd lp dp g),.ob (bX dp d),X] (awu lp dp g d X (eQ g d.off p)):=by
 refine Enzz λW F w hS=>?_;apply cHc;delta Nn aI ai bI;refine Gm λb w hS=>?_;refine Cc (QM X lp dp g d v p hv hp hg hM) ?_;clear hS;rintro r post hQ w hS;cases dW:eQ g d.off p with
 | error e=>
  rw[dW]at hQ
  obtain⟨⟨z,rfl,rfl,hz⟩,rfl⟩:=hQ;refine Gm λb w hS=>?_;refine za (λh=>absurd h hz) (λ_=>?_);refine Gn λw hS=>?_;exact⟨_,⟨hz,rfl,rfl⟩,aW hS⟩
 | ok x=>
  rw[dW]at hQ
  obtain⟨a,c,rfl,rfl⟩:=hQ;refine Gm λb w hS=>?_;refine za (λ_=>?_) (λh=>absurd rfl h);refine Cg (QF lp dp g d N cH hN dV) λw hS=>?_;exact⟨_,⟨a,c,rfl,rfl⟩,aW hS⟩
def eK.at{W w:Ζ}{l:Β}{v:Ε}{t:Ι}{xs:List dL}{j:Nat}(h:SL W (.ob (dt v t 4 xs.length (xs.map fC).flatten)::l) w)(hj:j<xs.length):
  ∃b o cap A B,v= .slice (some ⟨b,o,none⟩) xs.length cap/\A.length=o+j*4/\SL W (.pt b (A++(fC xs[j]++B)) t::l) w /\
   ∀y w' l',SL W (.pt b (A++(fC y++B)) t::l') w'->SL W (.ob (dt v t 4 (xs.set j y).length ((xs.set j y).map fC).flatten)::l') w':=by
 obtain⟨b,pre,cap,rest,rfl,hc,hl,hr,hS⟩:=dt.block h (by omega);have e:(xs.map fC).flatten=((xs.take j).map fC).flatten++(fC xs[j]++((xs.drop (j+1)).map fC).flatten):=by
  have pY:xs=xs.take j++xs[j]::xs.drop (j+1):=by rw[<- yyq hj,yyk]
  have e:=yyt (λl=>(List.map fC l).flatten) pY;simp only[zzt,zzo,yyw,zz8]at e;exact e
 have el:((xs.take j).map fC).flatten.length=j*4:=by rw[SS,zzg];omega
 refine⟨b,pre.length,cap,pre++((xs.take j).map fC).flatten,((xs.drop (j+1)).map fC).flatten++rest,rfl,by rw[zza,el],?_,λy w' l' h'=>?_⟩
 ·rw[e]at hS
  simp only[zzk]at hS ⊢;exact hS
 have e2:((xs.set j y).map fC).flatten=((xs.take j).map fC).flatten++(fC y++((xs.drop (j+1)).map fC).flatten):=by
  rw[xxh,zzd hj];simp only[zzt,zzo,yyw,zz8]
 have:=dt.mk (b:=b) (t:=t) (sz:=4) (n:=xs.length) (cells:=((xs.set j y).map fC).flatten) (pre:=pre) (rest:=rest) (cap:=cap) hc (by rw[SS,yyj]) hr rfl (by rw[e2];simp only[zzk]at h' ⊢;exact h');show SL W (.ob (dt _ t 4 (xs.set j y).length _)::l') w';rw[yyj];exact this
def BE{A B:Ξ}{cs:Ξ}{i:Nat}{u:Ε}(h:cs[i]?=some u):(A++(cs++B))[A.length+i]?=some u:=by
 rw[yyb (by omega),wwf,zzs (zzf.1 h).1];exact h
def Wk{A B:Ξ}{cs:Ξ}{i:Nat}{u:Ε}(h:i<cs.length):(A++(cs++B)).set (A.length+i) u=A++(cs.set i u++B):=by
 rw[vvv _ _ (by omega),wwf,wwy _ _ h]
def aIi{g:cU}{d:DS}{p:Φ}{e:Int}(h:eQ g d.off p= .error e):eO g d p=((g,d),(0,e)):=by
 unfold eO;rw[h]
def aIk{g:cU}{d:DS}{p:Φ}{x:ig}(h:eQ g d.off p= .ok x)(hm:(dc g d).2≠0):eO g d p=((dc g d).1,(0,(dc g d).2)):=by
 unfold eO;rw[h];simp only;rw[zzd hm]
def aIh{g:cU}{d:DS}{p:Φ}{x:ig}(h:eQ g d.off p= .ok x)(hm:(dc g d).2=0)(ha:((dc g d).1.2.append x.file x.b).2≠0):
  eO g d p=(((dc g d).1.1,((dc g d).1.2.append x.file x.b).1),(0,((dc g d).1.2.append x.file x.b).2)):=by
 unfold eO;rw[h];simp only;rw[zzb (by simp[hm]),zzd ha]
def aIl{g:cU}{d:DS}{p:Φ}{x:ig}(h:eQ g d.off p= .ok x)(hm:(dc g d).2=0)(ha:((dc g d).1.2.append x.file x.b).2=0)(hs:(((dc g d).1.2.append x.file x.b).1.sync x.file).2≠0):
  eO g d p=(((dc g d).1.1,(((dc g d).1.2.append x.file x.b).1.sync x.file).1),(0,(((dc g d).1.2.append x.file x.b).1.sync x.file).2)):=by
 unfold eO;rw[h];simp only;rw[zzb (by simp[hm]),zzb (by simp[ha]),zzd hs]
def aIj{g:cU}{d:DS}{p:Φ}{x:ig}(h:eQ g d.off p= .ok x)(hm:(dc g d).2=0)(ha:((dc g d).1.2.append x.file x.b).2=0)(hs:(((dc g d).1.2.append x.file x.b).1.sync x.file).2=0):
  eO g d p=(({(dc g d).1.1 with bF:=jH g.bF x p},(((dc g d).1.2.append x.file x.b).1.sync x.file).1),(cI (jH g.bF x p),0)):=by
 unfold eO;rw[h];simp only;rw[zzb (by simp[hm]),zzb (by simp[ha]),zzb (by simp[hs]),(tO g d).1]
def Wa(s:DS)(f:Int)(b:Φ):(s.append f b).1.ops<=s.ops+1:=by
 unfold DS.append;split<;>simp[DS.cA]
def cn3(s:DS)(f:Int):(s.sync f).1.ops<=s.ops+1:=by
 unfold DS.sync;split
 ·simp
 split<;>simp[DS.cA]
def Wb(s:DS)(f n:Int):(s.cut f n).1.ops<=s.ops+1:=by
 unfold DS.cut;split
 ·simp
 split
 ·simp
 split<;>simp[DS.cA]
def Wd(s:DS)(f:Int):(s.remove f).1.ops<=s.ops+1:=by
 unfold DS.remove;split
 ·simp
 split<;>simp[DS.cA]
def Wc(g:cU)(d:DS):(dc g d).1.2.ops<=d.ops+1:=by
 unfold dc;split
 ·simp
 simp only;split
 ·exact Wd _ _
 exact Wb _ _ _
def Zg(X:Μ)(lp dp:Nat)(g:cU)(d:DS)(v:Ε)(p:Φ)(hv:dS X v p)(hp:p.length<=140737488355328){M N:Nat}(hg:g.Ok M)(hM:M<=1000000000000)(cH:d.Ok N)(hN:N<=140737480000000)(dV:d.ops<=90000):
  SP 163 [Δ lp,v] [.ob (dd lp dp g),.ob (bX dp d),X] (cE (.tuple #[Γ (eO g d p).2.1,Γ (eO g d p).2.2]) [.ob (dd lp dp (eO g d p).1.1),.ob (bX dp (eO g d p).1.2),X]):=by
 refine Enzz λW F w hS=>?_;apply cFv;delta Mt aI bU a_ cV aR bV ai bI;obtain⟨va,vc,rfl,Jq⟩:=hv.sl hS Xh;refine Cc (ZI X lp dp g d _ p hv hp hg (by omega) cH (by omega) (by omega)) ?_;clear hS;rintro r post hQ w hS;cases dW:eQ g d.off p with
 | error e=>
  rw[dW]at hQ
  obtain⟨hz,rfl,rfl⟩:=hQ;rw[aIi dW];refine Gm λb w hS=>?_;refine⟨λvs w=>vs=[Γ e]/\SL W (.ob (dd lp dp g)::.ob (bX dp d)::X::F) w,?_,?_⟩
  ·refine Gp ?_;refine za (λh=>absurd h hz) (λ_=>⟨rfl,aW hS⟩)
  clear hS;rintro v7 w ⟨eU,hS⟩;cases eU;refine⟨λvs w=>vs=[Γ e]/\SL W (.ob (dd lp dp g)::.ob (bX dp d)::X::F) w,?_,?_⟩
  ·refine Gp ?_;refine za (λh=>absurd h hz) (λ_=>⟨rfl,hS⟩)
  clear hS;rintro v7 w ⟨eU,hS⟩;cases eU;refine Gp ?_;refine za (λ_=>?_) (λh=>absurd hz h);(exact cC hS)
 | ok x=>
  rw[dW]at hQ
  obtain⟨a,c,rfl,rfl⟩:=hQ;have hw:=Ge hg dW;have FG:=Ga (g:=g) cH;have A9:=JV (d:=d) hg;have A':=tO g d;have sE:=Wc g d;have o9:=hw.bl;have hpp:=hw.pl;refine Gm λb w hS=>?_;obtain⟨wb,rfl⟩:∃k,k=b:=⟨b,rfl⟩;by_cases hm:(dc g d).2=0
  ·
   have Tn:=FG.append x.file x.b;have hao:=Wa (dc g d).1.2 x.file x.b;have cO2:=Tn.sync x.file;have uE:=aIj dW hm;have CT:=aIh dW hm;have Bg:=aIl dW hm;generalize eO g d p=G at *
   generalize dc g d=m at *
   obtain⟨⟨g1,d1⟩,me⟩:=m;simp only at *
   subst hm;refine⟨λvs w=>vs=[Γ (d1.append x.file x.b).2]/\SL W (.pt wb [Γ x.file,.bool x.fresh,.slice a x.b.length c] 343::.ob (bR (.slice a x.b.length c) 5 1 x.b.length (x.b.map cX))::.ob (dd lp dp g1)::.ob (bX dp (d1.append x.file x.b).1)::X::F) w,?_,?_⟩
   ·refine Gp ?_;refine za (λ_=>?_) (λh=>absurd rfl h);obtain⟨sv,tv,xs,hx,hS⟩:=dd.iff.1 (SL.b_ hS (t:=.ob (dd lp dp g1)::.pt wb [Γ x.file,.bool x.fresh,.slice a x.b.length c] 343::.ob (bR (.slice a x.b.length c) 5 1 x.b.length (x.b.map cX))::.ob (bX dp d1)::X::F) Xi);refine Gn λw hS=>?_;refine Cg (Hv (.ob (bR (.slice a x.b.length c) 5 1 x.b.length (x.b.map cX))) dp d1 N FG (by omega) x.file _ x.b (λhS h=>nk hS h) (by omega)) λw hS=>?_;have hS:=dd.iff.2 ⟨sv,tv,xs,hx,SL.b_ hS (t:=.pt lp (eM sv tv dp g1.base g1.size) 186::eK sv xs::.ob (ze dO xs)::.ob (fg tv g1.dx)::.pt wb [Γ x.file,.bool x.fresh,.slice a x.b.length c] 343::.ob (bR (.slice a x.b.length c) 5 1 x.b.length (x.b.map cX))::.ob (bX dp (d1.append x.file x.b).1)::X::F) Xi⟩;exact aW hS
   clear hS;rintro v7 w ⟨eU,hS⟩;cases eU;by_cases ha:(d1.append x.file x.b).2=0
   ·rw[ha];refine⟨λvs w=>vs=[Γ ((d1.append x.file x.b).1.sync x.file).2]/\SL W (.pt wb [Γ x.file,.bool x.fresh,.slice a x.b.length c] 343::.ob (bR (.slice a x.b.length c) 5 1 x.b.length (x.b.map cX))::.ob (dd lp dp g1)::.ob (bX dp ((d1.append x.file x.b).1.sync x.file).1)::X::F) w,?_,?_⟩
    ·refine Gp ?_;refine za (λ_=>?_) (λh=>absurd rfl h);obtain⟨sv,tv,xs,hx,hS⟩:=dd.iff.1 (SL.b_ hS (t:=.ob (dd lp dp g1)::.pt wb [Γ x.file,.bool x.fresh,.slice a x.b.length c] 343::.ob (bR (.slice a x.b.length c) 5 1 x.b.length (x.b.map cX))::.ob (bX dp (d1.append x.file x.b).1)::X::F) Xi);refine Gn λw hS=>?_;refine Cg (Yj dp (d1.append x.file x.b).1 _ Tn (by omega) x.file) λw hS=>?_;have hS:=dd.iff.2 ⟨sv,tv,xs,hx,SL.b_ hS (t:=.pt lp (eM sv tv dp g1.base g1.size) 186::eK sv xs::.ob (ze dO xs)::.ob (fg tv g1.dx)::.pt wb [Γ x.file,.bool x.fresh,.slice a x.b.length c] 343::.ob (bR (.slice a x.b.length c) 5 1 x.b.length (x.b.map cX))::.ob (bX dp ((d1.append x.file x.b).1.sync x.file).1)::X::F) Xi⟩;exact aW hS
    clear hS;rintro v7 w ⟨eU,hS⟩;cases eU;by_cases hs:((d1.append x.file x.b).1.sync x.file).2=0
    ·rw[hs];have hG:=uE ha hs;subst hG;clear uE CT Bg hao;generalize ((d1.append x.file x.b).1.sync x.file).1=d3 at *
     refine Gp ?_;refine za (λh=>absurd rfl h) (λ_=>?_);obtain⟨sv,tv,xs,hx,hS⟩:=dd.iff.1 (SL.b_ hS (t:=.ob (dd lp dp g1)::.pt wb [Γ x.file,.bool x.fresh,.slice a x.b.length c] 343::.ob (bX dp d3)::X::F) Xi);obtain⟨Bl,j7,_,_⟩:=A9.xs hx;have lh:cI (xs.map dL.pl)=cI g.bF:=by rw[hx,A'.1]
     have IT:=hw.hd;have xx:=sB hg.bF;have bVz:=VI hg hw;refine⟨λvs w=>vs=[]/\∃jS cZ,cZ.map dL.pl=tP g.bF x/\cZ.length<=xs.length+1/\SL W (.pt lp (eM jS tv dp g1.base g1.size) 186::eK jS cZ::.ob (ze dO cZ)::.ob (fg tv g1.dx)::.pt wb [Γ x.file,.bool x.fresh,.slice a x.b.length c] 343::.ob (bX dp d3)::X::F) w,?_,?_⟩
     ·refine Gp ?_;unfold tP;refine yT (λhf=>?_) (λhf=>?_)
      ·rw[zzd hf];refine Gn λw hS=>?_;refine Cg (yf lp (eM sv tv dp g1.base g1.size) 186 sv xs rfl Bl (by omega) (by omega)) λw hS=>?_;refine Gm λb w hS=>?_;rw[lh]at hS
       have tG:=dt.one hS (v:=sv) (t:=268) (sz:=4) (n:=xs.length) (cells:=(xs.map fC).flatten) Xh;refine ZP (m:=1) (cs:=[Γ x.file,Γ (cI g.bF+1),Γ 0,Θ]) hS Xr (kf hS .hd rfl) rfl rfl (by simp[Value.oneCell']) (by omega) (by omega) ?_;clear hS;intro jS w hS;have tG:=dt.one hS (v:=jS) .hd;refine Gn λw hS=>?_;have hS:=dt.rJ (a:=none) (t:=205) (sz:=1) hS;have hS:=ze.nil (A:=gK) (SL.b_ hS (t:=.ob (dt Θ 205 1 0 [])::.ob (ze dO xs)::.pt lp (eM jS tv dp g1.base g1.size) 186::.ob (dt jS 268 4 (xs.length+1) ((xs.map fC).flatten++[Γ x.file,Γ (cI g.bF+1),Γ 0,Θ]))::.ob (fg tv g1.dx)::.pt wb [Γ x.file,.bool x.fresh,.slice a x.b.length c] 343::.ob (bX dp d3)::X::F) Xi);have hS:=(dO.iff (x:=⟨x.file,cI g.bF+1,0,[],none,0⟩)).2 (SL.b_ hS (t:=.ob (dt Θ 205 1 0 [])::.ob (ze gK [])::.ob (ze dO xs)::.pt lp (eM jS tv dp g1.base g1.size) 186::.ob (dt jS 268 4 (xs.length+1) ((xs.map fC).flatten++[Γ x.file,Γ (cI g.bF+1),Γ 0,Θ]))::.ob (fg tv g1.dx)::.pt wb [Γ x.file,.bool x.fresh,.slice a x.b.length c] 343::.ob (bX dp d3)::X::F) Xi);have hS:=ze.snoc (SL.b_ hS (t:=.ob (ze dO xs)::.ob (dO ⟨x.file,cI g.bF+1,0,[],none,0⟩)::.pt lp (eM jS tv dp g1.base g1.size) 186::.ob (dt jS 268 4 (xs.length+1) ((xs.map fC).flatten++[Γ x.file,Γ (cI g.bF+1),Γ 0,Θ]))::.ob (fg tv g1.dx)::.pt wb [Γ x.file,.bool x.fresh,.slice a x.b.length c] 343::.ob (bX dp d3)::X::F) Xi);have e1:xs.length+1=(xs++[(⟨x.file,cI g.bF+1,0,[],none,0⟩:dL)]).length:=by simp
       have e2:(xs.map fC).flatten++[Γ x.file,Γ (cI g.bF+1),Γ 0,Θ]=((xs++[(⟨x.file,cI g.bF+1,0,[],none,0⟩:dL)]).map fC).flatten:=by simp[fC,dL.lv]
       rw[e1,e2]at hS
       refine⟨jS,xs++[⟨x.file,cI g.bF+1,0,[],none,0⟩],?_,by simp,aW hS⟩;rw[zzt,hx,A'.1];rfl
      rw[zzb (by rw[hf];decide)];exact⟨rfl,sv,xs,by rw[hx,A'.1],by omega,aW hS⟩
     clear hS Bl lh;rintro w ⟨-,jS,cZ,nh,rn,hS⟩;obtain⟨A,s,hA⟩:=JW hw;rw[Gg _ _ _ hA];have hle:0<cZ.length:=by
      have:=yyt List.length nh;rw[hA]at this;simp at this;omega
     have hj:cZ.length-1<cZ.length:=by omega
     have pY:cZ=cZ.take (cZ.length-1)++[cZ[cZ.length-1]]:=by
      conv=>lhs;rw[<- yyk (cZ.length-1) cZ]
      rw[yyq hj,yy6 (by omega)]
     have E7:A=(cZ.take (cZ.length-1)).map dL.pl/\s=(cZ[cZ.length-1]).pl:=by
      rw[pY,zzt]at nh
      rw[hA]at nh
      have:=List.append_inj' nh rfl;exact⟨this.1.symm,by simpa using this.2.symm⟩
     obtain⟨xg,vQ⟩:=E7;subst xg vQ;have Uq:=bVz (cZ[cZ.length-1]).pl (by rw[hA];simp);have z1:=Uq.sz;have z2:=Uq.ln;have hS:=ze.take (t:=cZ.length-1) (SL.b_ hS (t:=.ob (ze dO cZ)::eK jS cZ::.pt lp (eM jS tv dp g1.base g1.size) 186::.ob (fg tv g1.dx)::.pt wb [Γ x.file,.bool x.fresh,.slice a x.b.length c] 343::.ob (bX dp d3)::X::F) Xi) (zzc hj);have hS:=dO.iff.1 hS;obtain⟨rb,ro,rc,AA,BB,rfl,hAA,hS,mY⟩:=eK.at (SL.b_ hS (t:=eK jS cZ::.ob (dt (cZ[cZ.length-1]).lv 205 1 (cZ[cZ.length-1]).es.length (gx (cZ[cZ.length-1]).es))::.ob (ze gK (cZ[cZ.length-1]).es)::.ob (ze dO (cZ.eraseIdx (cZ.length-1)))::.pt lp (eM jS tv dp g1.base g1.size) 186::.ob (fg tv g1.dx)::.pt wb [Γ x.file,.bool x.fresh,.slice a x.b.length c] 343::.ob (bX dp d3)::X::F) Xi) hj;generalize Uy:cZ[cZ.length-1]=x0 at *
     have z1:x0.size<=M:=z1;have z2:x0.es.length<=M:=by simpa [dL.pl,Aw] using z2
     refine Gn λw hS=>?_;have e:((cZ.length:Nat):Int)-1=((cZ.length-1:Nat):Int):=by omega
     rw[e];refine zF hj ?_;rw[<- hAA];refine Gn λw hS=>?_;refine zV hS Xh (BE (i:=2) (u:=Γ x0.size) rfl) ?_;refine Gp ?_;refine Zz hS Xu (BE (i:=2) (u:=Γ x0.size) rfl) rfl ?_;clear hS;intro w hS;rw[Wk (by rw[GO];decide)]at hS
     have e5:(fC x0).set 2 (Γ ((x0.size+x.b.length:Nat):Int))=[Γ x0.file,Γ x0.first,Γ ((x0.size+x.b.length:Nat):Int),x0.lv]:=rfl;rw[e5]at hS
     refine Gn λw hS=>?_;refine zV hS Xh (BE (i:=3) (u:=x0.lv) rfl) ?_;refine Zn (cs:=p.map cX) hS (λw' c gE=>hv.src gE (.tl Xh)) (by simp) (uY _) (by omega) ?_;clear hS;intro u w hS _;have hu:=hS.rL .hd;obtain⟨ua,uc,eu,_⟩:=bR.at hS .hd;subst eu;refine zV hS Xh (BE (i:=3) (u:=x0.lv) rfl) ?_;refine Gm λb w hS=>?_;refine zV hS Xh (BE (i:=3) (u:=x0.lv) rfl) ?_;refine Gp ?_;refine ZP (t:=205) (sz:=1) (n:=x0.es.length) (cells:=gx x0.es) (m:=1) (cs:=[.slice ua p.length uc]) hS Xr (kf hS .hd rfl) rfl rfl (by simp[Value.oneCell']) (by omega) (by omega) ?_;clear hS;intro v' w hS;have tG:=dt.one hS (v:=v') .hd;obtain⟨a',c',ev,_⟩:=dt.at hS (v:=v') .hd;subst ev;refine Gp ?_;refine Zz hS Xu (BE (i:=3) (u:=x0.lv) rfl) tG ?_;clear hS;intro w hS;rw[Wk (by show 3<4;decide)]at hS
     have e6:([Γ x0.file,Γ x0.first,Γ ((x0.size+x.b.length:Nat):Int),x0.lv]:Ξ).set 3 (.slice a' (x0.es.length+1) c')=fC ⟨x0.file,x0.first,x0.size+x.b.length,x0.es++[(.slice ua p.length uc,p)],a',c'⟩:=by
      simp[fC,dL.lv]
     rw[e6]at hS
     let y:dL:=⟨x0.file,x0.first,x0.size+x.b.length,x0.es++[(.slice ua p.length uc,p)],a',c'⟩
     have oD:(cZ.set (cZ.length-1) y).map dL.pl=(cZ.take (cZ.length-1)).map dL.pl++[vh x0.pl x.b.length p]:=by
      rw[xxh,zzd hj,yy6 (by omega),zzt];congr 1;simp[y,dL.pl,vh,oR]
     have xJ:=(Wn hg hw).1;rw[Gg _ _ _ hA,<- oD]at xJ
     have hS:=mY y w _ (SL.b_ hS (t:=.pt rb (AA++(fC y++BB)) 268::.ob (dt (.slice a' (x0.es.length+1) c') 205 1 (x0.es.length+1) (gx x0.es++[.slice ua p.length uc]))::.ob (bR (.slice ua p.length uc) 5 1 p.length (p.map cX))::.ob (ze gK x0.es)::.ob (ze dO (cZ.eraseIdx (cZ.length-1)))::.pt lp (eM (.slice (some ⟨rb,ro,none⟩) cZ.length rc) tv dp g1.base g1.size) 186::.ob (fg tv g1.dx)::.ob (bX dp d3)::X::F) Xi);have hS:=SL.b_ hS (t:=.ob (bR (.slice ua p.length uc) 5 1 p.length (p.map cX))::.ob (ze gK x0.es)::.ob (dt (.slice a' (x0.es.length+1) c') 205 1 (x0.es.length+1) (gx x0.es++[.slice ua p.length uc]))::.ob (ze dO (cZ.eraseIdx (cZ.length-1)))::eK (.slice (some ⟨rb,ro,none⟩) cZ.length rc) (cZ.set (cZ.length-1) y)::.pt lp (eM (.slice (some ⟨rb,ro,none⟩) cZ.length rc) tv dp g1.base g1.size) 186::.ob (fg tv g1.dx)::.ob (bX dp d3)::X::F) Xi;have hS:SL W (.ob (gK (.slice ua p.length uc,p))::.ob (ze gK x0.es)::.ob (dt (.slice a' (x0.es.length+1) c') 205 1 (x0.es.length+1) (gx x0.es++[.slice ua p.length uc]))::.ob (ze dO (cZ.eraseIdx (cZ.length-1)))::eK (.slice (some ⟨rb,ro,none⟩) cZ.length rc) (cZ.set (cZ.length-1) y)::.pt lp (eM (.slice (some ⟨rb,ro,none⟩) cZ.length rc) tv dp g1.base g1.size) 186::.ob (fg tv g1.dx)::.ob (bX dp d3)::X::F) w:=hS;have hS:=ze.snoc (hS.perm (.swap _ _ _));have e7:x0.es.length+1=y.es.length:=by simp[y]
     have e8:gx x0.es++[.slice ua p.length uc]=gx y.es:=by simp[y,gx]
     rw[e7,e8]at hS
     have hS:=(dO.iff (x:=y)).2 (SL.b_ hS (t:=.ob (dt (.slice a' y.es.length c') 205 1 y.es.length (gx y.es))::.ob (ze gK (x0.es++[(.slice ua p.length uc,p)]))::.ob (ze dO (cZ.eraseIdx (cZ.length-1)))::eK (.slice (some ⟨rb,ro,none⟩) cZ.length rc) (cZ.set (cZ.length-1) y)::.pt lp (eM (.slice (some ⟨rb,ro,none⟩) cZ.length rc) tv dp g1.base g1.size) 186::.ob (fg tv g1.dx)::.ob (bX dp d3)::X::F) Xi);have hS:=ze.put hS hj;refine Gp ?_;refine Cg (yf lp (eM (.slice (some ⟨rb,ro,none⟩) cZ.length rc) tv dp g1.base g1.size) 186 (.slice (some ⟨rb,ro,none⟩) cZ.length rc) (cZ.set (cZ.length-1) y) rfl xJ (by omega) (by rw[yyj];omega)) λw hS=>?_;rw[oD];have hS:=(dd.iff (g:={bF:=(cZ.take (cZ.length-1)).map dL.pl++[vh x0.pl x.b.length p],base:=g1.base,size:=g1.size,dx:=g1.dx})).2 ⟨_,tv,cZ.set (cZ.length-1) y,oD,SL.b_ hS (t:=.pt lp (eM (.slice (some ⟨rb,ro,none⟩) cZ.length rc) tv dp g1.base g1.size) 186::eK (.slice (some ⟨rb,ro,none⟩) cZ.length rc) (cZ.set (cZ.length-1) y)::.ob (ze dO (cZ.set (cZ.length-1) y))::.ob (fg tv g1.dx)::.ob (bX dp d3)::X::F) Xi⟩;exact cC hS
    have hG:=Bg ha hs;subst hG;refine Gp ?_;refine za (λ_=>?_) (λh=>absurd hs h);(exact cC hS)
   have hG:=CT ha;subst hG;refine⟨λvs w=>vs=[Γ (d1.append x.file x.b).2]/\SL W (.ob (dd lp dp g1)::.ob (bX dp (d1.append x.file x.b).1)::X::F) w,?_,?_⟩
   ·refine Gp ?_;refine za (λh=>absurd h ha) (λ_=>⟨rfl,aW hS⟩)
   clear hS;rintro v7 w ⟨eU,hS⟩;cases eU;refine Gp ?_;refine za (λ_=>?_) (λh=>absurd ha h);(exact cC hS)
  rw[aIk dW hm];refine⟨λvs w=>vs=[Γ (dc g d).2]/\SL W (.ob (dd lp dp (dc g d).1.1)::.ob (bX dp (dc g d).1.2)::X::F) w,?_,?_⟩
  ·refine Gp ?_;refine za (λh=>absurd h hm) (λ_=>⟨rfl,aW hS⟩)
  clear hS;rintro v7 w ⟨eU,hS⟩;cases eU;refine⟨λvs w=>vs=[Γ (dc g d).2]/\SL W (.ob (dd lp dp (dc g d).1.1)::.ob (bX dp (dc g d).1.2)::X::F) w,?_,?_⟩
  ·refine Gp ?_;refine za (λh=>absurd h hm) (λ_=>⟨rfl,hS⟩)
  clear hS;rintro v7 w ⟨eU,hS⟩;cases eU;refine Gp ?_;refine za (λ_=>?_) (λh=>absurd hm h);(exact cC hS)
def cC9{g:cU}{d:DS}{p:Φ}{k e:Int}(hk:0<=k)(h:eQ g d.off p= .error e):f_ g d p k=((g,d),e):=by
 unfold f_;rw[zzb (by omega),h]
def cDb{g:cU}{d:DS}{p:Φ}{k:Int}{x:ig}(hk:0<=k)(h:eQ g d.off p= .ok x)(hm:(dc g d).2≠0):f_ g d p k=((dc g d).1,(dc g d).2):=by
 unfold f_;rw[zzb (by omega),h];simp only;rw[zzd hm]
def cC7{g:cU}{d:DS}{p:Φ}{k:Int}{x:ig}(hk:0<=k)(h:eQ g d.off p= .ok x)(hm:(dc g d).2=0)(ha:((dc g d).1.2.append x.file (x.b.take (k.toNat % x.b.length))).2≠0):
  f_ g d p k=(((dc g d).1.1,((dc g d).1.2.append x.file (x.b.take (k.toNat % x.b.length))).1),((dc g d).1.2.append x.file (x.b.take (k.toNat % x.b.length))).2):=by
 unfold f_;rw[zzb (by omega),h];simp only;rw[zzb (by simp[hm]),zzd ha]
def cDa{g:cU}{d:DS}{p:Φ}{k:Int}{x:ig}(hk:0<=k)(h:eQ g d.off p= .ok x)(hm:(dc g d).2=0)(ha:((dc g d).1.2.append x.file (x.b.take (k.toNat % x.b.length))).2=0):
  f_ g d p k=(({(dc g d).1.1 with dx:=some ⟨x.file,if x.fresh=true then 0 else lO g.bF,x.fresh⟩},((dc g d).1.2.append x.file (x.b.take (k.toNat % x.b.length))).1),0):=by
 unfold f_;rw[zzb (by omega),h];simp only;rw[zzb (by simp[hm]),zzb (by simp[ha]),(tO g d).1]
def Q7(X:Μ)(lp dp:Nat)(g:cU)(d:DS)(v:Ε)(p:Φ)(k:Int)(hv:dS X v p)(hp:p.length<=140737488355328){M N:Nat}(hg:g.Ok M)(hM:M<=1000000000000)(cH:d.Ok N)(hN:N<=140737480000000)(dV:d.ops<=90000):
  SP 344 [Δ lp,v,Γ k] [.ob (dd lp dp g),.ob (bX dp d),X] (cE (Γ (f_ g d p k).2) [.ob (dd lp dp (f_ g d p k).1.1),.ob (bX dp (f_ g d p k).1.2),X]):=by
 refine Enzz λW F w hS=>?_;apply cJ6;delta O0 aI bU a_ cV bV cL ai bI;obtain⟨va,vc,rfl,Jq⟩:=hv.sl hS Xh;refine bZ (λhk=>?_) (λhk=>?_)
 ·have:f_ g d p k=((g,d),1):=by unfold f_;rw[zzd hk]
  rw[this];(exact cC hS)
 have hk:0<=k:=by omega
 refine Cc (ZI X lp dp g d _ p hv hp hg (by omega) cH (by omega) (by omega)) ?_;clear hS;rintro r post hQ w hS;cases dW:eQ g d.off p with
 | error e=>
  rw[dW]at hQ
  obtain⟨hz,rfl,rfl⟩:=hQ;rw[cC9 hk dW];refine Gm λb w hS=>?_;refine⟨λvs w=>vs=[Γ e]/\SL W (.ob (dd lp dp g)::.ob (bX dp d)::X::F) w,?_,?_⟩
  ·refine Gp ?_;refine za (λh=>absurd h hz) (λ_=>⟨rfl,aW hS⟩)
  clear hS;rintro v7 w ⟨eU,hS⟩;cases eU;refine Gp ?_;refine za (λ_=>?_) (λh=>absurd hz h);(exact cC hS)
 | ok x=>
  rw[dW]at hQ
  obtain⟨a,c,rfl,rfl⟩:=hQ;have hw:=Ge hg dW;have FG:=Ga (g:=g) cH;have A9:=JV (d:=d) hg;have A':=tO g d;have sE:=Wc g d;have o9:=hw.bl;have hpp:=hw.pl;have vP:=hw.pos;refine Gm λb w hS=>?_;obtain⟨wb,rfl⟩:∃k,k=b:=⟨b,rfl⟩;by_cases hm:(dc g d).2=0
  ·have uE:=cDa hk dW hm;have CT:=cC7 hk dW hm;generalize f_ g d p k=G at *
   generalize dc g d=m at *
   obtain⟨⟨g1,d1⟩,me⟩:=m;simp only at *
   subst hm;obtain⟨kn,rfl⟩:=wwg hk;simp only[zzy]at CT uE;generalize hq:kn % x.b.length=q at *
   have FJ:q<=x.b.length:=by
    have:=vvg kn (show 0<x.b.length by omega);omega
   refine⟨λvs w=>vs=[Γ (d1.append x.file (x.b.take q)).2]/\SL W (.pt wb [Γ x.file,.bool x.fresh,.slice a x.b.length c] 343::.ob (bR (.slice a x.b.length c) 5 1 x.b.length (x.b.map cX))::.ob (dd lp dp g1)::.ob (bX dp (d1.append x.file (x.b.take q)).1)::X::F) w,?_,?_⟩
   ·refine Gp ?_;refine za (λ_=>?_) (λh=>absurd rfl h);obtain⟨sv,tv,xs,hx,hS⟩:=dd.iff.1 (SL.b_ hS (t:=.ob (dd lp dp g1)::.pt wb [Γ x.file,.bool x.fresh,.slice a x.b.length c] 343::.ob (bR (.slice a x.b.length c) 5 1 x.b.length (x.b.map cX))::.ob (bX dp d1)::X::F) Xi);refine Gn λw hS=>?_;rw[hq];have dJ:dS (.ob (bR (.slice a x.b.length c) 5 1 x.b.length (x.b.map cX))) (.slice a x.b.length c) x.b:=dS.own;refine WS hS Xh dJ FJ ?_;intro u hu;refine Cg (Hv (.ob (bR (.slice a x.b.length c) 5 1 x.b.length (x.b.map cX))) dp d1 N FG (by omega) x.file u (x.b.take q) (λhS h=>hu.src hS h) (by rw[zzg];omega)) λw hS=>?_;have hS:=dd.iff.2 ⟨sv,tv,xs,hx,SL.b_ hS (t:=.pt lp (eM sv tv dp g1.base g1.size) 186::eK sv xs::.ob (ze dO xs)::.ob (fg tv g1.dx)::.pt wb [Γ x.file,.bool x.fresh,.slice a x.b.length c] 343::.ob (bR (.slice a x.b.length c) 5 1 x.b.length (x.b.map cX))::.ob (bX dp (d1.append x.file (x.b.take q)).1)::X::F) Xi⟩;exact aW hS
   clear hS;rintro v7 w ⟨eU,hS⟩;cases eU;by_cases ha:(d1.append x.file (x.b.take q)).2=0
   ·rw[ha];have hG:=uE ha;subst hG;refine Gp ?_;refine za (λh=>absurd rfl h) (λ_=>?_);obtain⟨sv,tv,xs,hx,hS⟩:=dd.iff.1 (SL.b_ hS (t:=.ob (dd lp dp g1)::.pt wb [Γ x.file,.bool x.fresh,.slice a x.b.length c] 343::.ob (bX dp (d1.append x.file (x.b.take q)).1)::X::F) Xi);refine Gp ?_;refine⟨_,rfl,zC hS ?_⟩;clear hS;intro tb w hS;have Ut:=aw3 (SL.b_ hS (t:=.ob (fg tv g1.dx)::F) Xi);refine Gn λw hS=>?_;cases hf:x.fresh with
    | true=>
     rw[hf]at hS
     refine zp ?_;simp only[wwj];have hS:=(Ar (v:=Δ tb) (x:=⟨x.file,0,true⟩)).2 ⟨tb,rfl,SL.b_ hS (t:=.pt tb [Γ x.file,Γ 0,.bool true] 454::.pt lp (eM sv (Δ tb) dp g1.base g1.size) 186::eK sv xs::.ob (ze dO xs)::.ob (bX dp (d1.append x.file (x.b.take q)).1)::X::F) Xi⟩;have hS:=(dd.iff (g:={bF:=g1.bF,base:=g1.base,size:=g1.size,dx:=some ⟨x.file,0,true⟩})).2 ⟨sv,_,xs,hx,SL.b_ hS (t:=.pt lp (eM sv (Δ tb) dp g1.base g1.size) 186::eK sv xs::.ob (ze dO xs)::.ob (fg (Δ tb) (some ⟨x.file,0,true⟩))::.ob (bX dp (d1.append x.file (x.b.take q)).1)::X::F) Xi⟩;exact cC hS
    | false=>
     rw[hf]at hS
     refine zq ?_;simp only[xxe,wwb];obtain⟨_,j7,_,_⟩:=A9.xs hx;obtain⟨s,A8,hsf⟩:=hw.nU hf;rw[<- A'.1,<- hx]at A8
     have hle:0<xs.length:=by
      rcases yyu xs.length with h0|h0
      ·rw[zzl h0]at A8;simp at A8
      exact h0
     have hj:xs.length-1<xs.length:=by omega
     have hsx:s=(xs[xs.length-1]'hj).pl:=by
      rw[uun,xx7,zzc hj]at A8
      exact (wwc A8).symm
     have I6:lO g.bF=((xs[xs.length-1]'hj).size:Nat):=by
      unfold lO;rw[<- A'.1,<- hx,A8,hsx];rfl
     rw[I6];refine Gn λw hS=>?_;refine zJ hS (v:=sv) (t:=268) (sz:=4) (n:=xs.length) (cells:=(xs.map fC).flatten) Xh ?_;refine Gp ?_;have e:((xs.length:Nat):Int)-1=((xs.length-1:Nat):Int):=by omega
     rw[e];refine Y4 (i:=2) hS Xh hj (u:=Γ ((xs[xs.length-1]'hj).size:Nat)) rfl ?_;generalize (xs[xs.length-1]'hj).size=z at *
     refine Gn λw hS=>?_;have hS:=(Ar (v:=Δ tb) (x:=⟨x.file,(z:Int),false⟩)).2 ⟨tb,rfl,SL.b_ hS (t:=.pt tb [Γ x.file,Γ (z:Int),.bool false] 454::.pt lp (eM sv (Δ tb) dp g1.base g1.size) 186::eK sv xs::.ob (ze dO xs)::.ob (bX dp (d1.append x.file (x.b.take q)).1)::X::F) Xi⟩;have hS:=(dd.iff (g:={bF:=g1.bF,base:=g1.base,size:=g1.size,dx:=some ⟨x.file,(z:Int),false⟩})).2 ⟨sv,_,xs,hx,SL.b_ hS (t:=.pt lp (eM sv (Δ tb) dp g1.base g1.size) 186::eK sv xs::.ob (ze dO xs)::.ob (fg (Δ tb) (some ⟨x.file,(z:Int),false⟩))::.ob (bX dp (d1.append x.file (x.b.take q)).1)::X::F) Xi⟩;exact cC hS
   have hG:=CT ha;subst hG;refine Gp ?_;refine za (λ_=>?_) (λh=>absurd ha h);(exact cC hS)
  rw[cDb hk dW hm];refine⟨λvs w=>vs=[Γ (dc g d).2]/\SL W (.ob (dd lp dp (dc g d).1.1)::.ob (bX dp (dc g d).1.2)::X::F) w,?_,?_⟩
  ·refine Gp ?_;refine za (λh=>absurd h hm) (λ_=>⟨rfl,aW hS⟩)
  clear hS;rintro v7 w ⟨eU,hS⟩;cases eU;refine Gp ?_;refine za (λ_=>?_) (λh=>absurd hm h);(exact cC hS)
def Zp(lp dp:Nat)(g:cU)(d:DS)(n:Int){M N:Nat}(hg:g.Ok M)(hM:M<=1000000000000)(cH:d.Ok N)(dV:d.ops+g.bF.length<=100000):
  SP 182 [Δ lp,Γ n] [.ob (dd lp dp g),.ob (bX dp d)] (cE (Γ (gQ g d n).2) [.ob (dd lp dp (gQ g d n).1.1),.ob (bX dp (gQ g d n).1.2)]):=by
 refine Enzz λW F w hS=>?_;apply cGe;delta MM aI bU a_ bV ai;obtain⟨sv,tv,xs,hx,hS⟩:=dd.iff.1 hS;refine Gp ?_;refine Cg (zM dp d) λw hS=>?_;refine yT (λho=>?_) (λho=>?_)
 ·have e:gQ g d n=((g,d),8):=by unfold gQ;rw[zzd ho]
  rw[e];have hS:=(dd.iff (g:=g)).2 ⟨sv,tv,xs,hx,SL.b_ hS (t:=.pt lp (eM sv tv dp g.base g.size) 186::eK sv xs::.ob (ze dO xs)::.ob (fg tv g.dx)::.ob (bX dp d)::F) Xi⟩;exact cC hS
 have e:gQ g d n=(({g with bF:=(gJ g.bF d n).1.1},(gJ g.bF d n).1.2),(gJ g.bF d n).2):=by unfold gQ;rw[zzb (by rw[ho];decide)]
 rw[e];have gH:∀{w:Ζ} {sv:Ε} {xs:List dL} {d':DS},SL W (.pt lp (eM sv tv dp g.base g.size) 186::eK sv xs::.ob (ze dO xs)::.ob (fg tv g.dx)::.ob (bX dp d')::F) w->SL W (.ob (dd lp dp {g with bF:=xs.map dL.pl})::.ob (bX dp d')::F) w:=λh=>(dd.iff (g:={g with bF:=_})).2 ⟨_,tv,_,rfl,h⟩;refine⟨λvs w=>vs=[]/\∃a c cZ d',gJ g.bF d n=gJ (cZ.map dL.pl) d' n/\(∀s∈cZ.map dL.pl,kY s M)/\cZ.length<=M/\d'.Ok N/\d'.ops+cZ.length<=100000/\SL W (.pt lp (eM (.slice a cZ.length c) tv dp g.base g.size) 186::eK (.slice a cZ.length c) cZ::.ob (ze dO cZ)::.ob (fg tv g.dx)::.ob (bX dp d')::F) w,
  λ_ w=>match w.cell? ⟨lp,0,none⟩ with|some (.slice _ n _)=>n|_=>0,?_,?_⟩
 ·obtain⟨a,c,rfl,_⟩:=dt.at hS (v:=sv) (t:=268) (sz:=4) (n:=xs.length) (cells:=(xs.map fC).flatten) Xh;have hl:xs.length=g.bF.length:=by rw[<- hx,zzn]
  exact⟨rfl,a,c,xs,d,by rw[hx],by rw[hx];exact hg.bF,by rw[hl];exact hg.ln,cH,by rw[hl];exact dV,aW hS⟩
 clear hS hx;rintro w ⟨-,a,c,cZ,d',Bi,Dp,hlen,T',Jd,hS⟩;rw[Bi];have xq:=hS.cell (b:=lp) (o:=0) .hd rfl;refine bZ (λh1=>?_) (λh1=>?_)
 ·match cZ,h1,Dp,hlen,Bi,Jd,hS,xq with
  | x0::x1::r,_,Dp,hlen,Bi,Jd,hS,xq=>
  have xN:=Dp x0.pl (by simp);have mh:gJ ((x0::x1::r).map dL.pl) d' n=if x0.pl.next-1<=n then (if (d'.remove x0.pl.file).2≠0 then (((x0::x1::r).map dL.pl,(d'.remove x0.pl.file).1),(d'.remove x0.pl.file).2) else gJ ((x1::r).map dL.pl) (d'.remove x0.pl.file).1 n) else (((x0::x1::r).map dL.pl,d'),0):=by
   simp only[zzo];rw[gJ]
  have k0:=xN.n0;have k1:=xN.n1;have k2:=xN.ln;have pf:x0.pl.next=x0.pl.first+x0.pl.l.length:=rfl;refine Gp ?_;refine ZQ (j:=0) hS Xh (by simp) ?_;show zQ _ _ [.agg (fC x0).toArray] _ _;refine Cg (y5 x0 xN (by omega)) λw hS=>?_;refine za (λh2=>?_) (λh2=>?_)
  ·rw[zzd h2]at mh
   refine Gn λw hS=>?_;refine Y4 (j:=0) (i:=0) hS Xh (by simp) (u:=Γ x0.file) rfl ?_;refine Cg (yO dp d' N T' (by omega) x0.file) λw hS=>?_;have uI:=T'.remove x0.file;have Ji:=Wd d' x0.file;have Bk:x0.pl.file=x0.file:=rfl;rw[Bk]at mh
   refine za (λh3=>?_) (λh3=>?_)
   ·rw[mh,zzd h3];have hS:=gH (aW hS);exact cC hS
   rw[zzb h3]at mh
   rw[mh]at Bi ⊢
   refine Gp ?_;refine Yd (k:=1) (SL.b_ hS (t:=eK (.slice a (x0::x1::r).length c) (x0::x1::r)::.pt lp (eM (.slice a (x0::x1::r).length c) tv dp g.base g.size) 186::.ob (ze dO (x0::x1::r))::.ob (fg tv g.dx)::.ob (bX dp (d'.remove x0.file).1)::F) Xi) (by simp) ?_;clear hS;intro u hS;have e1:(x0::x1::r).length-1=(x1::r).length:=by simp
   have e2:((x0::x1::r).map fC).flatten.drop (1*4)=((x1::r).map fC).flatten:=by simp[fC]
   rw[e1,e2]at hS
   obtain⟨ua,uc,rfl,_⟩:=dt.at hS (v:=u) .hd;have hS:=ze.take (t:=0) (x:=x0) (SL.b_ hS (t:=.ob (ze dO (x0::x1::r))::.ob (dt (.slice ua (x1::r).length uc) 268 4 (x1::r).length ((x1::r).map fC).flatten)::.pt lp (eM (.slice a (x0::x1::r).length c) tv dp g.base g.size) 186::.ob (fg tv g.dx)::.ob (bX dp (d'.remove x0.file).1)::F) Xi) rfl;have e3:(x0::x1::r).eraseIdx 0=x1::r:=rfl;rw[e3]at hS
   refine Gn λw hS=>?_;have gF:=hS.cell (b:=lp) (o:=0) (cs:=eM (.slice ua (x1::r).length uc) tv dp g.base g.size) (t:=186) Xh rfl;refine⟨⟨rfl,ua,uc,x1::r,(d'.remove x0.file).1,rfl,λs hs=>Dp s (by simp at hs ⊢;exact .inr hs),by simp at hlen ⊢;omega,uI,by simp at Jd ⊢;omega,aW hS⟩,?_⟩;dsimp only;rw[gF,xq];simp
  rw[mh,zzb h2];have hS:=gH (aW hS);exact cC hS
 have mh:gJ (cZ.map dL.pl) d' n=((cZ.map dL.pl,d'),0):=by
  match cZ,h1 with
  | [],_=>rfl
  | [x],_=>rfl
  | _::_::_,h1=>simp at h1;omega
 rw[mh];have hS:=gH (aW hS);exact cC hS
def qu(lp dp:Nat)(g:cU)(d:DS){M N:Nat}(tz:0<=g.base)(Ff:g.base<=12288)(cH:d.Ok N)(hR:d.R.length<=100000):
  SP 195 [Δ lp] [.ob (dd lp dp g),.ob (bX dp d)] (λv post=>post=[.ob (bR v 3 1 (fN g.base d.R).length ((fN g.base d.R).map (Value.int .i64))),.ob (dd lp dp g),.ob (bX dp d)]):=by
 refine Enzz λW F w hS=>?_;apply cGo;delta MX aI bU ai bI;obtain⟨sv,tv,xs,hx,hS⟩:=dd.iff.1 hS;refine Gp ?_;refine Cc (ZE dp d N cH hR) ?_;clear hS;rintro fl post rfl w hS;try simp only[app]at hS
 refine zu hS (t:=3) (sz:=1) (n:=d.R.length) (cells:=d.R.map λx=>Γ x.id) Xh ?_;have hS:SL W (.ob (bR Θ 3 1 (fN g.base (d.R.take 0)).length ((fN g.base (d.R.take 0)).map (Value.int .i64)))::_) w:=bR.nil hS;refine⟨λvs w=>∃(u:Ε) (i:Nat),i<=d.R.length/\vs=[u,Γ i]/\SL W (.ob (bR u 3 1 (fN g.base (d.R.take i)).length ((fN g.base (d.R.take i)).map (Value.int .i64)))::.pt lp (eM sv tv dp g.base g.size) 186::eK sv xs::.ob (ze dO xs)::.ob (fg tv g.dx)::.ob (bX dp d)::.ob (bR fl 3 1 d.R.length (d.R.map λx=>Γ x.id))::F) w,
  λvs _=>match vs with|[_,.int _ i]=>(d.R.length-i).toNat|_=>0,⟨Θ,0,by omega,rfl,aW hS⟩,?_⟩
 clear hS;rintro v3 v12 w ⟨u,i,hi,eU,hS⟩;cases eU;refine bZ (λh=>?_) (λh=>?_)
 ·have cz:i<d.R.length:=by omega
  have hu:(d.R.map λx=>Γ x.id)[i]?=some (Γ d.R[i].id):=by simp[cz]
  have cOd:(fN g.base (d.R.take i)).length<=100000:=by
   unfold fN;have:=yyp (λf=>decide (g.base<=f/\f<g.base+4096)) ((d.R.take i).map PF.id);rw[zzn,zzg]at this
   omega
  have ll:fN g.base (d.R.take (i+1))=fN g.base (d.R.take i)++if g.base<=d.R[i].id/\d.R[i].id<g.base+4096 then [d.R[i].id] else []:=by
   unfold fN;rw[ww4,zzc cz,zzt,yyv];congr 1;simp only[Option.toList_some,zzo,yy7,xx3,List.filter_nil,zzw]
  have nc:∀{w:Ζ} {u:Ε},(fN g.base (d.R.take (i+1))=fN g.base (d.R.take i))->SL W (.ob (bR u 3 1 (fN g.base (d.R.take i)).length ((fN g.base (d.R.take i)).map (Value.int .i64)))::.pt lp (eM sv tv dp g.base g.size) 186::eK sv xs::.ob (ze dO xs)::.ob (fg tv g.dx)::.ob (bX dp d)::.ob (bR fl 3 1 d.R.length (d.R.map λx=>Γ x.id))::F) w ->
    (∃(u':Ε) (i':Nat),i'<=d.R.length/\[u,Γ ((i+1:Nat):Int)]=[u',Γ i']/\SL W (.ob (bR u' 3 1 (fN g.base (d.R.take i')).length ((fN g.base (d.R.take i')).map (Value.int .i64)))::.pt lp (eM sv tv dp g.base g.size) 186::eK sv xs::.ob (ze dO xs)::.ob (fg tv g.dx)::.ob (bX dp d)::.ob (bR fl 3 1 d.R.length (d.R.map λx=>Γ x.id))::F) w):=λe h=>⟨_,i+1,by omega,rfl,by rw[e];exact h⟩
  refine yh hS (t:=3) Xh cz hu ?_;refine bZ (λh1=>?_) (λh1=>?_)
  ·refine bZ (λh2=>?_) (λh2=>?_)
   ·rw[zzd ⟨h1,h2⟩]at ll
    refine Gm λb w hS=>?_;refine zI (m:=1) (cs:=[Γ d.R[i].id]) hS Xr (kf hS .hd rfl) rfl rfl (by simp[Value.oneCell']) (by omega) (by omega) ?_;clear hS;intro v' w hS;have e1:(fN g.base (d.R.take i)).length+1=(fN g.base (d.R.take (i+1))).length:=by rw[ll,zza];rfl
    have e2:(fN g.base (d.R.take i)).map (Value.int .i64)++[Γ d.R[i].id]=(fN g.base (d.R.take (i+1))).map (Value.int .i64):=by rw[ll,zzt];rfl
    rw[e1,e2]at hS
    refine Gp ?_;exact⟨⟨v',i+1,by omega,rfl,aW hS⟩,by dsimp only;omega⟩
   rw[zzb (by omega),zz1]at ll
   refine Gp ?_;exact⟨nc ll hS,by dsimp only;omega⟩
  rw[zzb (by omega),zz1]at ll
  refine Gp ?_;exact⟨nc ll hS,by dsimp only;omega⟩
 have jO:i=d.R.length:=by omega
 subst jO;rw[zz4]at hS
 have hS:=(dd.iff (g:=g)).2 ⟨sv,tv,xs,hx,SL.b_ hS (t:=.pt lp (eM sv tv dp g.base g.size) 186::eK sv xs::.ob (ze dO xs)::.ob (fg tv g.dx)::.ob (bR v3 3 1 (fN g.base d.R).length ((fN g.base d.R).map (Value.int .i64)))::.ob (bX dp d)::F) Xi⟩;exact⟨_,rfl,aW hS⟩
def cBc(f:Nat):∀b:Φ,b.length<f->(∀p∈(jo b).1,p.length<=1048576)/\(jo b).1.length<=(jo b).2:=by
 induction f with
 | zero=>intro b h;omega
 | succ f ih=>
  intro b hb;cases h:gY b with
  | error e=>rw[DV h];exact⟨by simp,by simp⟩
  | ok x=>
   obtain⟨p,n⟩:=x;have h2:=D0 h;obtain⟨i1,i2⟩:=ih (b.drop n) (by rw[zzq];omega);rw[Gy h];refine⟨λq hq=>?_,?_⟩
   ·rcases zz0.1 hq with rfl|hq
    ·exact h2.2.2.1
    exact i1 q hq
   show (p::(jo (b.drop n)).1).length<=n+(jo (b.drop n)).2;rw[zzi];omega
def Wv{q:Φ}{f:Int}{l:List Φ}{n:Nat}(h:gX q=some (f,l,n)):1<=f/\f<=1099511627776/\n<=q.length/\l.length<=q.length/\∀p∈l,p.length<=1048576:=by
 obtain⟨h1,h2⟩:=cBc (q.length+1) q (by omega);have h3:=cBb (q.length+1) q (by omega);unfold gX at h;split at h
 ·cases h
 rename_i hd l' hs;rw[hs]at h1 h2
 cases hh:pc hd with
 | none=>rw[hh]at h;cases h
 | some k=>
  rw[hh]at h
  cases h;have hk:1<=f/\f<=1099511627776:=by
   unfold pc at hh;split at hh
   ·unfold Fl at hh;split at hh
    ·split at hh
     ·rename_i hc;cases hh;exact⟨hc.2.1,hc.2.2⟩
     cases hh
    cases hh
   cases hh
  refine⟨hk.1,hk.2,h3,?_,λp hp=>h1 p (.tail _ hp)⟩;rw[zzi]at h2;omega
def p_(R:List PF)(base:Int)(N:Nat):Prop:=∀x∈R,base<=x.id->x.id<base+4096->x.b.length<=N
def p_.all{R:List PF}{N:Nat}(h:∀x∈R,x.b.length<=N)(base:Int):p_ R base N:=λx hx _ _=>h x hx
def p_.at_{R:List PF}{base:Int}{N:Nat}(h:p_ R base N){f:Int}(hf:base<=f/\f<base+4096):∀x,dK PF.id R f=some x->x.b.length<=N:=λx hx=>by
 obtain⟨h1,h2⟩:=uq hx;have h2:x.id=f:=h2;exact h x h1 (by omega) (by omega)
def Vf{L:List c_}{R:List PF}{f:Int}{last:Bool}{M N:Nat}(hR:∀x,dK PF.id R f=some x->x.b.length<=N)(hN:N<=M)(f0:0<=f)(f1:f<=100000)(hL:∀s∈L,kY s M):(∀s∈(jb L R f last).2,kY s M)/\(jb L R f last).2.length<=L.length+1:=by
 have hq:(((dK PF.id R f).map PF.b).getD []).length<=N:=by
  cases hg:dK PF.id R f with
  | none=>simp
  | some x=>exact hR x hg
 unfold jb;generalize ((dK PF.id R f).map PF.b).getD []=q at *
 simp only;cases hr:gX q with
 | none=>exact⟨hL,by simp⟩
 | some y=>
  obtain⟨k,l,n⟩:=y;have:=Wv hr;simp only;split
  ·exact⟨hL,by simp⟩
  refine⟨λs hs=>?_,by simp⟩;rcases zz5.1 hs with hs|hs
  ·exact hL s hs
  rw[zz7.1 hs];exact⟨f0,f1,this.1,this.2.1,by show n<=M;omega,by show l.length<=M;omega,this.2.2.2.2⟩
def QE(lp dp:Nat)(g:cU)(d:DS)(f:Int)(last:Bool){M B N:Nat}(hg:g.Ok M)(hM:M<=1000000000000)(cH:d.Ok B)(hB:B<=140737488355328)(hfN:∀x,dK PF.id d.R f=some x->x.b.length<=N)(hN:N<=10000000000):
  SP 196 [Δ lp,Γ f,.bool last] [.ob (dd lp dp g),.ob (bX dp d)] (cE (.tuple #[.bool (jb g.bF d.R f last).1.1,.bool (jb g.bF d.R f last).1.2]) [.ob (dd lp dp {g with bF:=(jb g.bF d.R f last).2}),.ob (bX dp d)]):=by
 refine Enzz λW F w hS=>?_;apply cGp;delta MY aI bU a_ aR bV cL Hg ai bI;obtain⟨sv,tv,xs,hx,hS⟩:=dd.iff.1 hS;obtain⟨Bl,j7,hh0,Fx⟩:=hg.xs hx;have lh:cI (xs.map dL.pl)=cI g.bF:=by rw[hx]
 have Fv:g.bF.length=xs.length:=by rw[<- hx,zzn]
 refine Gp ?_;refine Cc (Z9 dp d B cH hB f) ?_;clear hS;rintro r post hQ w hS;have hq:(((dK PF.id d.R f).map PF.b).getD []).length<=N:=by
  cases hg:dK PF.id d.R f with
  | none=>simp
  | some x=>exact hfN x hg
 have vK:jb g.bF d.R f last=match gX (((dK PF.id d.R f).map PF.b).getD []) with
  | none=>((false,last),g.bF)
  | some (first,l,n)=>if (last=false/\(n≠(((dK PF.id d.R f).map PF.b).getD []).length\/l.length=0))\/(0<g.bF.length/\first≠cI g.bF+1)\/1099511627776<first+l.length-1 then ((true,false),g.bF)
   else ((true,true),g.bF++[⟨f,first,n,l⟩]):=rfl
 have dJ:∃(X:Μ) (a:Option Addr) (c:Nat) (bb:Bool),r= .tuple #[.slice a (((dK PF.id d.R f).map PF.b).getD []).length c,.bool bb]/\dS X (.slice a (((dK PF.id d.R f).map PF.b).getD []).length c) (((dK PF.id d.R f).map PF.b).getD [])/\SL W (X::.ob (bX dp d)::.pt lp (eM sv tv dp g.base g.size) 186::eK sv xs::.ob (ze dO xs)::.ob (fg tv g.dx)::F) w:=by
  unfold B' at hQ;cases hg:dK PF.id d.R f with
  | none=>
   rw[hg]at hQ
   obtain⟨rfl,rfl⟩:=hQ;try simp only[app]at hS
   exact⟨.mem bw.emp,none,0,false,rfl,dS.nil,SL.b_ hS.JT Xi⟩
  | some x=>
   rw[hg]at hQ
   obtain⟨u,rfl,rfl⟩:=hQ;try simp only[app]at hS
   obtain⟨a,c,rfl,_⟩:=bR.at hS (v:=u) (t:=5) (sz:=1) (n:=x.b.length) (cells:=x.b.map cX) Xh;exact⟨.ob (bR (.slice a x.b.length c) 5 1 x.b.length (x.b.map cX)),a,c,true,rfl,dS.own,aW hS⟩
 clear hS hQ;obtain⟨X,a,c,bb,rfl,hX,hS⟩:=dJ;rw[vK];clear vK;generalize ((dK PF.id d.R f).map PF.b).getD []=q at *
 refine Gp ?_;refine Cc (Y9 X _ q hX (by omega)) ?_;clear hS;rintro r post hQ w hS;unfold Ec at hQ;cases hr:gX q with
 | none=>
  rw[hr]at hQ
  obtain⟨rfl,rfl⟩:=hQ;(try simp only[app]at hS);refine Gp ?_
  refine za (λ_=>?_) (λh=>absurd (by decide) h);have hS:=(dd.iff (g:=g)).2 ⟨sv,tv,xs,hx,SL.b_ hS (t:=.pt lp (eM sv tv dp g.base g.size) 186::eK sv xs::.ob (ze dO xs)::.ob (fg tv g.dx)::.ob (bX dp d)::F) Xi⟩;exact cC hS
 | some y=>
  obtain⟨first,l,n⟩:=y;have uI:=Wv hr;rw[hr]at hQ
  obtain⟨u,es,he,rfl,rfl⟩:=hQ;try simp only[app]at hS
  have vD:l.length=es.length:=by rw[<- he,Aw]
  obtain⟨ua,uc,rfl,_⟩:=dt.at hS (v:=u) .hd;obtain⟨r1,r2,r3,r4,r5⟩:=uI;simp only[vD,Fv];have cOz:kY (dL.pl ⟨f,first,n,es,ua,uc⟩) M\/True:=.inr trivial;refine Gp ?_;refine za (λh=>absurd rfl h) (λ_=>?_);refine Gm λb w hS=>?_;obtain⟨sb,rfl⟩:∃k,k=b:=⟨b,rfl⟩;obtain⟨I,hI⟩:∃I:Ξ->Ζ->Prop,I=λvs w=>∃bad:Bool,vs=[.bool bad]/\(bad=true↔((last=false/\(n≠q.length\/es.length=0))\/(0<xs.length/\first≠cI g.bF+1)\/1099511627776<first+es.length-1)) /\
   SL W (.pt sb [Γ f,Γ first,Γ n,.slice ua es.length uc] 268::.ob (dt (.slice ua es.length uc) 205 1 es.length (gx es))::.ob (ze gK es)::.ob (bX dp d)::.pt lp (eM sv tv dp g.base g.size) 186::eK sv xs::.ob (ze dO xs)::.ob (fg tv g.dx)::F) w:=⟨_,rfl⟩
  refine⟨I,?_,?_⟩
  ·have gG:∀(w:Ζ) (K:Ε->Ζ->Prop),¬(last=false/\(n≠q.length\/es.length=0))->SL W (.pt sb [Γ f,Γ first,Γ n,.slice ua es.length uc] 268::.ob (dt (.slice ua es.length uc) 205 1 es.length (gx es))::.ob (ze gK es)::.ob (bX dp d)::.pt lp (eM sv tv dp g.base g.size) 186::eK sv xs::.ob (ze dO xs)::.ob (fg tv g.dx)::F) w ->
     (∀(bad:Bool) w,(bad=true↔((last=false/\(n≠q.length\/es.length=0))\/(0<xs.length/\first≠cI g.bF+1)\/1099511627776<first+es.length-1))->SL W (.pt sb [Γ f,Γ first,Γ n,.slice ua es.length uc] 268::.ob (dt (.slice ua es.length uc) 205 1 es.length (gx es))::.ob (ze gK es)::.ob (bX dp d)::.pt lp (eM sv tv dp g.base g.size) 186::eK sv xs::.ob (ze dO xs)::.ob (fg tv g.dx)::F) w->K (.bool bad) w) ->
     (qa (Δ lp) λv54=>zl 0 v54 λv55=>zl 0 v55 λv56=>cn v56 w λv57=>zd v57 λv58=>zc .gtr v58 (Γ 0) λv59=>
      dm v59
      (qa (Δ lp) λv63=>zl 0 v63 λv64=>aF 101 [v64] w λv65 K4=>zc .add v65 (Γ 1) λv66=>zc .neq (Γ first) v66 λv67=>
       dm v67 (K (.bool true) K4)
       (zg 4 (Δ sb) K4 λv71=>aF 152 [v71] K4 λv72 w_6=>zc .sub v72 (Γ 1) λv73=>zc .gtr v73 (Γ 1099511627776) λv74=>K v74 w_6))
      (zg 4 (Δ sb) w λcD4=>aF 152 [cD4] w λcD5 w_7=>zc .sub cD5 (Γ 1) λcD7=>zc .gtr cD7 (Γ 1099511627776) λcD9=>K cD9 w_7)):=by
    intro w K hn hS hK;clear bb;refine Gp ?_;refine zJ hS (v:=sv) (t:=268) (sz:=4) (n:=xs.length) (cells:=(xs.map fC).flatten) Xh ?_;refine bZ (λh1=>?_) (λh1=>?_)
    ·refine Gp ?_;refine Cg (yf lp (eM sv tv dp g.base g.size) 186 sv xs rfl Bl (by omega) (by omega)) λw hS=>?_;rw[lh];refine za (λh2=>?_) (λh2=>?_)
     ·refine hK true _ ⟨λ_=>.inr (.inl ⟨by omega,by omega⟩),λ_=>rfl⟩ (aW hS)
     refine Gp ?_;refine Cg (yU f first n ua es.length uc (by omega) (by omega)) λw hS=>?_;refine hK _ _ ⟨λh=>.inr (.inr (by simpa using h)),λh=>?_⟩ (aW hS);rcases h with h|h|h
     ·exact absurd h hn
     ·omega
     simpa using h
    refine Gp ?_;refine Cg (yU f first n ua es.length uc (by omega) (by omega)) λw hS=>?_;refine hK _ _ ⟨λh=>.inr (.inr (by simpa using h)),λh=>?_⟩ (aW hS);rcases h with h|h|h
    ·exact absurd h hn
    ·omega
    simpa using h
   cases last with
   | false=>
    refine z7 ?_;refine zq ?_;refine bZ (λh1=>?_) (λh1=>?_)
    ·rw[hI];exact⟨true,rfl,⟨λ_=>.inl ⟨rfl,.inl (by omega)⟩,λ_=>rfl⟩,aW hS⟩
    refine bZ (λh2=>?_) (λh2=>?_)
    ·rw[hI];exact⟨true,rfl,⟨λ_=>.inl ⟨rfl,.inr (by omega)⟩,λ_=>rfl⟩,aW hS⟩
    exact gG w (λv w=>I [v] w) (by omega) (aW hS) (λbad w hb h=>by rw[hI];exact⟨bad,rfl,hb,h⟩)
   | true=>
    refine z7 ?_;refine zp ?_;exact gG w (λv w=>I [v] w) (by simp) (aW hS) (λbad w hb h=>by rw[hI];exact⟨bad,rfl,hb,h⟩)
  clear hS;rw[hI];rintro v75 w ⟨bad,eU,fF,hS⟩;cases eU;cases bad with
  | true=>
   refine zq ?_;rw[zzd (fF.1 rfl)];have hS:=(dd.iff (g:=g)).2 ⟨sv,tv,xs,hx,SL.b_ hS (t:=.pt lp (eM sv tv dp g.base g.size) 186::eK sv xs::.ob (ze dO xs)::.ob (fg tv g.dx)::.ob (bX dp d)::F) Xi⟩;exact cC hS
  | false=>
   refine zp ?_;rw[zzb (λh=>by have:=fF.2 h;cases this)];refine Gm λb w hS=>?_;refine ZP (t:=268) (sz:=4) (n:=xs.length) (cells:=(xs.map fC).flatten) (m:=1) (cs:=[Γ f,Γ first,Γ n,.slice ua es.length uc]) hS Xr (kf hS .hd rfl) rfl rfl (by simp[Value.oneCell']) (by omega) (by omega) ?_;clear hS;intro jS w hS;have tG:=dt.one hS (v:=jS) .hd;refine Gn λw hS=>?_;have hS:=(dO.iff (x:=⟨f,first,n,es,ua,uc⟩)).2 (SL.b_ hS (t:=.ob (dt (.slice ua es.length uc) 205 1 es.length (gx es))::.ob (ze gK es)::.ob (ze dO xs)::.ob (bX dp d)::.pt lp (eM jS tv dp g.base g.size) 186::.ob (dt jS 268 4 (xs.length+1) ((xs.map fC).flatten++[Γ f,Γ first,Γ n,.slice ua es.length uc]))::.ob (fg tv g.dx)::F) Xi);have hS:=ze.snoc (hS.b_ (t:=.ob (ze dO xs)::.ob (dO ⟨f,first,n,es,ua,uc⟩)::.ob (bX dp d)::.pt lp (eM jS tv dp g.base g.size) 186::.ob (dt jS 268 4 (xs.length+1) ((xs.map fC).flatten++[Γ f,Γ first,Γ n,.slice ua es.length uc]))::.ob (fg tv g.dx)::F) Xi);have e1:xs.length+1=(xs++[(⟨f,first,n,es,ua,uc⟩:dL)]).length:=by simp
   have e2:(xs.map fC).flatten++[Γ f,Γ first,Γ n,.slice ua es.length uc]=((xs++[(⟨f,first,n,es,ua,uc⟩:dL)]).map fC).flatten:=by simp[fC,dL.lv]
   rw[e1,e2]at hS
   have oD:(xs++[(⟨f,first,n,es,ua,uc⟩:dL)]).map dL.pl=g.bF++[⟨f,first,n,l⟩]:=by
    rw[zzt,hx];simp[dL.pl,he]
   have hS:=(dd.iff (g:={g with bF:=g.bF++[⟨f,first,n,l⟩]})).2 ⟨jS,tv,xs++[⟨f,first,n,es,ua,uc⟩],oD,SL.b_ hS (t:=.pt lp (eM jS tv dp g.base g.size) 186::eK jS (xs++[⟨f,first,n,es,ua,uc⟩])::.ob (ze dO (xs++[⟨f,first,n,es,ua,uc⟩]))::.ob (fg tv g.dx)::.ob (bX dp d)::F) Xi⟩;exact cC hS
def qc(lp dp:Nat)(g:cU)(d:DS)(iv:Ε)(ids:Ω)(whole:Bool){M N:Nat}(hg:g.Ok M)(hM:M<=1000000000000)(cH:d.Ok N)(hN:N<=140737488355328)(dV:d.ops<=100000)(dQ:whole=true->ids≠[]->g.bF≠[])(cz:ids.length<=100000):
  SP 197 [Δ lp,iv,.bool whole] [.ob (dd lp dp g),.ob (bX dp d),.ob (bR iv 3 1 ids.length (ids.map (Value.int .i64)))]
   (cE (Γ (iG g.bF d ids whole).2) [.ob (dd lp dp g),.ob (bX dp (iG g.bF d ids whole).1),.ob (bR iv 3 1 ids.length (ids.map (Value.int .i64)))]):=by
 refine Enzz λW F w hS=>?_;apply cGq;delta MZ aI bU a_ bV cL ai;obtain⟨sv,tv,xs,hx,hS⟩:=dd.iff.1 hS;obtain⟨Bl,j7,_,_⟩:=hg.xs hx;have gH:∀{w:Ζ} {d':DS},SL W (.pt lp (eM sv tv dp g.base g.size) 186::eK sv xs::.ob (ze dO xs)::.ob (fg tv g.dx)::.ob (bX dp d')::.ob (bR iv 3 1 ids.length (ids.map (Value.int .i64)))::F) w->SL W (.ob (dd lp dp g)::.ob (bX dp d')::.ob (bR iv 3 1 ids.length (ids.map (Value.int .i64)))::F) w:=λh=>(dd.iff (g:=g)).2 ⟨_,tv,_,hx,h⟩;refine zu hS (v:=iv) (t:=3) (sz:=1) (n:=ids.length) (cells:=ids.map (Value.int .i64)) Xh ?_;refine bZ (λh=>?_) (λh=>?_)
 ·have:ids=[]:=zzl (by omega);subst this;have hS:=gH (aW hS);exact⟨_,⟨rfl,rfl⟩,hS⟩
 have hj:ids.length-1<ids.length:=by omega
 have Fv:ids.getLast?=some (ids[ids.length-1]'hj):=by rw[xx7,zzc hj]
 have bV1:ids≠[]:=λe=>by rw[e]at h;simp at h
 have hu:(ids.map (Value.int .i64))[ids.length-1]?=some (Γ (ids[ids.length-1]'hj)):=by simp[hj]
 generalize (ids[ids.length-1]'hj)=f at *
 refine zu hS (v:=iv) (t:=3) (sz:=1) (n:=ids.length) (cells:=ids.map (Value.int .i64)) Xh ?_;refine Gp ?_;have e:((ids.length:Nat):Int)-1=((ids.length-1:Nat):Int):=by omega
 rw[e];refine yh hS (v:=iv) (t:=3) Xh hj hu ?_;cases whole with
 | false=>
  have hb:iG g.bF d ids false=d.remove f:=by unfold iG;rw[Fv];rfl
  rw[hb];refine z7 ?_;refine zq ?_;refine Gp ?_;refine Cg (yO dp d N cH dV f) λw hS=>?_;have hS:=gH (aW hS);exact⟨_,⟨rfl,rfl⟩,hS⟩
 | true=>
  have hb:iG g.bF d ids true=if lO g.bF<gn d.R f then d.cut f (lO g.bF) else (d,0):=by unfold iG;rw[Fv];rfl
  rw[hb];refine z7 ?_;refine zp ?_;have hn:=dQ rfl bV1;have hle:0<xs.length:=by
   rcases yyu xs.length with h0|h0
   ·rw[<- hx,zzl h0]at hn;exact absurd rfl hn
   exact h0
  have oB:xs.length-1<xs.length:=by omega
  have I6:lO g.bF=((xs[xs.length-1]'oB).size:Nat):=by
   unfold lO;rw[<- hx,uun,xx7,zzc oB];rfl
  rw[I6];refine Gn λw hS=>?_;refine zJ hS (v:=sv) (t:=268) (sz:=4) (n:=xs.length) (cells:=(xs.map fC).flatten) Xh ?_;refine Gp ?_;have e:((xs.length:Nat):Int)-1=((xs.length-1:Nat):Int):=by omega
  rw[e];refine Y4 (i:=2) hS Xh oB (u:=Γ ((xs[xs.length-1]'oB).size:Nat)) rfl ?_;generalize (xs[xs.length-1]'oB).size=z at *
  refine Gp ?_;refine Cg (YD dp d f) λw hS=>?_;refine za (λh1=>?_) (λh1=>?_)
  ·rw[zzd h1];refine Gp ?_;refine Cg (Zs dp d N cH (by omega) dV f (z:Int)) λw hS=>?_;have hS:=gH (aW hS);exact⟨_,⟨rfl,rfl⟩,hS⟩
  rw[zzb h1];have hS:=gH (aW hS);exact⟨_,⟨rfl,rfl⟩,hS⟩
def B9(dp:Nat)(y:DS × Except Int cU)(r:Ε)(post:Β):Prop:=match y.2 with
 | .error e=>e≠0/\r= .tuple #[.pointer none,Γ e]/\post=[.ob (bX dp y.1)]
 | .ok g=>∃lp:Nat,r= .tuple #[Δ lp,Γ 0]/\post=[.ob (dd lp dp g),.ob (bX dp y.1)]
def Vh{R:List PF}{M N:Nat}{base:Int}(hR:p_ R base N)(hN:N<=M)(b0:0<=base)(b1:base<=12288):∀(ids:Ω) (prev:Option Int) (L:List c_) (wh:Bool) (k:Nat),(∀f∈ids,base<=f/\f<base+4096)->(∀s∈L,kY s M)->L.length<=k->∀{L' Af},lP R ids prev L wh=some (L',Af)->(∀s∈L',kY s M)/\L'.length<=k+ids.length
 | [],prev,L,wh,k,_,hL,hk,L',Af,h=>by
  cases h;exact⟨hL,by simpa using hk⟩
 | f::r,prev,L,wh,k,hf,hL,hk,L',Af,h=>by
  rw[Br]at h
  obtain⟨f0,f1⟩:=hf f (.head _);obtain⟨k1,k2⟩:=Vf (last:=r.isEmpty) (hR.at_ ⟨f0,f1⟩) hN (by omega) (by omega) hL;split at h
  ·cases h
  split at h
  ·cases h
  have:=Vh hR hN b0 b1 r _ _ _ (k+1) (λx hx=>hf x (.tail _ hx)) k1 (by omega) h;exact⟨this.1,by simp at this ⊢;omega⟩
def UK{base:Int}{R:List PF}{f:Int}(h:f∈fN base R):base<=f/\f<base+4096:=by
 unfold fN at h;have:=(yyz.1 h).2;simpa using this
def UJ(base:Int)(R:List PF):(fN base R).length<=R.length:=by
 unfold fN;have:=yyp (λf=>decide (base<=f/\f<base+4096)) (R.map PF.id)
 rwa [zzn]at this
def cnw{d d':DS}{base size:Int}{N:Nat}(hw:p_ d.R base N)(hR:d.R.length<=100000){g:cU}(h:eN d base size=(d',.ok g)):g.Ok (N+100000)/\d.off=false:=by
 unfold eN at h;split at h
 ·cases h
 rename_i hb;split at h
 ·cases h
 rename_i ho;split at h
 ·cases h
 rename_i L wh hl;obtain⟨k1,k2⟩:=Vh (M:=N+100000) hw (by omega) (by omega) (by omega) _ _ [] _ 0 (λf hf=>UK hf) (by simp) (by simp) hl;have:=UJ base d.R;have hL:(⟨L,base,size,none⟩:cU).Ok (N+100000):=⟨k1,by show 0<=base;omega,by show base<=12288;omega,by show 64<=size;omega,by show size<=65536;omega,by show L.length<=_;omega⟩;split at h
 ·cases h
 cases h;exact⟨hL,by simpa using ho⟩
def V9(dp:Nat)(d:DS)(base size:Int){N B:Nat}(cH:d.Ok B)(hB:B<=140737488355328)(hw:p_ d.R base N)(hN:N<=1000000000)(hR:d.R.length<=100000)(dV:d.ops<=100000):
  SP 138 [Δ dp,Γ base,Γ size] [.ob (bX dp d)] (B9 dp (eN d base size)):=by
 refine Enzz λW F w hS=>?_;apply cE4;delta LY aI cL ai cT bI;by_cases ID:base<0\/12288<base\/size<64\/65536<size
 ·have e:eN d base size=(d,.error 1):=by unfold eN;rw[zzd ID]
  rw[e];have hE:∀{w:Ζ},SL W (.ob (bX dp d)::F) w->∃post,B9 dp (d,.error 1) (.tuple #[.pointer none,Γ 1]) post/\SL W (app post F) w:=λh=>⟨_,⟨by decide,rfl,rfl⟩,h⟩;refine Gp ?_;refine za (λh=>hE hS) (λh1=>?_);refine Gp ?_;refine za (λh=>hE hS) (λh2=>?_);refine Gp ?_;refine za (λh=>hE hS) (λh3=>?_);refine Gp ?_;refine za (λh=>hE hS) (λh4=>by omega)
 refine Gp ?_;refine za (λh=>by omega) (λ_=>?_);refine Gp ?_;refine za (λh=>by omega) (λ_=>?_);refine Gp ?_;refine za (λh=>by omega) (λ_=>?_);refine Gp ?_;refine za (λh=>by omega) (λ_=>?_);refine Cg (zM dp d) λw hS=>?_;refine yT (λho=>?_) (λho=>?_)
 ·have e:eN d base size=(d,.error 8):=by unfold eN;rw[zzb ID,zzd ho]
  rw[e];exact⟨_,⟨by decide,rfl,rfl⟩,hS⟩
 have eo:eN d base size=match lP d.R (fN base d.R) none [] true with
  | none=>(d,.error 3)
  | some (L,whole)=>if (iG L d (fN base d.R) whole).2≠0 then ((iG L d (fN base d.R) whole).1,.error (iG L d (fN base d.R) whole).2) else ((iG L d (fN base d.R) whole).1,.ok ⟨L,base,size,none⟩):=by
  unfold eN;rw[zzb ID,zzb (by rw[ho];decide)];rfl
 rw[eo];have hi:∀f∈fN base d.R,base<=f/\f<base+4096:=λf hf=>UK hf;have cz:=UJ base d.R;refine Gp ?_;refine⟨_,rfl,zC hS ?_⟩;clear hS;intro lp w hS;have hS:=(Aq (v:=.pointer none)).2 ⟨rfl,hS⟩;have hS:=dt.rJ (a:=none) (t:=268) (sz:=4) hS;have hS:=ze.nil (A:=dO) hS;have hS:=SL.b_ hS (t:=.pt lp (eM Θ (.pointer none) dp base size) 186::.ob (dt Θ 268 4 0 [])::.ob (ze dO [])::.ob (fg (.pointer none) none)::.ob (bX dp d)::F) Xi;have hS:=(dd.iff (g:=⟨[],base,size,none⟩)).2 ⟨_,_,[],rfl,hS⟩;refine Cc (qu lp dp ⟨[],base,size,none⟩ d (M:=0) (N:=B) (by show 0<=base;omega) (by show base<=12288;omega) cH hR) ?_;clear hS;rintro iv post rfl w hS;(try simp only[app]at hS);generalize vG:fN base d.R=ids at *
 refine zu hS (v:=iv) (t:=3) (sz:=1) (n:=ids.length) (cells:=ids.map (Value.int .i64)) Xh ?_;refine⟨λvs w=>∃(wh:Bool) (i:Nat) (L:List c_),i<=ids.length/\vs=[.bool wh,Γ i]/\lP d.R ids none [] true=lP d.R (ids.drop i) (if i=0 then none else ids[i-1]?) L wh/\(∀s∈L,kY s (N+100000))/\L.length<=i/\(wh=true->0<i->L≠[])/\SL W (.ob (dd lp dp ⟨L,base,size,none⟩)::.ob (bX dp d)::.ob (bR iv 3 1 ids.length (ids.map (Value.int .i64)))::F) w,
  λvs _=>match vs with|[_,.int _ i]=>(ids.length-i).toNat|_=>0,⟨true,0,[],by omega,rfl,rfl,by simp,by simp,λ_ h=>by omega,aW hS⟩,?_⟩
 clear hS;rintro v10 v43 w ⟨wh,i,L,tB,eU,lk,Te,Iy,hwh,hS⟩;cases eU;have Td:(⟨L,base,size,none⟩:cU).Ok (N+100000):=⟨Te,by show 0<=base;omega,by show base<=12288;omega,by show 64<=size;omega,by show size<=65536;omega,by show L.length<=_;omega⟩;refine bZ (λh1=>?_) (λh1=>?_)
 ·have hj:i<ids.length:=by omega
  have hu:(ids.map (Value.int .i64))[i]?=some (Γ ids[i]):=by simp[hj]
  have tA:=hi _ (zzh hj);rw[yyq hj,Br]at lk
  refine yh hS (v:=iv) (t:=3) Xh hj hu ?_;refine zu hS (v:=iv) (t:=3) (sz:=1) (n:=ids.length) (cells:=ids.map (Value.int .i64)) Xh ?_;refine Gp ?_;have nc:decide (((i:Nat):Int)=((ids.length:Nat):Int)-1)=(ids.drop (i+1)).isEmpty:=by
   rw[uuw,uuf,List.isEmpty_iff,List.drop_eq_nil_iff];omega
  rw[nc];obtain⟨k1,k2⟩:=Vf (L:=L) (f:=ids[i]) (last:=(ids.drop (i+1)).isEmpty) (M:=N+100000) (hw.at_ tA) (by omega) (by omega) (by omega) Te;have rA:(jb L d.R ids[i] (ids.drop (i+1)).isEmpty).1.1=true->(jb L d.R ids[i] (ids.drop (i+1)).isEmpty).1.2=true->(jb L d.R ids[i] (ids.drop (i+1)).isEmpty).2≠[]:=by
   unfold jb;simp only;split
   ·intro h;cases h
   split
   ·intro _ h;cases h
   intro _ _;simp
  refine Cg (QE lp dp ⟨L,base,size,none⟩ d ids[i] (ids.drop (i+1)).isEmpty Td (by omega) cH hB (hw.at_ tA) (by omega)) λw hS=>?_;generalize hLG:jb L d.R ids[i] (ids.drop (i+1)).isEmpty=y at *
  obtain⟨⟨is,ok⟩,L2⟩:=y;simp only at hS lk k1 k2 rA ⊢;cases ok with
  | false=>
   refine zq ?_;rw[zzd rfl]at lk
   rw[lk];exact⟨_,⟨by decide,rfl,rfl⟩,aW hS⟩
  | true=>
   refine zp ?_;rw[zzb (by decide)]at lk
   have rz:∀{w:Ζ},(¬vu (if i=0 then none else ids[i-1]?) ids[i]=true)->SL W (.ob (dd lp dp ⟨L2,base,size,none⟩)::.ob (bX dp d)::.ob (bR iv 3 1 ids.length (ids.map (Value.int .i64)))::F) w ->
     ∃(wh:Bool) (i':Nat) (L:List c_),i'<=ids.length/\[Value.bool is,Γ ((i+1:Nat):Int)]=[.bool wh,Γ i']/\lP d.R ids none [] true=lP d.R (ids.drop i') (if i'=0 then none else ids[i'-1]?) L wh/\(∀s∈L,kY s (N+100000))/\L.length<=i'/\(wh=true->0<i'->L≠[])/\SL W (.ob (dd lp dp ⟨L,base,size,none⟩)::.ob (bX dp d)::.ob (bR iv 3 1 ids.length (ids.map (Value.int .i64)))::F) w:=by
    intro w hp hS;refine⟨is,i+1,L2,by omega,rfl,?_,k1,by omega,λh _=>rA h rfl,hS⟩;rw[zzb hp]at lk
    rw[lk,zzb (by omega),Nat.add_sub_cancel,zzc hj]
   refine bZ (λh2=>?_) (λh2=>?_)
   ·have tC:i-1<ids.length:=by omega
    have uA:=hi _ (zzh tC);refine Gp ?_;have e:((i:Nat):Int)-1=((i-1:Nat):Int):=by omega
    rw[e];have Jp:(ids.map (Value.int .i64))[i-1]?=some (Γ (ids[i-1]'tC)):=by simp[tC]
    refine yh hS (v:=iv) (t:=3) Xh tC Jp ?_;have Ug:vu (if i=0 then none else ids[i-1]?) ids[i]=decide (ids[i]≠(ids[i-1]'tC)+1):=by
     rw[zzb (by omega),zzc tC];rfl
    refine bZ (λh3=>?_) (λh3=>?_)
    ·rw[zzd (by rw[Ug];simpa using h3)]at lk
     rw[lk];exact⟨_,⟨by decide,rfl,rfl⟩,aW hS⟩
    refine Gp ?_;exact⟨rz (by rw[Ug];simpa using h3) (aW hS),by dsimp only;omega⟩
   refine Gp ?_;have vF:i=0:=by omega
   exact⟨rz (by rw[zzd vF];simp[vu]) (aW hS),by dsimp only;omega⟩
 have jO:i=ids.length:=by omega
 rw[jO,vv3]at lk
 rw[lk];simp only[lP];have Ts:=HC (L:=L) (ids:=ids) (wh:=wh) cH;refine Cg (qc lp dp ⟨L,base,size,none⟩ d iv ids wh Td (by omega) cH (by omega) dV (λh dQ=>hwh h (by rw[jO];exact xx9.2 dQ)) (by omega)) λw hS=>?_;simp only at hS ⊢;refine za (λh2=>?_) (λh2=>?_)
 ·rw[zzd h2];exact⟨_,⟨h2,rfl,rfl⟩,aW hS⟩
 rw[zzb h2];exact⟨_,⟨lp,rfl,rfl⟩,aW hS⟩
def QH(dp:Nat)(d:DS)(base size:Int){N:Nat}(cH:d.Ok N)(hN:N<=1000000000)(hR:d.R.length<=100000)(dV:d.ops<=100000):
  SP 138 [Δ dp,Γ base,Γ size] [.ob (bX dp d)] (B9 dp (eN d base size)):=
 V9 dp d base size cH (by omega) (p_.all cH.len base) hN hR dV
section
variable (lp dp:Nat) (g:cU) {M:Nat} (hg:g.Ok M) (hM:M<=1000000000000)
include hg hM
def ZZ:SP 101 [Δ lp] [.ob (dd lp dp g)] (cE (Γ (cI g.bF)) [.ob (dd lp dp g)]):=by
 intro W F w hS;obtain⟨sv,tv,xs,hx,hS⟩:=dd.iff.1 hS;obtain⟨h1,h2,_,_⟩:=hg.xs hx;refine yH (yf lp (eM sv tv dp g.base g.size) 186 sv xs rfl h1 (by omega) (by omega)) hS Xp ?_;rintro v post ⟨rfl,rfl⟩ w hS;try simp only[app]at hS
 rw[hx];exact⟨_,⟨rfl,rfl⟩,dd.iff.2 ⟨sv,tv,xs,hx,aW hS⟩⟩
def Zu:SP 102 [Δ lp] [.ob (dd lp dp g)] (cE (Γ (fj g.bF)) [.ob (dd lp dp g)]):=by
 intro W F w hS;obtain⟨sv,tv,xs,hx,hS⟩:=dd.iff.1 hS;obtain⟨h1,h2,_,_⟩:=hg.xs hx;refine yH (bZe lp (eM sv tv dp g.base g.size) 186 sv xs rfl (by omega)) hS Xp ?_;rintro v post ⟨rfl,rfl⟩ w hS;try simp only[app]at hS
 rw[hx];exact⟨_,⟨rfl,rfl⟩,dd.iff.2 ⟨sv,tv,xs,hx,aW hS⟩⟩
def Ya(n:Int)(hn : -9000000000000000000<=n/\n<=9000000000000000000):SP 136 [Δ lp,Γ n] [.ob (dd lp dp g)] (Eb [.ob (dd lp dp g)] (mN g.bF n)):=by
 intro W F w hS;obtain⟨sv,tv,xs,hx,hS⟩:=dd.iff.1 hS;obtain⟨h1,h2,_,_⟩:=hg.xs hx;refine yH (QP lp (eM sv tv dp g.base g.size) 186 sv xs n rfl h1 (by omega) (by omega) hn) hS Xp ?_;intro r post hQ w hS;rw[hx]at hQ
 cases hr:mN g.bF n with
 | none=>
  rw[hr]at hQ
  obtain⟨rfl,rfl⟩:=hQ;try simp only[app]at hS
  exact⟨_,⟨rfl,rfl⟩,dd.iff.2 ⟨sv,tv,xs,hx,aW hS⟩⟩
 | some b=>
  rw[hr]at hQ
  obtain⟨u,rfl,rfl⟩:=hQ;try simp only[app]at hS
  have hS:=(dd.iff (g:=g)).2 ⟨sv,tv,xs,hx,SL.b_ hS (t:=.pt lp (eM sv tv dp g.base g.size) 186::eK sv xs::.ob (ze dO xs)::.ob (fg tv g.dx)::.ob (bR u 5 1 b.length (b.map cX))::F) Xi⟩;exact⟨_,⟨u,rfl,rfl⟩,aW hS⟩
end
def V8{d d':DS}{base size:Int}{N:Nat}(hw:p_ d.R base N)(hR:d.R.length<=100000){g:cU}(h:eN d base size=(d',.ok g)):iu g (N+100000):=by
 have hk:=(cnw hw hR h).1;unfold eN at h;split at h
 ·cases h
 split at h
 ·cases h
 split at h
 ·cases h
 rename_i L wh hl;obtain⟨k1,k2⟩:=Vi _ _ [] _ trivial (by decide) hl;split at h
 ·cases h
 cases h;exact⟨hk,k1,k2,λx hx=>by cases hx⟩
def J9{d d':DS}{base size:Int}{N:Nat}(cH:d.Ok N)(hR:d.R.length<=100000){g:cU}(h:eN d base size=(d',.ok g)):iu g (N+100000):=V8 (p_.all cH.len base) hR h
def UP:∀(l:Α) (a N:Nat),a<=N->l.Pairwise (· < ·)->(∀x∈l,a<=x/\x<N)->l.length+a<=N
 | [],a,N,h,_,_=>by simpa using h
 | x::l,a,N,_,hp,hx=>by
  have h1:=hx x (.head _);obtain⟨nP,pW⟩:=yyg.1 hp;have:=UP l (x+1) N (by omega) pW λy hy=>⟨nP y hy,(hx y (.tail _ hy)).2⟩;rw[zzi];omega
def DS.Ok.DQ{s:DS}{N:Nat}(h:s.Ok N):s.R.length<=16384:=by
 have hs:(s.R.map λx=>x.id.toNat).Pairwise (· < ·):=by
  rw[ww1];refine List.Pairwise.imp_of_mem (λ{a b} ha hb de=>?_) h.sorted;have h1:=h.ids a ha;have h2:=h.ids b hb;have de:a.id<b.id:=de;omega
 have:=UP _ 0 16384 (by decide) hs λn hn=>by
  obtain⟨x,hx,rfl⟩:=zzx.1 hn;have:=h.ids x hx;omega
 simpa using this
abbrev iL(b:Nat):Ε:=Δ b
abbrev nT(gp dp lp pp:Nat)(aw:Int)(rv:Ε):Ξ:=[iL gp,iL dp,iL lp,iL pp,Γ aw,rv]
def db(kp gp dp lp pp:Nat)(H:bw)(k:cM):zB:=jK λrv:Ε=>zG (ji H rv k.reqs) [.pt kp (nT gp dp lp pp k.aw rv) 90,.ob (gu gp k.ts),.ob (dd lp dp k.g),.ob (gD pp k.plan),.ob (bX dp k.d)]
section
variable {W w:Ζ} {l F:Β} {kp gp dp lp pp:Nat} {H:bw} {k:cM}
def db.iff:SL W (.ob (db kp gp dp lp pp H k)::l) w↔∃rv,ji H rv k.reqs/\SL W (.pt kp (nT gp dp lp pp k.aw rv) 90::.ob (gu gp k.ts)::.ob (dd lp dp k.g)::.ob (gD pp k.plan)::.ob (bX dp k.d)::l) w:=by
 unfold db;simp only[SL.ex,SL.fact,zzv,zzr]
def db.put(k:cM){rv:Ε}(hS:SL W l w)(hr:ji H rv k.reqs)(p:gC [.pt kp (nT gp dp lp pp k.aw rv) 90,.ob (gu gp k.ts),.ob (dd lp dp k.g),.ob (gD pp k.plan),.ob (bX dp k.d)] l F):SL W (.ob (db kp gp dp lp pp H k)::F) w:=db.iff.2 ⟨rv,hr,hS.pick p⟩
def db.eS{g:cU}{d:DS}{ts:List (List Cell)}{plan:List fT}{aw:Int}{reqs:List Rq}{rv:Ε}(hS:SL W l w)(hr:ji H rv reqs)(p:gC [.pt kp (nT gp dp lp pp aw rv) 90,.ob (gu gp ts),.ob (dd lp dp g),.ob (gD pp plan),.ob (bX dp d)] l F):SL W (.ob (db kp gp dp lp pp H ⟨g,d,ts,plan,aw,reqs⟩)::F) w:=db.iff.2 ⟨rv,hr,hS.pick p⟩
def db.mono{H':bw}(hh:H.le H')(h:SL W (.ob (db kp gp dp lp pp H k)::l) w):SL W (.ob (db kp gp dp lp pp H' k)::l) w:=by
 obtain⟨rv,hr,hS⟩:=db.iff.1 h;exact db.iff.2 ⟨rv,hr.mono hh,hS⟩
def db.je{W w:Ζ}{l F:Β}{H H':bw}{kp gp dp lp pp:Nat}{k:cM}(hh:H.le H')(hS:SL W l w)(r:gd (.ob (db kp gp dp lp pp H k)) l F):SL W (.ob (db kp gp dp lp pp H' k)::F) w:=db.mono hh (hS.perm r.perm)
def db.open(hS:SL W l w)(r:gd (.ob (db kp gp dp lp pp H k)) l F):∃rv,ji H rv k.reqs/\SL W (.pt kp (nT gp dp lp pp k.aw rv) 90::.ob (gu gp k.ts)::.ob (dd lp dp k.g)::.ob (gD pp k.plan)::.ob (bX dp k.d)::F) w:=db.iff.1 (hS.perm r.perm)
end
structure B5(k:cM)(N m:Nat):Prop where
 g:iu k.g N
 d:k.d.Ok N
 le:N<=1000000000
 ops:k.d.ops<=80000
 pl:k.plan.length<=1024
 mL:∀f∈k.plan,jc f=true
 ts:k.ts.length<=8
 ok:sO k.ts
 room:small k.ts (4096*m)
 rq:k.reqs.length<=64
def Ao(o:Option (List Rq))(H:bw)(u:Ε):Prop:=match o with
 | none=>∃x,u= .tuple #[x,.bool false]
 | some L=>∃x,u= .tuple #[x,.bool true]/\ji H x L
def VO{L L':List Rq}{n:ix}(h:oG L n=some L'):L'.length<=64:=by
 unfold oG at h;split at h
 ·exact (EA h).1
 split at h
 ·rename_i L2 h2;split at h
  ·cases h;exact (Cj h2).1
  cases h
 cases h
def QA(H:bw)(v:Ε)(L:List Rq)(n:ix)(hv:ji H v L)(hL:L.length<=64)(hn:lr n.id):
  SP 277 [v,agg (kO n)] [.mem H] (λu post=>∃H',H.le H'/\Ao (oG L n) H' u/\post=[.mem H']):=by
 refine Enzz λW F w hS=>?_;apply cIj;delta N5 aI a_ aR ai;refine zw hS λb w hS=>?_;obtain⟨kind,id,table,weight,at_,dA,done⟩:=n;have hn:lr id:=hn;unfold kO at hS;unfold oG;refine bZ (λhk=>?_) (λhk=>?_)
 ·rw[zzd hk];refine Gp ?_;refine Cc (ZH H v L id dA done hv (by omega) hn) ?_;clear hS;rintro u post ⟨H',hh,rfl,hq⟩ w hS;simp only;cases hc:l6 L id dA done with
  | none=>
   rw[hc]at hq
   obtain rfl:=hq;(try simp only[app]at hS);refine Gp ?_
   exact⟨_,⟨H',hh,⟨_,rfl⟩,rfl⟩,aW hS⟩
  | some L'=>
   rw[hc]at hq
   obtain⟨x,rfl,hx⟩:=hq;(try simp only[app]at hS);refine Gp ?_
   exact⟨_,⟨H',hh,⟨_,rfl,hx⟩,rfl⟩,aW hS⟩
 rw[zzb hk];refine Gp ?_;refine Cc (Zl H v L table weight at_ hv (by omega)) ?_;clear hS;rintro u post ⟨H',hh,rfl,hq⟩ w hS;simp only;cases hc:pD L table weight at_ with
 | none=>
  rw[hc]at hq
  obtain rfl:=hq;refine Gn λw hS=>?_;exact⟨_,⟨H',hh,⟨_,rfl⟩,rfl⟩,aW hS⟩
 | some L'=>
  rw[hc]at hq
  obtain⟨x,rfl,hx⟩:=hq;refine Gn λw hS=>?_;refine zo hx ?_;refine Gp ?_;by_cases he:id=(L'.length:Int)
  ·rw[zzm he];exact⟨_,⟨H',hh,(by simp only;rw[zzd he];exact⟨_,rfl,hx⟩),rfl⟩,aW hS⟩
  rw[zz2 he];exact⟨_,⟨H',hh,(by simp only;rw[zzb he];exact⟨_,rfl⟩),rfl⟩,aW hS⟩
def bIk{n:Nat}{L:List Rq}{t:cD}{i:Nat}(hi:i<t.ops.length)(h:(n:Int)<=t.ops[i].table):gb n L t=none:=by
 unfold gb;rw[zzb];rintro ⟨_,h2⟩;unfold sS at h2;rw[zz3]at h2
 have:=zzp (h2 _ (zzh hi));omega
def cCw{n:Nat}{t:cD}(h:∀j (hj:j<t.ops.length),t.ops[j].table<(n:Int)):sS n t=true:=by
 unfold sS;rw[zz3];intro o ho;obtain⟨j,hj,rfl⟩:=yyl ho;exact zzm (h j hj)
def b_0{L:List Rq}{l:List ix}{i:Nat}(h:i<l.length):fY L (l.drop i)=match oG L l[i] with|some L'=>fY L' (l.drop (i+1))|none=>none:=by
 rw[yyq h];rfl
structure B3(t:cD):Prop where
 ids:∀n∈t.notes,lr n.id
 ops:t.ops.length<=140737488351232
 iS:t.notes.length<=140737488351232
def Zt(kp gp dp lp pp:Nat)(H:bw)(k:cM)(x:iD)(t:cD)(hx:ie H x t)(hi:B3 t)(lK:k.reqs.length<=64):
  SP 202 [iL kp,agg (eP x)] [.ob (db kp gp dp lp pp H k),.mem H] (λu post=>∃H',H.le H'/\Ao (gb k.ts.length k.reqs t) H' u/\post=[.ob (db kp gp dp lp pp H' k),.mem H']):=by
 refine Enzz λW F w hS=>?_;apply cGv;delta M5 aI bU a_ aR cL ai cQ bI;refine zw hS λxb w hS=>?_;obtain⟨rv,hr,hS⟩:=db.open (k:=k) hS Xr;unfold eP at hS;rw[hx.aw]at hS
 have vN:=hi.ops;have nf:=hi.iS;refine Gp ?_;refine zo hx.ops ?_;obtain⟨F2,uv⟩:∃F2,F2= .ob (dd lp dp k.g)::.ob (gD pp k.plan)::.ob (bX dp k.d)::F:=⟨_,rfl⟩;have hS:=SL.b_ hS (t:=.pt kp (nT gp dp lp pp k.aw rv) 90::.ob (gu gp k.ts)::.pt xb [Γ t.aw,x.ov,x.nv] 214::.mem H::.ob (dd lp dp k.g)::.ob (gD pp k.plan)::.ob (bX dp k.d)::F) Xi;rw[<- uv]at hS
 have gH:∀{w:Ζ} {H':bw} {u:Ε},H.le H'->Ao (gb k.ts.length k.reqs t) H' u->SL W (.pt kp (nT gp dp lp pp k.aw rv) 90::.ob (gu gp k.ts)::.mem H'::F2) w->∃post,(∃H',H.le H'/\Ao (gb k.ts.length k.reqs t) H' u/\post=[.ob (db kp gp dp lp pp H' k),.mem H'])/\SL W (app post F) w:=λhh hq hS=>by
  rw[uv]at hS
  have hS:=db.put k hS (hr.mono hh) Xp;exact⟨_,⟨_,hh,hq,rfl⟩,aW hS⟩
 refine⟨λvs w=>∃i:Nat,vs=[Γ i]/\i<=t.ops.length/\(∀j (hj:j<t.ops.length),j<i->t.ops[j].table<(k.ts.length:Int))/\SL W (.pt kp (nT gp dp lp pp k.aw rv) 90::.ob (gu gp k.ts)::.pt xb [Γ t.aw,x.ov,x.nv] 214::.mem H::F2) w,
  λvs _=>match vs with|[.int _ i]=>(t.ops.length-i).toNat|_=>0,⟨0,rfl,by omega,λj hj h=>by omega,hS⟩,?_⟩
 clear hS;rintro GM w ⟨i,eU,cz,eF,hS⟩;cases eU;refine bZ (λh=>?_) (λh=>?_)
 ·have cz:i<t.ops.length:=by omega
  refine zD hS Xh wV hx.ops (x:=t.ops[i]) (by simp[cz]) cz ?_;refine Gm λb w hS=>?_;refine Cg (qL gp k.ts) λw hS=>?_;refine za (λh2=>?_) (λh2=>?_)
  ·refine gH (bw.le_refl H) ?_ (aW hS);rw[bIk cz h2];exact⟨_,rfl⟩
  refine Gp ?_;refine⟨⟨i+1,rfl,by omega,λj hj i_=>?_,aW hS⟩,by dsimp only;omega⟩;by_cases e:j=i
  ·subst e;omega
  exact eF j hj (by omega)
 have vR:=cCw (n:=k.ts.length) (t:=t) λj hj=>eF j hj (by omega);clear eF;refine Gp ?_;refine zo hx.iS ?_;have uB:∀{o},fY k.reqs t.notes=o->eC t=true->gb k.ts.length k.reqs t=o:=λh hm=>by unfold gb;rw[zzd ⟨hm,vR⟩,h]
 have Fu:fY k.reqs t.notes=none->gb k.ts.length k.reqs t=none:=λh=>by unfold gb;split;exact h;rfl
 refine⟨λvs w=>∃(i:Nat) (L:List Rq) (u:Ε) (H2:bw),vs=[u,Γ i]/\i<=t.notes.length/\L.length<=64/\fY k.reqs t.notes=fY L (t.notes.drop i)/\H.le H2/\ji H2 u L/\SL W (.pt kp (nT gp dp lp pp k.aw rv) 90::.ob (gu gp k.ts)::.pt xb [Γ t.aw,x.ov,x.nv] 214::.mem H2::F2) w,
  λvs _=>match vs with|[_,.int _ i]=>(t.notes.length-i).toNat|_=>0,⟨0,k.reqs,rv,H,rfl,by omega,lK,rfl,bw.le_refl H,hr,aW hS⟩,?_⟩
 clear hS;rintro u v35 w ⟨i,L,_,H2,eU,cz,hL,fu,e_,hu,hS⟩;cases eU;have oD:=hx.mono e_;refine bZ (λh=>?_) (λh=>?_)
 ·have cz:i<t.notes.length:=by omega
  rw[b_0 cz]at fu
  refine zD hS Xh wU oD.iS (x:=t.notes[i]) (by simp[cz]) cz ?_;have hid:=hi.ids _ (zzh cz);generalize t.notes[i]=n at *
  refine Gm λb w hS=>?_;refine Cc (QA H2 u L n hu hL hid) ?_;clear hS;rintro u post ⟨H3,fE,hq,rfl⟩ w hS;cases hc:oG L n with
  | none=>
   rw[hc]at hq fu
   obtain⟨x,rfl⟩:=hq;(try simp only[app]at hS);refine Gp ?_
   refine zq ?_;refine gH (bw.le_trans e_ fE) ?_ (aW hS);rw[Fu fu];exact⟨_,rfl⟩
  | some L'=>
   have rn:=VO hc;rw[hc]at hq fu
   obtain⟨x,rfl,nh⟩:=hq;(try simp only[app]at hS);refine Gp ?_
   refine zp ?_;refine Gp ?_;exact⟨⟨i+1,L',x,H3,rfl,by omega,rn,fu,bw.le_trans e_ fE,nh,aW hS⟩,by dsimp only;omega⟩
 have jO:i=t.notes.length:=by omega
 subst jO;rw[vv3]at fu
 refine zA hS Xh rfl ?_;have e:([Γ t.aw,x.ov,x.nv]:Ξ)=eP x:=by unfold eP;rw[hx.aw]
 rw[e];refine Cg (zZ H2 x t oD) λw hS=>?_;refine gH e_ ?_ (aW hS);cases hm:eC t with
 | true=>rw[uB fu hm];exact⟨_,rfl,hu⟩
 | false=>rw[show gb k.ts.length k.reqs t=none by unfold gb;rw[hm];rfl];exact⟨_,rfl⟩
def qA(kp gp dp lp pp:Nat)(H:bw)(k:cM)(x:iD)(t:cD)(L:List Rq)(lv:Ε)(hx:ie H x t)(hl:ji H lv L)(hn:t.ops.length<=1000000)(hk:∀o∈t.ops,lr o.key):
  SP 203 [iL kp,agg (eP x),lv] [.ob (db kp gp dp lp pp H k),.mem H] (cE (.tuple #[]) [.ob (db kp gp dp lp pp H (k.AF t L)),.mem H]):=by
 refine Enzz λW F w hS=>?_;apply cGw;delta M6 bU a_ cV aR;refine zw hS λxb w hS=>?_;obtain⟨rv,hr,hS⟩:=db.open (k:=k) hS Xr;unfold eP at hS;rw[hx.aw]at hS
 have h1:=dq.one hl;refine Gn λw hS=>?_;refine Cg (bRe H gp k.ts x.ov t.ops hx.ops hn hk) λw hS=>?_;have hS:SL W (.ob (db kp gp dp lp pp H (k.AF t L))::_) _:=db.eS hS hl Xp;exact cC hS
structure B_(g:cU)(d:DS)(f n:Int)(es:List Φ)(p:Φ):Prop where
 off:d.off=false
 dx:oN d f n es p false
 m2:∀a,a≠1->0<=a->∃g2 d2,dc g {d with arm:=a}=((g2,d2),0)/\gA g2 d2 f n es/\0<=d2.arm/\(a=0->d2.arm=0)/\d2.ops=d.ops+1/\g2.bF=g.bF/\g2.base=g.base/\g2.size=g.size
 m1:∃d2,dc g {d with arm:=1}=((g,d2),8)/\d2.R=d.R/\d2.off=true/\d2.ops=d.ops+1
def cDg{g:cU}{d:DS}{f n:Int}{es:List Φ}(h:gA g d f n es){p:Φ}(hp:p.length<=1048576)(hn:n+es.length<=100000)(ha:0<=d.arm){k:Int}(hk:0<=k):
  (∃d',f_ g d p k=((g,d'),8)/\oN d' f n es p false/\d'.off=true/\d'.ops=d.ops+1/\d.arm=1) \/
  (∃g' d',f_ g d p k=((g',d'),0)/\B_ g' d' f n es p/\0<=d'.arm/\(d.arm=0->d'.arm=0)/\d'.ops=d.ops+1/\g'.bF=g.bF/\g'.base=g.base/\g'.size=g.size):=by
 obtain⟨x,A,l0,pre,dW,hr⟩:=Gf h hp hn;have gT:=h.off;have hm:dc g d=((g,d),0):=by unfold dc;rw[h.dx]
 obtain⟨j6,f0,f1⟩:=hr.may h gT
 let t:=x.b.take (k.toNat % x.b.length)
 let d1:DS:={d.cA with R:=kN d.R x.file t}
 have de:k.toNat % x.b.length<x.b.length:=vvg _ hr.pos;have hT:oN d1 f n es p false:=hr.dx hp (m:=k.toNat % x.b.length) (by omega) (λ_=>de) (by rw[<- h.files]);by_cases h1:d.arm=1
 ·left;have e:d.cA.off=true:=by simp[DS.cA,h1]
  have e2:d.cA.err=8:=by unfold DS.err;rw[e];rfl
  refine⟨d1,?_,hT,e,by simp[DS.cA,d1],h1⟩;unfold f_;rw[zzb (by omega),gT,dW];simp only[hm];rw[zzb (by simp),append_eq j6,e2,zzd (by simp)]
 right;have e:d.cA.off=false:=by simp[DS.cA,h1]
 have e2:d.cA.err=0:=by unfold DS.err;rw[e];rfl
 have tw:=hr.app t;rw[<- h.files]at tw
 have nL:pz f (A.map eD++[⟨x.file,pre.length,pre++t⟩]):=hr.chain.s_.snoc (by rw[zzn];exact hr.file);have jG:d1.R=A.map eD++[⟨x.file,pre.length,pre++t⟩]:=tw;have m_:∀a,DS.find {d1 with arm:=a} x.file=0:=λa=>by
  unfold DS.find;rw[zzb (by rw[(hr.may h (d':={d1 with arm:=a}) e).1];simp)];have hs:=nL.sorted;show (if iA PF.id d1.R x.file=true then (0:Int) else 5)=0;rw[jG,zzd (Dx (x:=⟨x.file,pre.length,pre++t⟩) hs)]
 have o7:0<=d1.arm:=by show 0<=if 0<d.arm then d.arm-1 else d.arm;split<;>omega
 have AY:∀a,(DS.cA {d1 with arm:=a}).off=decide (a=1):=λa=>rfl;refine⟨{g with dx:=some ⟨x.file,if x.fresh=true then 0 else lO g.bF,x.fresh⟩},d1,?_,⟨e,hT,λa l9 tu=>?_,?_⟩,o7,λh0=>by simp[DS.cA,d1,h0],by simp[DS.cA,d1],rfl,rfl,rfl⟩
 ·exact cC8 hk (by rw[gT];exact dW) hm (by rw[append_eq j6,e2])
 ·have xr:(DS.cA {d1 with arm:=a}).off=false:=by rw[AY];exact zz2 l9
  have vB:0<=(DS.cA {d1 with arm:=a}).arm/\(a=0->(DS.cA {d1 with arm:=a}).arm=0):=by
   show (0<=if 0<a then a-1 else a)/\(a=0->(if 0<a then a-1 else a)=0);split<;>omega
  unfold dc;simp only;cases uB:x.fresh with
  | true=>
   obtain⟨hA,pX⟩:=hr.fresh uB;have xL:DS.remove {d1 with arm:=a} x.file=({DS.cA {d1 with arm:=a} with R:=A.map eD},0):=by
    unfold DS.remove;rw[zzb (by simp[m_]),zzb (by simp[xr])];have:jE PF.id d1.R x.file=A.map eD:=by rw[jG,Sd (x:=⟨x.file,pre.length,pre++t⟩) nL.sorted]
    exact yyt (λR=>(({DS.cA {d1 with arm:=a} with R:=R},0):DS × Int)) this
   simp only[wwj,xL];refine⟨_,_,rfl,⟨h.chain,h.gy,by show A.map eD=_;rw[hA],h.nil,h.base,h.b0,h.b1,h.s0,h.s1,h.n1,h.fi,xr,rfl⟩,vB.1,vB.2,by simp[DS.cA],rfl,rfl,rfl⟩
  | false=>
   obtain⟨hA,fX⟩:=hr.nU uB;have hlen:gn d1.R x.file=(pre++t).length:=by
    unfold gn;rw[jG,CL (x:=⟨x.file,pre.length,pre++t⟩) nL.sorted]
   have CX:DS.cut {d1 with arm:=a} x.file (pre.length:Nat)=({DS.cA {d1 with arm:=a} with R:=g.bF.map eD},0):=by
    unfold DS.cut;rw[zzb (by simp[m_]),zzb (by show ¬((pre.length:Int)<0\/gn d1.R x.file<pre.length);rw[hlen,zza];omega),zzb (by simp[xr])];have:ki d1.R x.file (jj pre.length)=g.bF.map eD:=by
     rw[jG,KX (x:=⟨x.file,pre.length,pre++t⟩) nL.sorted,hA];simp only[jj,ww0,Nat.min_self]
    rw[zzy];exact yyt (λR=>(({DS.cA {d1 with arm:=a} with R:=R},0):DS × Int)) this
   simp only[xxe,wwb,fX,CX,wwj];refine⟨_,_,rfl,⟨h.chain,h.gy,rfl,h.nil,h.base,h.b0,h.b1,h.s0,h.s1,h.n1,h.fi,xr,rfl⟩,vB.1,vB.2,by simp[DS.cA],rfl,rfl,rfl⟩
 have xr:(DS.cA {d1 with arm:=1}).off=true:=rfl;unfold dc;simp only;cases uB:x.fresh with
 | true=>
  have xL:DS.remove {d1 with arm:=1} x.file=(DS.cA {d1 with arm:=1},8):=by
   unfold DS.remove;rw[zzb (by simp[m_]),zzd xr]
  simp only[wwj,xL];exact⟨_,rfl,rfl,rfl,by simp[DS.cA]⟩
 | false=>
  obtain⟨hA,fX⟩:=hr.nU uB;have hlen:gn d1.R x.file=(pre++t).length:=by
   unfold gn;rw[jG,CL (x:=⟨x.file,pre.length,pre++t⟩) nL.sorted]
  have CX:DS.cut {d1 with arm:=1} x.file (pre.length:Nat)=(DS.cA {d1 with arm:=1},8):=by
   unfold DS.cut;rw[zzb (by simp[m_]),zzb (by show ¬((pre.length:Int)<0\/gn d1.R x.file<pre.length);rw[hlen,zza];omega),zzd xr]
  simp only[xxe,wwb,fX,CX];exact⟨_,rfl,rfl,rfl,by simp[DS.cA]⟩
def cDi{g g1:cU}{d d1:DS}{p:Φ}{k:Int}(hk:0<=k)(hm:dc g d=((g1,d1),0))(hs:g1.bF=g.bF)(hb:g1.base=g.base)(hz:g1.size=g.size)(ho:d.off=false)(vN:d1.off=false)(ht:g1.dx=none):f_ g d p k=f_ g1 d1 p k\/∃e,eQ g1 false p= .error e:=by
 cases hx:eQ g1 false p with
 | error e=>exact .inr ⟨e,rfl⟩
 | ok x=>
  left;have hp:eQ g false p=eQ g1 false p:=by
   unfold eQ mE;rw[hs,hb,hz]
  have vL:dc g1 d1=((g1,d1),0):=by unfold dc;rw[ht]
  unfold f_;rw[ho,vN,hp,hx];simp only[hm,vL,hs,hb,hz];rw[zzb (show ¬k<0 by omega),zzb (show ¬k<0 by omega)]
def cDh{g:cU}{d d2:DS}{p:Φ}{k:Int}(hk:0<=k){x:ig}(hx:eQ g d.off p= .ok x)(hm:dc g d=((g,d2),8)):f_ g d p k=((g,d2),8):=by
 unfold f_;rw[zzb (by omega),hx];simp only[hm];rw[zzd (by decide)]
def aIo{g:cU}{d d2:DS}{p:Φ}{x:ig}(hx:eQ g d.off p= .ok x)(hm:dc g d=((g,d2),8)):eO g d p=((g,d2),(0,8)):=by
 unfold eO;rw[hx];simp only[hm];rw[zzd (by decide)]
def Gd{g g1:cU}(hs:g1.bF=g.bF)(hb:g1.base=g.base)(hz:g1.size=g.size)(off:Bool)(p:Φ):eQ g off p=eQ g1 off p:=by
 unfold eQ mE;rw[hs,hb,hz]
def St(g:cU)(d:DS)(es:List Φ)(m:Option Φ):Prop:=
 (gA g d 8192 1 es/\g.base=8192)\/((∃p,B_ g d 8192 1 es p)/\g.base=8192)\/(d.off=true/\∃q w,oN d 8192 1 es q w/\(w=true->m=some q))
def St.append{g:cU}{d:DS}{es:List Φ}{m:Option Φ}(h:St g d es m)(ha:0<=d.arm)(ho:d.off=false){p:Φ}(hp:p.length<=1048576)(hl:es.length<=1000):
  (∃g' d',eO g d p=((g',d'),((1+es.length:Int),0))/\gA g' d' 8192 1 (es++[p])/\g'.base=8192/\d'.ops<=d.ops+3/\(d.arm=0->d'.arm=0)) \/
  (∃g' d',eO g d p=((g',d'),(0,8))/\St g' d' es (some p)/\d'.off=true/\d'.ops<=d.ops+3/\d.arm≠0):=by
 have C8:∀{g:cU} {d:DS},gA g d 8192 1 es->g.base=8192->0<=d.arm->(∃g' d',eO g d p=((g',d'),((1+es.length:Int),0))/\gA g' d' 8192 1 (es++[p])/\g'.base=8192/\d'.ops<=d.ops+2/\(d.arm=0->d'.arm=0)) \/
   (∃g' d',eO g d p=((g',d'),(0,8))/\St g' d' es (some p)/\d'.off=true/\d'.ops<=d.ops+2/\d.arm≠0):=by
  intro g d h1 h2 ha;rcases aIn h1 hp (by omega) (by rw[h2];omega) ha with ⟨g',d',e,k1,k2,k3,k4,k5,_⟩|⟨d',e,k1,k2,k3,k4⟩
  ·exact .inl ⟨g',d',e,k1,by rw[k5,h2],by omega,k4⟩
  exact .inr ⟨g,d',e,.inr (.inr ⟨k2,p,true,k1,λ_=>rfl⟩),k2,k3,k4⟩
 rcases h with ⟨h1,h2⟩|⟨⟨q,h1⟩,h2⟩|⟨h1,_⟩
 ·rcases C8 h1 h2 ha with ⟨g',d',e,k1,k2,k3,k4⟩|⟨g',d',e,k1,k2,k3,k4⟩
  ·exact .inl ⟨g',d',e,k1,k2,by omega,k4⟩
  exact .inr ⟨g',d',e,k1,k2,by omega,k4⟩
 ·obtain⟨g0,d0,m0,l0,_,_,_,s0,b0,z0⟩:=h1.m2 0 (by decide) (by decide);obtain⟨x,_,_,_,dW,_⟩:=Gf l0 hp (by omega);rw[<- Gd s0 b0 z0]at dW
  by_cases l9:d.arm=1
  ·obtain⟨d2,e,r1,r2,r3⟩:=h1.m1;have e:dc g d=((g,d2),8):=by rw[<- e,<- l9]
   exact .inr ⟨g,d2,aIo (by rw[ho];exact dW) e,.inr (.inr ⟨r2,q,false,h1.dx.sW r1,λh=>by cases h⟩),r2,by omega,by omega⟩
  obtain⟨g2,d2,e,l2,a2,a3,o2,s2,b2,z2⟩:=h1.m2 d.arm l9 ha;have e:dc g d=((g2,d2),0):=e;have Je:eQ g2 false p= .ok x:=by rw[<- Gd s2 b2 z2];exact dW
  rw[aIp e s2 b2 z2 ho l2.off l2.dx Je];rcases C8 l2 (by rw[b2,h2]) a2 with ⟨g',d',e,k1,k2,k3,k4⟩|⟨g',d',e,k1,k2,k3,k4⟩
  ·exact .inl ⟨g',d',e,k1,k2,by omega,λh=>k4 (a3 h)⟩
  exact .inr ⟨g',d',e,k1,k2,by omega,λh=>k4 (a3 h)⟩
 rw[ho]at h1;cases h1
def St.cC5{g:cU}{d:DS}{es:List Φ}{m:Option Φ}(h:St g d es m)(ha:0<=d.arm)(ho:d.off=false){p:Φ}(hp:p.length<=1048576)(hl:es.length<=1000){k:Int}(hk:0<=k):
  ∃g' d' e,f_ g d p k=((g',d'),e)/\St g' d' es none/\d'.ops<=d.ops+2/\((e=0/\d'.off=false/\(d.arm=0->d'.arm=0))\/(e=8/\d'.off=true/\d.arm≠0)):=by
 have C8:∀{g:cU} {d:DS},gA g d 8192 1 es->g.base=8192->0<=d.arm->∃g' d' e,f_ g d p k=((g',d'),e)/\St g' d' es none/\d'.ops<=d.ops+1/\((e=0/\d'.off=false/\(d.arm=0->d'.arm=0))\/(e=8/\d'.off=true/\d.arm≠0)):=by
  intro g d h1 h2 ha;rcases cDg h1 hp (by omega) ha hk with ⟨d',e,k1,k2,k3,k4⟩|⟨g',d',e,k1,k2,k3,k4,k5,k6,k7⟩
  ·exact⟨g,d',8,e,.inr (.inr ⟨k2,p,false,k1,λh=>by cases h⟩),by omega,.inr ⟨rfl,k2,by omega⟩⟩
  exact⟨g',d',0,e,.inr (.inl ⟨⟨p,k1⟩,by rw[k6,h2]⟩),by omega,.inl ⟨rfl,k1.off,k3⟩⟩
 rcases h with ⟨h1,h2⟩|⟨⟨q,h1⟩,h2⟩|⟨h1,_⟩
 ·obtain⟨g',d',e,k1,k2,k3,k4⟩:=C8 h1 h2 ha;exact⟨g',d',e,k1,k2,by omega,k4⟩
 ·obtain⟨g0,d0,m0,l0,_,_,_,s0,b0,z0⟩:=h1.m2 0 (by decide) (by decide);obtain⟨x,_,_,_,dW,_⟩:=Gf l0 hp (by omega);rw[<- Gd s0 b0 z0]at dW
  by_cases l9:d.arm=1
  ·obtain⟨d2,e,r1,r2,r3⟩:=h1.m1;have e:dc g d=((g,d2),8):=by rw[<- e,<- l9]
   exact⟨g,d2,8,cDh hk (by rw[ho];exact dW) e,.inr (.inr ⟨r2,q,false,h1.dx.sW r1,λh=>by cases h⟩),by omega,.inr ⟨rfl,r2,by omega⟩⟩
  obtain⟨g2,d2,e,l2,a2,a3,o2,s2,b2,z2⟩:=h1.m2 d.arm l9 ha;have e:dc g d=((g2,d2),0):=e;have Je:eQ g2 false p= .ok x:=by rw[<- Gd s2 b2 z2];exact dW
  rcases cDi (p:=p) (k:=k) hk e s2 b2 z2 ho l2.off l2.dx with h3|⟨e',h3⟩
  ·rw[h3];obtain⟨g',d',e,k1,k2,k3,k4⟩:=C8 l2 (by rw[b2,h2]) a2;refine⟨g',d',e,k1,k2,by omega,?_⟩;rcases k4 with ⟨k5,k6,k7⟩|⟨k5,k6,k7⟩
   ·exact .inl ⟨k5,k6,λh=>k7 (a3 h)⟩
   exact .inr ⟨k5,k6,λh=>k7 (a3 h)⟩
  rw[Je]at h3;cases h3
 rw[ho]at h1;cases h1
def St.open{g:cU}{d:DS}{es:List Φ}{m:Option Φ}(h:St g d es m)(keep:Ω)(hl:es.length<=1000){size:Int}(s0:64<=size)(s1:size<=65536):
  ∃g2 d2 iP,eN (d.ed keep) 8192 size=(d2,.ok g2)/\gA g2 d2 8192 1 iP/\g2.base=8192/\d2.arm=0/\d2.ops<=d.ops+1/\(iP=es\/∃p,m=some p/\iP=es++[p]):=by
 have Us:∀{q w},oN d 8192 1 es q w->∃g2 d2 iP,eN (d.ed keep) 8192 size=(d2,.ok g2)/\gA g2 d2 8192 1 iP/\g2.base=8192/\d2.arm=0/\d2.ops<=d.ops+1/\(iP=es\/(w=true/\iP=es++[q])):=by
  intro q w hT;obtain⟨g2,d2,iP,h1,h2,h3,h4,h5,h6,h7⟩:=cDn hT keep (base:=8192) (size:=size) (by decide) (by decide) s0 s1 (by decide) (by omega) (by decide) (by omega) ⟨rfl,rfl⟩;exact⟨g2,d2,iP,h1,h2,h5,h3,h4,h7⟩
 rcases h with ⟨h1,h2⟩|⟨⟨q,h1⟩,h2⟩|⟨h1,q,w,h2,h3⟩
 ·have hR:(d.ed keep).R=g.bF.map eD:=by show eY d.R keep=_;rw[h1.files,RU]
  have hle:=h1.chain.sK;rw[h1.gy]at hle
  have:=Ka (d:=d.ed keep) (base:=8192) (size:=size) h1.chain hR rfl (by decide) (by decide) s0 s1 (by decide) (by omega) (by decide) (by rw[h1.gy];omega);exact⟨_,_,es,this,⟨h1.chain,h1.gy,hR,λ_=>⟨rfl,rfl⟩,yyf _,(by decide:(0:Int)<=8192),(by decide:(8192:Int)<=12288),s0,s1,by decide,by show (8192:Int)+es.length+2<=8192+4096;omega,rfl,rfl⟩,rfl,rfl,Nat.le_succ _,.inl rfl⟩
 ·obtain⟨g2,d2,iP,k1,k2,k3,k4,k5,k6⟩:=Us h1.dx;rcases k6 with k6|⟨k6,_⟩
  ·exact⟨g2,d2,iP,k1,k2,k3,k4,k5,.inl k6⟩
  cases k6
 obtain⟨g2,d2,iP,k1,k2,k3,k4,k5,k6⟩:=Us h2;rcases k6 with k6|⟨k6,k7⟩
 ·exact⟨g2,d2,iP,k1,k2,k3,k4,k5,.inl k6⟩
 exact⟨g2,d2,iP,k1,k2,k3,k4,k5,.inr ⟨q,h3 k6,k7⟩⟩
def gA.st{g:cU}{d:DS}{es:List Φ}(h:gA g d 8192 1 es)(hb:g.base=8192)(m:Option Φ):St g d es m:=.inl ⟨h,hb⟩
def iT.head{L:List c_}(h:iT L)(hL:L≠[]):cI L=fj L+(cR L).length-1:=by
 induction L with
 | nil=>exact absurd rfl hL
 | cons s r ih=>
  cases r with
  | nil=>simp[cI,fj,cR,c_.next]
  | cons t r=>
   have h1:=ih h.2 (by simp);have h2:cI (s::t::r)=cI (t::r):=by simp only[cI,uui]
   have h3:=h.1;rw[h2,h1,pJ s (t::r),zza];simp only[c_.next]at h3;show fj (t::r)+_-1=s.first+_-1;have:fj (t::r)=t.first:=rfl;rw[this];omega
def iT.read:∀{L:List c_},iT L->∀i:Nat,mN L (fj L+i)=(cR L)[i]?
 | [],_,i=>by simp[mN,cR]
 | [s],_,i=>by
  have e:fj [s]=s.first:=rfl;rw[e,mN,pJ];have he:cR []=([]:List Φ):=rfl;rw[he,zz1];by_cases h:i<s.l.length
  ·rw[zzd ⟨by omega,by show s.first+i<s.first+s.l.length;omega⟩];congr 1;omega
  rw[zzb (by rintro ⟨_,h2⟩;have h2:s.first+i<s.first+s.l.length:=h2;omega),yys (by omega)];rfl
 | s::t::r,h,i=>by
  have e:fj (s::t::r)=s.first:=rfl;have e2:fj (t::r)=t.first:=rfl;have h1:=h.1;simp only[c_.next]at h1;rw[e,mN,pJ];by_cases hi:i<s.l.length
  ·rw[zzd ⟨by omega,by show s.first+i<s.first+s.l.length;omega⟩,zzs hi];congr 1;omega
  rw[zzb (by rintro ⟨_,h2⟩;have h2:s.first+i<s.first+s.l.length:=h2;omega),yyb (by omega)];have:=iT.read h.2 (i-s.l.length);rw[e2]at this
  rw[<- this];congr 1;omega
def runT(cO:Nat):List cD->Tr->Option Tr
 | [],t=>some t
 | x::r,t=>match stepT cO t x with
  | some t'=>runT cO r t'
  | none=>none
def DR(cO:Nat):∀(xs:List cD) (x:cD) (t t1:Tr),runT cO xs t=some t1->runT cO (xs++[x]) t=stepT cO t1 x
 | [],x,t,t1,h=>by
  cases h;show (match stepT cO t x with|some t'=>runT cO [] t'|none=>none)=_;cases stepT cO t x<;>rfl
 | y::xs,x,t,t1,h=>by
  have h:(match stepT cO t y with|some t'=>runT cO xs t'|none=>none)=some t1:=h;show (match stepT cO t y with|some t'=>runT cO (xs++[x]) t'|none=>none)=_;cases hs:stepT cO t y with
  | none=>rw[hs]at h;cases h
  | some t'=>rw[hs]at h;exact DR cO xs x t' t1 h
def Ry{x:cD}(h:eC x=true):nH (gl x)= .ok x:=by
 obtain⟨b,e1,e2⟩:=R9 h;unfold gl;rw[e1];exact e2
def Cn{x:cD}(h:eC x=true):(gl x).length<=29+x.ops.length*71+x.notes.length*63/\(gl x).length<=306973:=by
 obtain⟨b,e1,_⟩:=R9 h;have:=bFg h e1;obtain⟨h0,_⟩:=oF.1 h;unfold gl;rw[e1];show b.length<=_/\b.length<=_;omega
def Wz(cO:Nat):∀(xs:List cD) (t:Tr),(∀x∈xs,eC x=true)->tS cO (xs.map gl) t=runT cO xs t
 | [],_,_=>rfl
 | x::xs,t,h=>by
  rw[zzo,tS,Ry (h x (.head _))];show _=(match stepT cO t x with|some t'=>runT cO xs t'|none=>none);simp only;cases stepT cO t x with
  | none=>rfl
  | some t'=>exact Wz cO xs t' λy hy=>h y (.tail _ hy)
structure iX(cO:Nat)(k:cM)(xs:List cD)(m:Option cD):Prop where
 st:St k.g k.d (xs.map gl) (m.map gl)
 may:∀x∈xs,eC x=true
 run:runT cO xs (rQ cO)=some k.tr
 len:k.ts.length=cO
 K6:∀x,m=some x->eC x=true/\∃t,stepT cO k.tr x=some t
def iX.plan{cO:Nat}{k:cM}{xs:List cD}{m:Option cD}(h:iX cO k xs m)(p:List fT):iX cO {k with plan:=p} xs m:=⟨h.st,h.may,h.run,h.len,h.K6⟩
def KM{cO:Nat}{t:Tr}{x:cD}{L:List Rq}(hf:gb cO t.2.1 x=some L)(hl:t.2.2<x.aw):stepT cO t x=some ((fA t.1 x.ops).1,L,x.aw):=by
 unfold stepT;rw[hf];simp only;rw[zzd hl]
def CG{n:Nat}{L L':List Rq}{x:cD}(h:gb n L x=some L'):eC x=true/\sS n x=true/\fY L x.notes=some L':=by
 unfold gb at h;split at h
 ·rename_i hc;exact⟨hc.1,hc.2,h⟩
 cases h
def cMo{cO:Nat}{k:cM}{xs:List cD}{m:Option cD}(h:iX cO k xs m)(ha:0<=k.d.arm)(ho:k.d.off=false)(hl:xs.length<=900){x:cD}{L:List Rq}(hf:gb cO k.reqs x=some L)(de:k.aw<x.aw):
  ((k.ga x L).2=0/\iX cO (k.ga x L).1 (xs++[x]) none/\(k.ga x L).1.tr=((fA k.ts x.ops).1,L,x.aw)/\(k.ga x L).1.plan=k.plan/\(k.ga x L).1.d.off=false/\(k.d.arm=0->(k.ga x L).1.d.arm=0)/\(k.ga x L).1.d.ops<=k.d.ops+3) \/
  ((k.ga x L).2=8/\iX cO (k.ga x L).1 xs (some x)/\(k.ga x L).1.tr=k.tr/\(k.ga x L).1.plan=k.plan/\(k.ga x L).1.d.off=true/\k.d.arm≠0/\(k.ga x L).1.d.ops<=k.d.ops+3):=by
 obtain⟨hm,ht,hn⟩:=CG hf;have hb:=(Cn hm).2;have hs:stepT cO k.tr x=some ((fA k.ts x.ops).1,L,x.aw):=KM (t:=k.tr) hf de;rcases h.st.append ha ho (p:=gl x) (by omega) (by rw[zzn];omega) with ⟨g',d',e,k1,k2,k3,k4⟩|⟨g',d',e,k1,k2,k3,k4⟩
 ·left;have hw:k.ga x L=(cM.AF {k with g:=g',d:=d'} x L,0):=by
   unfold cM.ga;simp only[e];rw[zzd trivial]
  rw[hw];refine⟨rfl,⟨?_,?_,?_,?_,λy hy=>by cases hy⟩,rfl,rfl,k1.off,k4,k3⟩
  ·rw[zzt];exact k1.st k2 _
  ·intro y hy;rcases zz5.1 hy with hy|hy
   ·exact h.may y hy
   rw[zz7.1 hy];exact hm
  ·rw[DR cO xs x _ _ h.run,hs];rfl
  show (fA k.ts x.ops).1.length=cO;rw[Km,h.len]
 right;have hw:k.ga x L=({k with g:=g',d:=d'},8):=by
  unfold cM.ga;simp only[e];rw[zzb (by decide)]
 rw[hw];exact⟨rfl,⟨k1,h.may,h.run,h.len,λy hy=>by cases hy;exact⟨hm,_,hs⟩⟩,rfl,rfl,k2,k4,k3⟩
def cDe{cO:Nat}{k:cM}{xs:List cD}{m:Option cD}(h:iX cO k xs m)(ha:0<=k.d.arm)(ho:k.d.off=false)(hl:xs.length<=900){x:cD}(hm:eC x=true){n:Int}(hn:0<=n):
  iX cO (k.jw x n).1 xs none/\(k.jw x n).1.tr=k.tr/\(k.jw x n).1.plan=k.plan/\(k.jw x n).1.d.ops<=k.d.ops+2 /\
   (((k.jw x n).2=0/\(k.jw x n).1.d.off=false/\(k.d.arm=0->(k.jw x n).1.d.arm=0))\/((k.jw x n).2=8/\(k.jw x n).1.d.off=true/\k.d.arm≠0)):=by
 have hb:=(Cn hm).2;obtain⟨g',d',e,h1,h2,h3,h4⟩:=h.st.cC5 ha ho (p:=gl x) (by omega) (by rw[zzn];omega) hn;have hw:k.jw x n=({k with g:=g',d:=d'},e):=by unfold cM.jw;simp only[h1]
 rw[hw];exact⟨⟨h2,h.may,h.run,h.len,λy hy=>by cases hy⟩,rfl,rfl,h3,h4⟩
def iX.open{cO:Nat}(t1:1<=cO)(t8:cO<=8){k:cM}{xs:List cD}{m:Option cD}(h:iX cO k xs m)(keep:Ω)(hl:xs.length<=900){size:Int}(s0:64<=size)(s1:size<=65536):
  ∃k' cZ,kG (k.d.ed keep) cO size=(k'.d,.ok k')/\iX cO k' cZ none/\k'.plan=[]/\k'.d.off=false/\k'.d.arm=0/\k'.d.ops<=k.d.ops+1/\gA k'.g k'.d 8192 1 (cZ.map gl)/\(cZ=xs\/∃x,m=some x/\cZ=xs++[x]):=by
 obtain⟨g2,d2,iP,e,l2,b2,a2,o2,IQ⟩:=h.st.open keep (by rw[zzn];omega) s0 s1;have hx:∃cZ,iP=cZ.map gl/\(∀x∈cZ,eC x=true)/\(∃t,runT cO cZ (rQ cO)=some t/\t.1.length=cO)/\(cZ=xs\/∃x,m=some x/\cZ=xs++[x]):=by
  rcases IQ with rfl|⟨p,hp,rfl⟩
  ·exact⟨xs,rfl,h.may,⟨_,h.run,h.len⟩,.inl rfl⟩
  cases m with
  | none=>cases hp
  | some x=>
   have hp:some (gl x)=some p:=hp;cases hp;obtain⟨w1,t,w2⟩:=h.K6 x rfl;refine⟨xs++[x],by simp,λy hy=>?_,⟨t,by rw[DR cO xs x _ _ h.run,w2],?_⟩,.inr ⟨x,rfl,rfl⟩⟩
   ·rcases zz5.1 hy with hy|hy
    ·exact h.may y hy
    rw[zz7.1 hy];exact w1
   unfold stepT at w2;split at w2
   ·split at w2
    ·cases w2;show (fA k.ts x.ops).1.length=cO;rw[Km,h.len]
    cases w2
   cases w2
 obtain⟨cZ,rfl,j6,⟨t,xM,mh⟩,hor⟩:=hx;refine⟨⟨g2,d2,t.1,[],t.2.2,t.2.1⟩,cZ,?_,⟨l2.st b2 _,j6,xM,mh,λy hy=>by cases hy⟩,rfl,l2.off,a2,o2,l2,hor⟩;unfold kG;rw[zzb (by omega)];simp only[e];have ry:fj g2.bF=1:=by
  by_cases hL:g2.bF=[]
  ·rw[hL];rfl
  rw[l2.chain.low hL]
 rw[zzb (λhh=>hh.1 ry),l2.gy,zzy,Wz cO cZ _ j6,xM]
def lx:List fT->fT × List fT
 | []=>(⟨0,0⟩,[])
 | f::r=>(f,r)
def Qv(p:Nat)(L:List fT)(hL:L.length<=1024):SP 343 [iL p] [.ob (gD p L)] (λv post=>∃q,v= .tuple #[agg (iO (lx L).1),.bool q]/\post=[.ob (gD p (lx L).2)]):=by
 cases L with
 | nil=>exact (bIs p).mono λv post h=>⟨false,h.1,h.2⟩
 | cons f r=>exact (bIr p f r (by rw[zzi]at hL;omega)).mono λv post h=>⟨true,h.1,h.2⟩
def cM.ub(k:cM)(x:cD):cM × Int:=
 let r:=eO k.g k.d (gl x)
 ({k with g:=r.1.1,d:=r.1.2},r.2.2)
def GN(k:cM)(x:cD)(L:List Rq):k.ga x L=if (k.ub x).2=0 then ((k.ub x).1.AF x L,0) else k.ub x:=by
 unfold cM.ga cM.ub;simp only
def cM.lE(k:cM)(x:cD)(f:fT):cM × Int:=if f.kind=2 then k.jw x f.keep else if k.aw<x.aw then k.ub x else (k,0)
def cM.so(k:cM)(x:cD)(f:fT)(L:List Rq):cM × Int:=
 if (k.lE x f).2≠0 then k.lE x f else ((if k.aw<x.aw/\f.kind≠2 then (k.lE x f).1.AF x L else (k.lE x f).1),if f.kind≠0 then 9 else 0)
def b_7{L:List fT}(h:∀f∈L,jc f=true):((lx L).1.kind=0/\L=[])\/(L≠[]/\((lx L).1.kind=1\/(lx L).1.kind=2\/(lx L).1.kind=3)):=by
 cases L with
 | nil=>exact .inl ⟨rfl,rfl⟩
 | cons f r=>
  have h1:=h f (.head _);unfold jc at h1;rw[zzw]at h1
  right;refine⟨by simp,?_⟩;show f.kind=1\/f.kind=2\/f.kind=3;omega
def b_6{L:List fT}(h:∀f∈L,jc f=true):0<=(lx L).1.keep:=by
 cases L with
 | nil=>exact yyf _
 | cons f r=>
  have h1:=h f (.head _);unfold jc at h1;rw[zzw]at h1
  show 0<=f.keep;omega
def aW0{k:cM}{x:cD}(h:eC x=false\/(k.aw<x.aw/\gb k.ts.length k.reqs x=none)):k.fx x=(k,1):=zzd h
def aW4{k:cM}{x:cD}(h:¬(eC x=false\/(k.aw<x.aw/\gb k.ts.length k.reqs x=none)))(ho:k.d.off=true):k.fx x=(k,8):=by
 unfold cM.fx;rw[zzb h,zzd ho]
def aWz{k:cM}{x:cD}(h:¬(eC x=false\/(k.aw<x.aw/\gb k.ts.length k.reqs x=none)))(ho:k.d.off=false)(hf:(lx k.plan).1.kind=1\/((lx k.plan).1.kind=2/\¬k.aw<x.aw)):k.fx x=({k with plan:=(lx k.plan).2},9):=by
 unfold cM.fx;rw[zzb h,zzb (by rw[ho];decide)];cases hp:k.plan with
 | nil=>rw[hp]at hf;rcases hf with hf|⟨hf,_⟩<;>cases hf
 | cons f r=>
  rw[hp]at hf
  have hf:f.kind=1\/(f.kind=2/\¬k.aw<x.aw):=hf;simp only;rw[zzb (by omega),zzb (by omega)];rfl
def aW1{k:cM}{x:cD}(h:¬(eC x=false\/(k.aw<x.aw/\gb k.ts.length k.reqs x=none)))(ho:k.d.off=false)(hm:∀f∈k.plan,jc f=true)(hf:¬((lx k.plan).1.kind=1\/((lx k.plan).1.kind=2/\¬k.aw<x.aw))):
  k.fx x=cM.so {k with plan:=(lx k.plan).2} x (lx k.plan).1 ((gb k.ts.length k.reqs x).getD []):=by
 have hn:=b_7 hm;unfold cM.fx;rw[zzb h,zzb (by rw[ho];decide)];generalize (gb k.ts.length k.reqs x).getD []=L;cases hp:k.plan with
 | nil=>
  rw[hp]at hn hf
  have e:({k with plan:=(lx []).2}:cM)=k:=by rw[<- hp];cases k;simp only at hp;subst hp;rfl
  rw[e];show (if k.aw<x.aw then k.ga x L else (k,0))=_;by_cases hl:k.aw<x.aw
  ·by_cases h0:(k.ub x).2=0
   ·simp[cM.so,cM.lE,GN,lx,hl,h0]
   simp[cM.so,cM.lE,GN,lx,hl,h0]
  simp[cM.so,cM.lE,lx,hl]
 | cons f r=>
  rw[hp]at hn hf
  have hf:¬(f.kind=1\/(f.kind=2/\¬k.aw<x.aw)):=hf;have hn:f.kind=2\/f.kind=3:=by
   rcases hn with ⟨_,h⟩|⟨_,h⟩
   ·cases h
   have h:f.kind=1\/f.kind=2\/f.kind=3:=h;omega
  show _=cM.so {k with plan:=r} x f L;generalize pV:({k with plan:=r}:cM)=k';have rn:k'.aw=k.aw:=by rw[<- pV]
  simp only;rw[pV];rcases hn with hn|hn
  ·have hl:k.aw<x.aw:=by
    rcases Int.lt_or_le k.aw x.aw with h|h
    ·exact h
    exact absurd (.inr ⟨hn,by omega⟩) hf
   by_cases h0:(k'.jw x f.keep).2=0
   ·simp[cM.so,cM.lE,hn,hl,rn,h0]
   simp[cM.so,cM.lE,hn,hl,h0]
  by_cases hl:k.aw<x.aw
  ·by_cases h0:(k'.ub x).2=0
   ·simp[cM.so,cM.lE,GN,hn,hl,rn,h0]
   simp[cM.so,cM.lE,GN,hn,hl,rn,h0]
  simp[cM.so,cM.lE,hn,hl,rn]
abbrev Al(kp gp dp lp pp:Nat)(H:bw)(y:cM × Int)(v:Ε)(post:Β):Prop:=v= Γ y.2/\∃H',H.le H'/\post=[.ob (db kp gp dp lp pp H' y.1),.mem H']
def Rz{t:cD}(h:eC t=true):uj t= .ok (gl t):=by
 have h1:=(HX h).1;unfold gl;rw[h1]
def YW(kp gp dp lp pp:Nat)(H:bw)(k:cM)(x:iD)(t:cD)(hx:ie H x t)(hi:B3 t)(xB:∀o∈t.ops,lr o.key){N m:Nat}(hk:B5 k N m):
  SP 301 [iL kp,agg (eP x)] [.ob (db kp gp dp lp pp H k),.mem H] (Al kp gp dp lp pp H (k.fx t)):=by
 refine Enzz λW F w hS=>?_;apply cI8;delta Ow aI bU a_ cL ai;refine zw hS λxb w hS=>?_;obtain⟨rv,hr,hS⟩:=db.open (k:=k) hS Xr;have ex:eP x=[Γ t.aw,x.ov,x.nv]:=by unfold eP;rw[hx.aw]
 rw[ex]at hS
 refine Gn λw hS=>?_;have hS:=db.put k hS hr Xp;rw[<- ex];rw[<- ex]at hS
 refine Cc (Zt kp gp dp lp pp H k x t hx hi hk.rq) ?_;clear hS;rintro u post ⟨H1,dj,hq,rfl⟩ w hS;have hu:∃y,u= .tuple #[y,.bool (gb k.ts.length k.reqs t).isSome]/\∀L,gb k.ts.length k.reqs t=some L->ji H1 y L:=by
  unfold Ao at hq;cases hc:gb k.ts.length k.reqs t with
  | none=>rw[hc]at hq;obtain⟨y,rfl⟩:=hq;exact⟨y,rfl,λL h=>by cases h⟩
  | some L=>rw[hc]at hq;obtain⟨y,rfl,hy⟩:=hq;exact⟨y,rfl,λL' h=>by cases h;exact hy⟩
 obtain⟨y,rfl,hy⟩:=hu;clear hq;have nQ:=hx.mono dj;(try simp only[app]at hS);refine Gp ?_
 have gH:∀{w:Ζ} {H':bw} {z:cM} {e:Int},H.le H'->k.fx t=(z,e)->SL W (.ob (db kp gp dp lp pp H' z)::.mem H'::F) w->∃post,Al kp gp dp lp pp H (k.fx t) (Γ e) post/\SL W (app post F) w:=λhh he hS=>by rw[he];exact⟨_,⟨rfl,_,hh,rfl⟩,hS⟩
 refine⟨λus w=>∃q:Bool,us=[.bool q]/\(q=true↔(eC t=false\/(k.aw<t.aw/\gb k.ts.length k.reqs t=none)))/\SL W (.ob (db kp gp dp lp pp H1 k)::.mem H1::.pt xb (eP x) 214::F) w,?_,?_⟩
 ·refine Gp ?_;refine Cg (zZ H1 x t nQ) λw hS=>?_;refine zt (λhm=>?_) (λhm=>?_)
  ·exact⟨true,rfl,⟨λ_=>.inl hm,λ_=>rfl⟩,aW hS⟩
  refine za (λhl=>?_) (λhl=>?_)
  ·refine Gp ?_;refine⟨_,rfl,?_,aW hS⟩;rw[hm];cases gb k.ts.length k.reqs t with
   | none=>exact⟨λ_=>.inr ⟨hl,rfl⟩,λ_=>rfl⟩
   | some L=>exact⟨λh=>by (cases h),λh=>by rcases h with h|⟨_,h⟩<;>cases h⟩
  refine⟨false,rfl,⟨λh=>by (cases h),λh=>?_⟩,aW hS⟩;rcases h with h|h
  ·rw[hm]at h;cases h
  exact absurd h.1 hl
 clear hS;rintro v25 w ⟨q,cP,hq,hS⟩;cases cP;refine yT (λhqt=>gH dj (aW0 (hq.1 hqt)) (aW hS)) (λUh=>?_);have Da:¬(eC t=false\/(k.aw<t.aw/\gb k.ts.length k.reqs t=none)):=λh=>by rw[hq.2 h]at Uh;cases Uh
 have j6:eC t=true:=by
  cases hb:eC t with
  | true=>rfl
  | false=>exact absurd (.inl hb) Da
 obtain⟨rv,hr,hS⟩:=db.open (k:=k) hS Xr;refine Gp ?_;refine Cg (zM dp k.d) λw hS=>?_;refine yT (λho=>?_) (λho=>?_)
 ·have hS:=db.put k hS hr Xp;exact gH dj (aW4 Da ho) (aW hS)
 refine Gp ?_;refine Cc (Qv pp k.plan hk.pl) ?_;clear hS;rintro _ post ⟨nq,rfl,rfl⟩ w hS;try simp only[app]at hS
 have Bc:=hk.mL;have TS:=b_6 Bc;have Tx:=aWz Da ho;have Ty:=aW1 Da ho Bc;have A_:(lx k.plan).2.length<=1024:=by
  have:=hk.pl;cases hp:k.plan with
  | nil=>exact zz9 _
  | cons f r=>rw[hp,zzi]at this;show r.length<=1024;omega
 generalize hf:(lx k.plan).1=f at *
 generalize (lx k.plan).2=pr at *
 refine Gp ?_;refine Gb λfb w hS=>?_;refine⟨λus w=>us=[]/\¬(f.kind=1\/(f.kind=2/\¬k.aw<t.aw))/\SL W (.pt kp (nT gp dp lp pp k.aw rv) 90::.ob (gu gp k.ts)::.ob (dd lp dp k.g)::.ob (gD pp pr)::.ob (bX dp k.d)::.pt fb (iO f) 33::.mem H1::.pt xb (eP x) 214::F) w,?_,?_⟩
 ·have h9:∀{w:Ζ},f.kind=1\/(f.kind=2/\¬k.aw<t.aw)->SL W (.ob (bX dp k.d)::.ob (gD pp pr)::.pt kp (nT gp dp lp pp k.aw rv) 90::.ob (gu gp k.ts)::.ob (dd lp dp k.g)::.mem H1::F) w->∃post,Al kp gp dp lp pp H (k.fx t) (Γ 9) post/\SL W (app post F) w:=λh hS=>by
   have hS:=db.eS (H:=H1) (reqs:=k.reqs) hS hr Xp;exact gH dj (Tx h) hS
  refine Gp ?_;refine za (λh1=>h9 (.inl h1) (aW hS)) (λh1=>?_);refine Gp ?_;refine za (λh2=>?_) (λh2=>⟨rfl,by omega,aW hS⟩);refine Gp ?_;refine zt (λhl=>h9 (.inr ⟨h2,yy0 hl⟩) (aW hS)) (λhl=>⟨rfl,λh=>?_,aW hS⟩);rcases h with h|⟨_,h⟩
  ·exact h1 h
  exact h (zzp hl)
 clear hS;rintro w ⟨-,hnf,hS⟩;have kQ:=Ty hnf;clear Tx Ty;refine Gp ?_;refine Cc (YL H1 x t nQ) ?_;clear hS;rintro r post Jf w hS;unfold BZ at Jf;rw[Rz j6]at Jf
 obtain⟨bv,rfl,rfl⟩:=Jf;have o9:=(Cn j6).2;(try simp only[app]at hS);refine Gp ?_
 generalize pV:({k with plan:=pr}:cM)=k' at kQ;have xw:k'.g=k.g/\k'.d=k.d/\k'.ts=k.ts/\k'.aw=k.aw/\k'.reqs=k.reqs/\k'.plan=pr:=by rw[<- pV];exact⟨rfl,rfl,rfl,rfl,rfl,rfl⟩
 obtain⟨g1,g2,g3,g4,g5,g6⟩:=xw;have hW:(k'.lE t f).1.ts=k.ts/\(k'.lE t f).1.aw=k.aw/\(k'.lE t f).1.reqs=k.reqs/\(k'.lE t f).1.plan=pr:=by
  unfold cM.lE;split
  ·unfold cM.jw;exact⟨g3,g4,g5,g6⟩
  split
  ·unfold cM.ub;exact⟨g3,g4,g5,g6⟩
  exact⟨g3,g4,g5,g6⟩
 refine⟨λus w=>us=[Γ (k'.lE t f).2]/\SL W (.ob (db kp gp dp lp pp H1 (k'.lE t f).1)::.pt fb (iO f) 33::.mem H1::.pt xb (eP x) 214::F) w,?_,?_⟩
 ·have sC:=hk.g.ok;have CZ:=hk.d;have hle:=hk.le;have fh:=hk.ops;refine Gp ?_;refine za (λh=>absurd rfl h) (λ_=>?_);unfold cM.lE;refine bZ (λh2=>?_) (λh2=>?_)
  ·rw[zzd h2];refine Gn λw hS=>?_;refine Cg (Q7 (.ob (bR bv 5 1 (gl t).length ((gl t).map cX))) lp dp k.g k.d bv (gl t) f.keep dS.own (by omega) sC (by omega) CZ (by omega) (by omega)) λw hS=>?_;unfold cM.jw;rw[g1,g2];have hS:=db.eS (H:=H1) (reqs:=k.reqs) hS hr Xp;refine⟨rfl,?_⟩;rw[<- pV];exact aW hS
  rw[zzb h2,g4];refine za (λhl=>?_) (λhl=>?_)
  ·rw[zzd hl];refine Gp ?_;refine Cg (Zg (.ob (bR bv 5 1 (gl t).length ((gl t).map cX))) lp dp k.g k.d bv (gl t) dS.own (by omega) sC (by omega) CZ (by omega) (by omega)) λw hS=>?_;unfold cM.ub;simp only;rw[g1,g2];have hS:=db.eS (H:=H1) (reqs:=k.reqs) hS hr Xp;refine⟨rfl,?_⟩;rw[<- pV];exact aW hS
  rw[zzb hl];have hS:=db.eS (H:=H1) (reqs:=k.reqs) hS hr Xp;refine⟨rfl,?_⟩;rw[<- pV];exact aW hS
 clear hS;rintro v11 w ⟨cP,hS⟩;cases cP;unfold cM.so at kQ;obtain⟨w1,w2,w3,w4⟩:=hW;generalize k'.lE t f=z at *
 obtain⟨z,e⟩:=z;simp only at *
 refine bZ (λhe=>?_) (λhe=>?_)
 ·rw[zzd he]at kQ
  exact gH dj kQ (aW hS)
 rw[zzb he,g4]at kQ
 have gG:∀{w:Ζ} {z':cM},k.fx t=(z',if f.kind≠0 then 9 else 0)->SL W (.ob (db kp gp dp lp pp H1 z')::.pt fb (iO f) 33::.mem H1::F) w->dm (.bool (decide (f.kind≠0))) (∃post,Al kp gp dp lp pp H (k.fx t) (Γ 9) post/\SL W (app post F) w) (∃post,Al kp gp dp lp pp H (k.fx t) (Γ 0) post/\SL W (app post F) w):=λhc hS=>by
  refine za (λh0=>?_) (λh0=>?_)
  ·rw[zzd h0]at hc;exact gH dj hc (aW hS)
  rw[zzb h0]at hc;exact gH dj hc (aW hS)
 refine za (λhl=>?_) (λhl=>?_)
 ·refine bZ (λh2=>?_) (λh2=>?_)
  ·rw[zzd ⟨hl,h2⟩]at kQ
   obtain⟨L,hL⟩:∃L,gb k.ts.length k.reqs t=some L:=by
    cases hc:gb k.ts.length k.reqs t with
    | none=>exact absurd (.inr ⟨hl,hc⟩) Da
    | some L=>exact⟨L,rfl⟩
   rw[hL,xxi]at kQ
   have rA:=hi.ops;have vM:=(oF.1 j6).1.2.2.1;refine Gp ?_;refine Cg (qA kp gp dp lp pp H1 z x t L y nQ (hy L hL) (by omega) xB) λw hS=>?_;exact gG kQ (aW hS)
  rw[zzb (λh=>h2 h.2)]at kQ
  refine Gp ?_;exact gG kQ (aW hS)
 rw[zzb (λh=>hl h.1)]at kQ
 refine Gp ?_;exact gG kQ (aW hS)
def Ro{L:List c_}(h:iT L):cI L-fj L+1=((cR L).length:Int):=by
 by_cases hL:L=[]
 ·subst hL;rfl
 rw[h.head hL];omega
def Vl{L:List c_}{N:Nat}(h:∀s∈L,kY s N):1<=fj L/\fj L<=1099511627776:=by
 cases L with
 | nil=>exact⟨yyf _,by show (1:Int)<=_;decide⟩
 | cons s r=>exact⟨(h s (.head _)).n0,(h s (.head _)).n1⟩
def Z1(kp gp dp lp pp:Nat)(H:bw)(k:cM):SP 72 [iL kp] [.ob (db kp gp dp lp pp H k)] (cE (iL pp) [.ob (db kp gp dp lp pp H k)]):=by
 refine Enzz λW F w hS=>?_;apply X0;delta He bU;obtain⟨rv,hr,hS⟩:=db.iff.1 hS;refine Gp ?_;exact⟨_,⟨rfl,rfl⟩,db.iff.2 ⟨rv,hr,hS⟩⟩
def yJ(kp gp dp lp pp:Nat)(H:bw)(k:cM):SP 47 [iL kp] [.ob (db kp gp dp lp pp H k)] (cE (Γ k.aw) [.ob (db kp gp dp lp pp H k)]):=by
 refine Enzz λW F w hS=>?_;apply cK0;delta Pq bU;obtain⟨rv,hr,hS⟩:=db.iff.1 hS;refine Gp ?_;exact⟨_,⟨rfl,rfl⟩,db.iff.2 ⟨rv,hr,hS⟩⟩
def y2(kp gp dp lp pp:Nat)(H:bw)(k:cM){N:Nat}(hg:iu k.g N)(hN:N<=1000000000000):SP 200 [iL kp] [.ob (db kp gp dp lp pp H k)] (cE (Γ ((cR k.g.bF).length:Int)) [.ob (db kp gp dp lp pp H k)]):=by
 refine Enzz λW F w hS=>?_;apply cGt;delta M3 bU aR bV ai;obtain⟨rv,hr,hS⟩:=db.iff.1 hS;have h1:=sB hg.ok.bF;have h2:=Vl hg.ok.bF;have h3:=Ro hg.seq;refine Gn λw hS=>?_;refine Cg (ZZ lp dp k.g hg.ok hN) λw hS=>?_;refine Cg (Zu lp dp k.g hg.ok hN) λw hS=>?_;rw[h3];have hS:=db.put k hS hr Xp;exact cC hS
def QD(kp gp dp lp pp:Nat)(H:bw)(k:cM)(hq:k.reqs.length<=64):SP 33 [iL kp] [.ob (db kp gp dp lp pp H k),.mem H] (λv post=>∃H',H.le H'/\ji H' v k.reqs/\post=[.ob (db kp gp dp lp pp H' k),.mem H']):=by
 refine Enzz λW F w hS=>?_;apply cJr;delta ON bU;obtain⟨rv,hr,hS⟩:=db.iff.1 hS;refine Gp ?_;refine Cc (z8 H rv k.reqs hr (by omega)) ?_;clear hS;rintro u post rfl w hS;try simp only[app]at hS
 obtain⟨H',hh,hR,hS⟩:=zz (H:=H) (v:=u) (n:=k.reqs.length) (sz:=7) (t:=98) (cells:=(k.reqs.map iI).flatten) hS Xp;have hS:=db.put (H:=H') k hS (hr.mono hh) Xp;exact⟨_,⟨H',hh,hR,rfl⟩,aW hS⟩
def cM.at(k:cM)(t:Tr):cM:={k with ts:=t.1,reqs:=t.2.1,aw:=t.2.2}
def JQ{t:cD}(h:eC t=true):B3 t/\∀o∈t.ops,lr o.key:=by
 obtain⟨⟨_,_,h1,h2⟩,h3,h4⟩:=oF.1 h;refine⟨⟨λn hn=>?_,by omega,by omega⟩,λo ho=>?_⟩
 ·have:=h4 n hn;unfold jm at this;rw[zzw]at this
  unfold lr;omega
 have:=h3 o ho;unfold kU at this;rw[zzw]at this
 unfold lr;omega
def R8{b:Φ}{t:cD}(h:nH b= .ok t):eC t=true:=by
 unfold nH at h;split at h
 ·cases h
 split at h
 ·rename_i x hx;cases h;unfold AB at hx;simp only at hx;split at hx
  ·rename_i hc;cases hx;exact hc.2.2
  cases hx
 cases h
def cnn{ts:List (List Cell)}(h:sO ts){t:cD}(hm:eC t=true):sO (fA ts t.ops).1:=cnm h (JQ hm).2
def cBp{ts:List (List Cell)}{m:Nat}(h:small ts (4096*(m+1))){t:cD}(hm:eC t=true):small (fA ts t.ops).1 (4096*m):=
 cBo (W6 h (by have:=(oF.1 hm).1.2.2.1;omega))
def cM.lT(k:cM):Option Tr:=if fj k.g.bF≠1/\0<(cR k.g.bF).length then none else tS k.ts.length (cR k.g.bF) k.tr
structure wA(t:Tr)(n m:Nat):Prop where
 len:t.1.length=n
 ok:sO t.1
 room:small t.1 (4096*m)
 rq:t.2.1.length<=64
def VP{L L':List Rq}:∀{l:List ix},fY L l=some L'->L.length<=64->L'.length<=64
 | [],h,hl=>by cases h;exact hl
 | n::l,h,hl=>by
  unfold fY at h;cases hn:oG L n with
  | none=>rw[hn]at h;cases h
  | some L2=>rw[hn]at h;exact VP h (VO hn)
def wA.step{t t':Tr}{n m:Nat}(h:wA t n (m+1)){x:cD}(hs:stepT n t x=some t'):wA t' n m:=by
 unfold stepT at hs;cases hf:gb n t.2.1 x with
 | none=>rw[hf]at hs;cases hs
 | some L=>
  rw[hf]at hs
  simp only at hs;split at hs
  ·cases hs;obtain⟨hm,_,hn⟩:=CG hf;exact⟨by show (fA _ _).1.length=n;rw[Km,h.len],cnn h.ok hm,cBp h.room hm,VP hn h.rq⟩
  cases hs
def QC(kp gp dp lp pp:Nat)(H:bw)(k:cM){N m:Nat}(hg:iu k.g N)(hN:N<=1000000000000)(ht:wA k.tr k.ts.length m)(hm:(cR k.g.bF).length<=m)(vM:m<=100000):
  SP 143 [iL kp] [.ob (db kp gp dp lp pp H k),.mem H] (λv post=>∃H',H.le H'/\match k.lT with
   | none=>v= .bool false/\post=[.ob (bX dp k.d),.mem H']
   | some t=>v= .bool true/\post=[.ob (db kp gp dp lp pp H' (k.at t)),.mem H']):=by
 refine Enzz λW F w hS=>?_;apply cE9;delta L8 aI bU a_ bV cL bY ai bI;have h2:=Vl hg.ok.bF;have hF:∀{w:Ζ} {H':bw} {t:Tr},k.lT=none->H.le H'->SL W (.ob (db kp gp dp lp pp H' (k.at t))::.mem H'::F) w->∃post,(∃H',H.le H'/\match k.lT with
   | none=>(.bool false:Ε)= .bool false/\post=[.ob (bX dp k.d),.mem H']
   | some t=>(.bool false:Ε)= .bool true/\post=[.ob (db kp gp dp lp pp H' (k.at t)),.mem H'])/\SL W (app post F) w:=λhr hh hS=>by
  rw[hr];obtain⟨rv,Ul,hS⟩:=db.iff.1 hS;exact⟨[.ob (bX dp k.d),.mem _],⟨_,hh,rfl,rfl⟩,SL.b_ (show SL W (_::_::_::_::.ob (bX dp k.d)::_) _ from hS) Xi⟩
 refine⟨λus w=>us=[]/\¬(fj k.g.bF≠1/\0<(cR k.g.bF).length)/\SL W (.ob (db kp gp dp lp pp H k)::.mem H::F) w,?_,?_⟩
 ·obtain⟨rv,hr,hS⟩:=db.iff.1 hS;refine Gp ?_;refine Cg (Zu lp dp k.g hg.ok hN) λw hS=>?_;have hS:=db.put k hS hr Xp;refine za (λh1=>?_) (λh1=>?_)
  ·refine Cg (y2 kp gp dp lp pp H k hg hN) λw hS=>?_;refine za (λh3=>?_) (λh3=>?_)
   ·exact hF (t:=k.tr) (by unfold cM.lT;rw[zzd ⟨h1,by omega⟩]) (bw.le_refl H) hS
   exact⟨rfl,λh=>by omega,aW hS⟩
  exact⟨rfl,λh=>h1 h.1,aW hS⟩
 clear hS;rintro w ⟨-,ry,hS⟩;have hK:k.lT=tS k.ts.length (cR k.g.bF) k.tr:=by unfold cM.lT;rw[zzb ry]
 refine⟨λus w=>∃(i:Nat) (t:Tr) (H2:bw),us=[Γ ((i+1:Nat):Int)]/\i<=(cR k.g.bF).length/\k.lT=tS k.ts.length ((cR k.g.bF).drop i) t/\wA t k.ts.length (m-i)/\H.le H2/\SL W (.ob (db kp gp dp lp pp H2 (k.at t))::.mem H2::F) w,
  λus _=>match us with|[.int _ i]=>((cR k.g.bF).length+1-i).toNat|_=>0,⟨0,k.tr,H,rfl,zz9 _,hK,ht,bw.le_refl H,hS⟩,?_⟩
 clear hS;rintro v3 w ⟨i,t,H2,cP,hi,dJ,hT,e_,hS⟩;cases cP;refine Cc (y2 kp gp dp lp pp H2 (k.at t) hg hN) ?_;clear hS;rintro _ post ⟨rfl,rfl⟩ w hS;try simp only[app]at hS
 rw[show (cR (k.at t).g.bF).length=(cR k.g.bF).length from rfl];refine bZ (λh=>?_) (λh=>?_)
 ·have cz:i<(cR k.g.bF).length:=by omega
  have vI:fj k.g.bF=1:=by
   rcases Int.lt_trichotomy (fj k.g.bF) 1 with h|h|h
   ·omega
   ·exact h
   exact absurd ⟨by omega,by omega⟩ ry
  have Dk:=hg.seq.read i;rw[vI,zzc cz]at Dk
  rw[yyq cz]at dJ
  generalize hbb:(cR k.g.bF)[i]=bs at *
  have dJ:k.lT=match nH bs with
   | .ok x=>match stepT k.ts.length t x with
    | some t'=>tS k.ts.length ((cR k.g.bF).drop (i+1)) t'
    | none=>none
   | .error _=>none:=dJ
  obtain⟨rv,hr,hS⟩:=db.iff.1 hS;refine Gp ?_;refine Cc (Ya lp dp (k.at t).g hg.ok hN ((i+1:Nat):Int) (by omega)) ?_;clear hS;rintro r post hq w hS;have hq:Eb [.ob (dd lp dp (k.at t).g)] (mN k.g.bF ((i+1:Nat):Int)) r post:=hq;rw[show ((i+1:Nat):Int)=1+(i:Int) by omega,Dk]at hq
  obtain⟨u,rfl,rfl⟩:=hq;try simp only[app]at hS
  have hS:=db.put (k.at t) hS hr Xp;refine Gp ?_;refine Cc (YK (.ob (bR u 5 1 bs.length (bs.map cX))) H2 u bs dS.own) ?_;clear hS;rintro r post hq w hS;unfold wm at hq;cases hd:nH bs with
  | error e=>
   rw[hd]at hq dJ
   obtain⟨dQ,H3,fE,rfl,rfl⟩:=hq;try simp only[app]at hS
   have hS:=db.mono fE (Has.front (c:=.ob (db kp gp dp lp pp H2 (k.at t))) hS Xr);refine Gm λb w hS=>?_;refine Cc (Zt kp gp dp lp pp H3 (k.at t) ⟨0,Θ,Θ⟩ ⟨0,[],[]⟩ ⟨rfl,dq.nil _ _,dq.nil _ _⟩ ⟨by simp,by simp,by simp⟩ hT.rq) ?_;clear hS;rintro u2 post ⟨H4,vx,ja,rfl⟩ w hS;have hu:∃y b,u2= .tuple #[y,.bool b]:=by
    unfold Ao at ja;split at ja
    ·obtain⟨y,e⟩:=ja;exact⟨y,_,e⟩
    obtain⟨y,e,_⟩:=ja;exact⟨y,_,e⟩
   obtain⟨y,qb,rfl⟩:=hu;refine Gn λw hS=>?_;refine za (λ_=>?_) (λh=>absurd dQ h);exact hF dJ (bw.le_trans e_ (bw.le_trans fE vx)) (aW hS)
  | ok x=>
   rw[hd]at hq dJ
   obtain⟨xv,H3,fE,rfl,hx,rfl⟩:=hq;obtain⟨IV,xB⟩:=JQ (R8 hd);have Bl:=(oF.1 (R8 hd)).1.2.2.1;have FO:eP xv=[Γ x.aw,xv.ov,xv.nv]:=by unfold eP;rw[hx.aw]
   try simp only[app]at hS
   have hS:=db.mono fE (Has.front (c:=.ob (db kp gp dp lp pp H2 (k.at t))) hS Xr);have h1:=mD hx;refine Gp ?_;refine zC hS λxb w hS=>?_;refine zr hS Xu rfl rfl h1 λw hS=>?_;refine zA hS Xh rfl ?_;refine Cc (Zt kp gp dp lp pp H3 (k.at t) xv x hx IV hT.rq) ?_;clear hS;rintro u2 post ⟨H4,vx,ja,rfl⟩ w hS;have xc:=bw.le_trans e_ (bw.le_trans fE vx);have oA:gb (k.at t).ts.length (k.at t).reqs x=gb k.ts.length t.2.1 x:=by rw[show (k.at t).ts.length=k.ts.length from hT.len];rfl
   rw[oA]at ja
   simp only at dJ;unfold stepT at dJ;cases hc:gb k.ts.length t.2.1 x with
   | none=>
    rw[hc]at ja dJ
    obtain⟨y,rfl⟩:=ja;refine Gn λw hS=>?_;refine za (λh=>absurd rfl h) (λ_=>?_);refine Gp ?_;refine zq ?_;exact hF dJ xc (aW hS)
   | some L=>
    rw[hc]at ja dJ
    obtain⟨y,rfl,hy⟩:=ja;refine Gn λw hS=>?_;refine za (λh=>absurd rfl h) (λ_=>?_);refine Gp ?_;refine zp ?_;obtain⟨WH,xK,hS⟩:=db.open (k:=k.at t) hS Xr;rw[FO]at hS
    refine Gp ?_;have hS:=db.put (k.at t) hS xK Xp;rw[show (k.at t).aw=t.2.2 from rfl];refine za (λh5=>?_) (λh5=>?_)
    ·simp only at dJ;rw[zzb (by omega)]at dJ
     exact hF dJ xc (aW hS)
    simp only at dJ;rw[zzd (by omega)]at dJ
    rw[<- FO]at hS
    refine zA hS Xh rfl ?_;refine Cg (qA kp gp dp lp pp H4 (k.at t) xv x L y (hx.mono vx) hy (by omega) xB) λw hS=>?_;have fS:stepT k.ts.length t x=some ((fA t.1 x.ops).1,L,x.aw):=KM hc (by omega);have hT':wA ((fA t.1 x.ops).1,L,x.aw) k.ts.length (m-(i+1)):=by
     have:m-i=(m-(i+1))+1:=by omega
     rw[this]at hT
     exact hT.step fS
    have hS:SL W (.ob (db kp gp dp lp pp H4 (k.at ((fA t.1 x.ops).1,L,x.aw)))::_) _:=hS;exact⟨⟨i+1,((fA t.1 x.ops).1,L,x.aw),H4,rfl,by omega,dJ,hT',xc,aW hS⟩,by dsimp only;omega⟩
 have jO:i=(cR k.g.bF).length:=by omega
 subst jO;rw[vv3]at dJ
 have dJ:k.lT=some t:=dJ;rw[dJ];exact⟨_,⟨H2,e_,rfl,rfl⟩,aW hS⟩
def Lm(dp:Nat)(H:bw)(y:DS × Except Int cM)(r:Ε)(post:Β):Prop:=match y.2 with
 | .error e=>e≠0/\∃H',H.le H'/\r= .tuple #[.pointer none,Γ e]/\post=[.ob (bX dp y.1),.mem H']
 | .ok k=>∃(kp gp lp pp:Nat) (H':bw),H.le H'/\r= .tuple #[iL kp,Γ 0]/\post=[.ob (db kp gp dp lp pp H' k),.mem H']
def W7(n m:Nat)(hm:4096*m<=1000000):small (List.replicate n []) (4096*m):=λC hC=>by
 rw[vvj hC];simpa using hm
def V1(n:Nat):sO (List.replicate n []):=λC hC=>by
 rw[vvj hC];exact⟨.nil,by simp⟩
def QB(H:bw)(dp:Nat)(d:DS)(cO size:Int){N:Nat}(cH:d.Ok N)(hN:N<=100000000)(dV:d.ops<=90000)(hn:∀d' g,eN d 8192 size=(d',.ok g)->(cR g.bF).length<=200):
  SP 97 [iL dp,Γ cO,Γ size] [.ob (bX dp d),.mem H] (Lm dp H (kG d cO size)):=by
 refine Enzz λW F w hS=>?_;apply cL3;delta P3 aI cL ai cT bI;have hR:=cH.DQ;by_cases ht:cO<1\/8<cO
 ·have e:kG d cO size=(d,.error 1):=by unfold kG;rw[zzd ht]
  rw[e];refine Cg (bI6 cO ht) λw hS=>?_;refine za (λ_=>?_) (λh=>absurd (by decide) h);exact⟨_,⟨by decide,H,bw.le_refl H,rfl,rfl⟩,aW hS⟩
 obtain⟨n,rfl⟩:∃n:Nat,cO=n:=⟨cO.toNat,by omega⟩;refine Cc (bI7 n (by omega) (by omega)) ?_;clear hS;rintro _ post ⟨gp,rfl,rfl⟩ w hS;(try simp only[app]at hS);refine Gp ?_
 refine za (λh=>absurd rfl h) (λ_=>?_);refine Cc (QH dp d 8192 size cH (by omega) (by omega) (by omega)) ?_;clear hS;rintro r post hq w hS;unfold kG;rw[zzb ht];unfold B9 at hq;cases tE:eN d 8192 size with
 | mk d' o=>
  rw[tE]at hq
  cases o with
  | error e=>
   obtain⟨he,rfl,rfl⟩:=hq;(try simp only[app]at hS);refine Gp ?_
   refine za (λ_=>?_) (λh=>absurd he h);exact⟨_,⟨he,H,bw.le_refl H,rfl,rfl⟩,aW hS⟩
  | ok g=>
   obtain⟨lp,rfl,rfl⟩:=hq;(try simp only[app]at hS);refine Gp ?_
   refine za (λh=>absurd rfl h) (λ_=>?_);refine Cc (bIq) ?_;clear hS;rintro _ post ⟨pp,rfl,rfl⟩ w hS;(try simp only[app]at hS);refine Gp ?_
   refine zw hS λkp w hS=>?_;have sC:=J9 cH (by omega) tE;have hS:SL W (.ob (db kp gp dp lp pp H ⟨g,d',List.replicate n [],[],0,[]⟩)::_) _:=db.eS (rv:=Θ) hS (dq.nil H 7) Xp;have A6:(List.replicate n ([]:List Cell)).length=n:=xxm;refine Cc (QC kp gp dp lp pp H ⟨g,d',List.replicate n [],[],0,[]⟩ sC (by omega) ⟨rfl,V1 n,W7 n 200 (by decide),by simp[cM.tr]⟩ (hn d' g tE) (by omega)) ?_;clear hS;rintro v post ⟨H1,dj,hm⟩ w hS;have o9:=Ro sC.seq;have e:(cM.mk g d' (List.replicate n []) [] 0 []).lT=if fj g.bF≠1/\fj g.bF<=cI g.bF then none else tS (Int.toNat (n:Int)) (cR g.bF) (rQ (Int.toNat (n:Int))):=by
    unfold cM.lT;simp only[A6];rw[zzy];by_cases hc:fj g.bF≠1/\fj g.bF<=cI g.bF
    ·rw[zzd hc,zzd ⟨hc.1,by omega⟩]
    rw[zzb hc,zzb (λh=>hc ⟨h.1,by omega⟩)];rfl
   rw[e]at hm
   simp only;by_cases hc:fj g.bF≠1/\fj g.bF<=cI g.bF
   ·rw[zzd hc]at hm ⊢
    obtain⟨rfl,rfl⟩:=hm;(try simp only[app]at hS);refine Gp ?_
    refine zq ?_;exact⟨_,⟨by decide,H1,dj,rfl,rfl⟩,aW hS⟩
   rw[zzb hc]at hm ⊢
   cases FK:tS (Int.toNat (n:Int)) (cR g.bF) (rQ (Int.toNat (n:Int))) with
   | none=>
    rw[FK]at hm
    obtain⟨rfl,rfl⟩:=hm;(try simp only[app]at hS);refine Gp ?_
    refine zq ?_;exact⟨_,⟨by decide,H1,dj,rfl,rfl⟩,aW hS⟩
   | some t=>
    rw[FK]at hm
    obtain⟨rfl,rfl⟩:=hm;(try simp only[app]at hS);refine Gp ?_
    refine zp ?_;have hS:SL W (.ob (db kp gp dp lp pp H1 ⟨g,d',t.1,[],t.2.2,t.2.1⟩)::_) _:=hS;exact⟨_,⟨kp,gp,lp,pp,H1,dj,rfl,rfl⟩,aW hS⟩
structure TX(t:Tr)(n m:Nat):Prop where
 k:wA t n m
 l0:0<=t.2.2
 l1:t.2.2<=1099511627776
 rq:gk t.2.1
def VQ{L L':List Rq}:∀{l:List ix},fY L l=some L'->gk L->gk L'
 | [],h,hl=>by cases h;exact hl
 | n::l,h,hl=>by
  unfold fY at h;cases hn:oG L n with
  | none=>rw[hn]at h;cases h
  | some L2=>
   rw[hn]at h
   refine VQ h ?_;unfold oG at hn;split at hn
   ·exact EA hn
   split at hn
   ·rename_i L3 h3;split at hn
    ·cases hn;exact Cj h3
    cases hn
   cases hn
def TX.step{t t':Tr}{n m:Nat}(h:TX t n (m+1)){x:cD}(hs:stepT n t x=some t'):TX t' n m:=by
 have hk:=h.k.step hs;unfold stepT at hs;cases hf:gb n t.2.1 x with
 | none=>rw[hf]at hs;cases hs
 | some L=>
  rw[hf]at hs
  simp only at hs;split at hs
  ·cases hs;obtain⟨hm,_,hn⟩:=CG hf;have h1:=(oF.1 hm).1;exact⟨hk,by show 0<=x.aw;omega,by show x.aw<=_;omega,VQ hn h.rq⟩
  cases hs
def TX.run{n:Nat}:∀(xs:List cD) (t t':Tr) (m:Nat),TX t n (m+xs.length)->runT n xs t=some t'->TX t' n m
 | [],t,t',m,h,hr=>by cases hr;exact h
 | x::xs,t,t',m,h,hr=>by
  have hr:(match stepT n t x with|some t'=>runT n xs t'|none=>none)=some t':=hr;cases hs:stepT n t x with
  | none=>rw[hs]at hr;cases hr
  | some t1=>
   rw[hs]at hr
   rw[zzi,show m+(xs.length+1)=(m+xs.length)+1 by omega]at h
   exact TX.run xs t1 t' m (h.step hs) hr
def bZs:gk []:=⟨by simp,λi h=>by simp at h⟩
def TX.zero(n m:Nat)(hm:4096*m<=1000000):TX (rQ n) n m:=⟨⟨xxm,V1 n,W7 n m hm,by simp[rQ]⟩,by show (0:Int)<=0;decide,by show (0:Int)<=_;decide,bZs⟩
structure GZ(n:Nat)(k:cM)(j:Nat)(xs:List cD)(m:Option cD):Prop where
 s:iX n k xs m
 len:xs.length<=j
 g:iu k.g (1000000*(j+1))
 d:k.d.Ok (1000000*(j+1))
 ops:k.d.ops<=10*(j+1)
 pl:k.plan.length<=j
 mL:∀f∈k.plan,jc f=true
 keep:∀f∈k.plan,f.keep<=9223372036854775807
def aW2(k:cM)(x:cD):((k.fx x).1.g=k.g/\(k.fx x).1.d=k.d)\/(eC x=true/\(((k.fx x).1.g=(eO k.g k.d (gl x)).1.1/\(k.fx x).1.d=(eO k.g k.d (gl x)).1.2)\/∃n,(k.fx x).1.g=(f_ k.g k.d (gl x) n).1.1/\(k.fx x).1.d=(f_ k.g k.d (gl x) n).1.2)):=by
 unfold cM.fx;split
 ·exact .inl ⟨rfl,rfl⟩
 rename_i hn;have hm:eC x=true:=by
  cases hb:eC x with
  | true=>rfl
  | false=>exact absurd (.inl hb) hn
 have hw:∀(k':cM) (L:List Rq),k'.g=k.g->k'.d=k.d->(k'.ga x L).1.g=(eO k.g k.d (gl x)).1.1/\(k'.ga x L).1.d=(eO k.g k.d (gl x)).1.2:=λk' L h1 h2=>by
  unfold cM.ga;simp only;rw[h1,h2];split<;>exact⟨rfl,rfl⟩
 split
 ·exact .inl ⟨rfl,rfl⟩
 simp only;split
 ·split
  ·exact .inr ⟨hm,.inl (hw _ _ rfl rfl)⟩
  exact .inl ⟨rfl,rfl⟩
 split
 ·split
  ·exact .inr ⟨hm,.inl (hw _ _ rfl rfl)⟩
  exact .inl ⟨rfl,rfl⟩
 split
 ·exact .inr ⟨hm,.inr ⟨_,rfl,rfl⟩⟩
 exact .inl ⟨rfl,rfl⟩
def GZ.first{n:Nat}(n1:1<=n)(n8:n<=8){size:Int}(s0:64<=size)(s1:size<=65536):∃k,kG gP ((n:Nat):Int) size=(k.d,.ok k)/\GZ n k 0 [] none/\k.plan=[]/\k.d=gP/\k.aw=0/\(∀d' g,eN gP 8192 size=(d',.ok g)->(cR g.bF).length<=200):=by
 have tE:eN gP 8192 size=(gP,.ok ⟨[],8192,size,none⟩):=by
  unfold eN;rw[zzb (by omega)];rfl
 have hl:gA ⟨[],8192,size,none⟩ gP 8192 1 []:=⟨trivial,rfl,rfl,λ_=>⟨rfl,rfl⟩,yyf _,by show (0:Int)<=8192;decide,by show (8192:Int)<=12288;decide,s0,s1,by decide,by show (8192:Int)+(0:Nat)+2<=8192+4096;decide,rfl,rfl⟩;refine⟨⟨⟨[],8192,size,none⟩,gP,(rQ n).1,[],0,[]⟩,?_,⟨⟨hl.st rfl _,by simp,rfl,xxm,λx hx=>by cases hx⟩,zzj _,⟨⟨by simp,by show (0:Int)<=8192;decide,by show (8192:Int)<=12288;decide,s0,s1,by simp⟩,trivial,by show (0:Int)<=_;decide,λx hx=>by cases hx⟩,DT _,by show gP.ops<=_;decide,by simp,by simp,by simp⟩,rfl,rfl,rfl,λd' g hg=>?_⟩
 ·unfold kG;rw[zzb (by omega),zzy];simp only[tE];rfl
 rw[tE]at hg
 cases hg;simp[cR]

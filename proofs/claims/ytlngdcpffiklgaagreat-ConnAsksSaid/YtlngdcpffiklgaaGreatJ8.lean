/- Part. -/
import Derived.Test.YtlngdcpffiklgaaGreatJ7
import Derived.ProofKit
import Derived.OpenShut
namespace Go.Proofs.YtlngdcpffiklgaaGreat
set_option linter.all false
open Go.RowKit Go.ChangeShapes Go.WideShapes Go.ChangeAt
def uub:=@List.all_append
def vvg:=@List.getElem_append_right
def vve:=@List.drop_drop
def uuq:=@Nat.div_lt_iff_lt_mul
def uuc:=@Nat.div_add_mod
def wwe:=@Option.some.inj
def ww9:=@List.flatten_singleton
def vvu:=@Tryz.underlying130
def uut:=@Tryz.zeroValue81
def uu7:=@Option.isSome_none
def uu8:=@Option.isSome_some
def uuh:=@List.mem_replicate
def xxn:=@List.length_replicate
def uur:=@List.set_getElem_self
def uuo:=@List.getLast?_map
def xx9:=@List.getLast?_eq_getElem?
def vv5:=@List.drop_length
def BX:iB Unit:=.plain 0 (λ_=>[]) (λ_=>rfl) (λ_ u hu=>by cases hu)
def kr{α β:Type}(S:iB α)(T:iB β):iB (α × β) where
 n:=S.n+T.n
 rd:=λw M x cs=>∃c1 c2,cs=c1++c2/\S.rd w M x.1 c1/\T.rd w M x.2 c2
 len:=λ⟨c1,c2,h,h1,h2⟩=>by rw[h,zza,S.len h1,T.len h2]
 one:=λ⟨c1,c2,h,h1,h2⟩ u hu=>by
  subst h;rcases zz6.1 hu with hu|hu
  ·exact S.one h1 u hu
  exact T.one h2 u hu
 keep:=λ⟨c1,c2,h,h1,h2⟩ hf hM=>⟨c1,c2,h,S.keep h1 hf hM,T.keep h2 hf hM⟩
def iB.via{α β:Type}(T:iB α)(f:β->α):iB β where
 n:=T.n
 rd:=λw M y cs=>T.rd w M (f y) cs
 len:=λh=>T.len h
 one:=λh=>T.one h
 keep:=λh=>T.keep h
def Small{H:Type}(P:Program)(t:Ι)(d:DataW H):Prop:=(d.weights P t).all (·<=reachBytes)=true
def ng{α:Type}(P:Program)(t:Ι)(T:iB α)(ok:α->Prop):Prop:=
 P.cellsOf t=T.n/\∀{H:Type} (enc:Ι × Ε->H) (w:Ζ) (sp:Nat->Bool) (hd:Bool) (fuel:Nat) (cs:Ξ) (x:DataW H × List MemPlace),
  DataW.trod enc P w 0 sp hd fuel t cs=some x->Small P t x.1->∃a,T.rd w kM a cs/\ok a
def F9(k:IntKind)(n:Int):Prop:=(Lit.int k n).wf=true
def DG{n:Int}(h:F9 .i64 n): -9223372036854775808<=n/\n<=9223372036854775807:=by
 simpa [F9,Lit.wf,IntKind.min,IntKind.max,IntKind.signed,IntKind.bits] using h
def zD{P:Program}{t:Ι}{k:IntKind}(ht:P.underlying t=some (.int k))(hc:P.cellsOf t=1):ng P t (l6 k) (F9 k):=
 ⟨hc,λenc w sp hd fuel cs x h _=>by
  obtain⟨n,rfl,rfl,hw⟩:=DataW.trod_int ht h;exact⟨n,rfl,hw⟩⟩
def QR{P:Program}{t:Ι}(ht:P.underlying t=some .bool)(hc:P.cellsOf t=1):ng P t aia (λ_=>True):=
 ⟨hc,λenc w sp hd fuel cs x h _=>by
  obtain⟨n,rfl,rfl⟩:=DataW.trod_bool ht h;exact⟨n,rfl,trivial⟩⟩
def cC3(s:Η):Prop:=s.size<=140737488351232
def YV{P:Program}{t:Ι}(ht:P.underlying t=some .string)(hc:P.cellsOf t=1):ng P t Eb cC3:=
 ⟨hc,λenc w sp hd fuel cs x h hs=>by
  obtain⟨n,rfl,rfl,hw⟩:=DataW.trod_string ht h;refine⟨n,rfl,?_⟩;simp[Small,DataW.weights,reachBytes]at hs
  exact (zzp hs:n.size<=140737488351232)⟩
def cC2{α:Type}(b:Nat)(ok:α->Prop)(xs:List α):Prop:=xs.length*b<=140737488351232/\∀x∈xs,ok x
def awe{H:Type}{P:Program}{e:Ι}{n:Nat}:∀{l:List (DataW H)},(DataW.weightsAll P e l).all (·<=n)=true->∀d∈l,(d.weights P e).all (·<=n)=true
 | [],_,_,h=>by cases h
 | x::r,h,d,hd=>by
  simp only[DataW.weightsAll,uub,zzu]at h;rcases zz1.1 hd with rfl|hd
  ·exact h.1
  exact awe h.2 d hd
def Sk{α:Type}{p:Nat->α->Prop}:∀(n:Nat),(∀i,i<n->∃y,p i y)->∃ys:List α,ys.length=n/\∀i (h:i<ys.length),p i ys[i]
 | 0,_=>⟨[],rfl,λi h=>by simp at h⟩
 | n+1,h=>by
  obtain⟨ys,hl,hy⟩:=Sk n (λi hi=>h i (by omega));obtain⟨y,hy'⟩:=h n (by omega);refine⟨ys++[y],by simp[hl],λi hi=>?_⟩;by_cases dj:i<ys.length
  ·rw[ww0 dj];exact hy i dj
  have:i=n:=by simp at hi;omega
  subst this;rw[vvg (by omega)];simpa [hl] using hy'
def Kx{α:Type}{P:Program}{t e:Ι}{T:iB α}{ok:α->Prop}{b:Nat}(h:ng P e T ok)(ht:P.underlying t=some (.slice e))(hc:P.cellsOf t=1)(hb:P.bytesOf e=b)(xU:0<T.n):ng P t (G1 T) (cC2 b ok):=by
 refine⟨hc,λenc w sp hd fuel cs x hx hs=>?_⟩;rcases Go.Deep.open_slice ht hx with ⟨rfl,rfl⟩|⟨a,len,cap,m,n,D,Pl,rfl,_,hl,hm,vU,rfl,vN⟩
 ·exact⟨[],⟨_,rfl,lJ.nil T w kM⟩,by simp,λx hx=>by cases hx⟩
 have hle:len<=m:=by rw[vU];split<;>omega
 simp only[Small,DataW.weights,ht,hb,List.all_cons,uub,zzu,zzw,zzn,List.length_range]at hs;have cnd:∀i,i<len->∃y:α,ok y/\∃pQ,T.rd w kM y pQ/\At w kM a.block (a.off+i*T.n) pQ/\a=⟨a.block,a.off,none⟩:=λi hi=>by
  obtain⟨pQ,h1,h2⟩:=vN i (by omega);obtain⟨y,hy,cL⟩:=h.2 enc w sp hd n pQ _ h2 (awe hs.2.1 _ (zzx.2 ⟨i,by simpa using hi,rfl⟩));obtain⟨_,hlen,A9⟩:=World.cells?_some h1;have q':a.spot=none:=by
   have h0:=A9 0 (by rw[h.1];exact xU);rw[zzc (by rw[hlen,h.1];exact xU)]at h0
   cases q':a.spot with
   | none=>rfl
   | some q=>
    exfalso;by_cases vP:i*P.cellsOf e=0
    ·simp[Addr.add,vP,World.cell?,q']at h0
     split at h0<;>cases h0
    have h00:=vN 0 (by omega);obtain⟨cs0,vJ,_⟩:=h00;obtain⟨_,cn8,b_z⟩:=World.cells?_some vJ;have Fi:=b_z 0 (by rw[h.1];exact xU);rw[zzc (by rw[cn8,h.1];exact xU)]at Fi
    simp[Addr.add,World.cell?,q']at Fi
    split at Fi<;>cases Fi
  obtain⟨ab,ao,asp⟩:=a;simp only at q';subst q';refine⟨y,cL,pQ,hy,⟨λ_ x=>x,λj u hu=>?_⟩,rfl⟩;have hj:=(zzf.1 hu).1;have:=A9 j (by omega);rw[yye,yye,hu,h.1]at this
  exact this
 obtain⟨ys,F5,hy⟩:=Sk len cnd;subst F5;refine⟨ys,⟨_,rfl,some a,cap,rfl,hl,λi hi=>?_⟩,?_,λx hx=>?_⟩
 ·obtain⟨_,pQ,h1,h2,h3⟩:=hy i hi;exact⟨a.block,a.off,pQ,yy1 some h3,h1,h2⟩
 ·have:=hs.1;simp only[reachBytes]at this;rw[yyu]at this
  omega
 obtain⟨i,hi,rfl⟩:=yyl hx;exact (hy i hi).1
def Em{α:Type}(P:Program)(fs:List Field)(o:Nat)(T:iB α)(ok:α->Prop):Prop:=
 ∀{H:Type} (enc:Ι × Ε->H) (w:Ζ) (sp:Nat->Bool) (hd:Bool) (n:Nat) (cs:Ξ) (xs:List (DataW H × List MemPlace)),xs.length=fs.length ->
  (∀(i:Nat) (f:Field),fs[i]?=some f->DataW.trod enc P w 0 sp hd n f.type ((cs.drop f.offset).take (P.cellsOf f.type))=xs[i]?) ->
  (DataW.weightsEach P (fs.map (·.type)) (xs.map (·.1))).all (·<=reachBytes)=true->cs.length=o+T.n->∃a,T.rd w kM a (cs.drop o)/\ok a
def Fa(P:Program)(o:Nat):Em P [] o BX (λ_=>True):=λenc w sp hd n cs xs _ _ _ hl=>⟨(),by
 show cs.drop o=[];rw[List.drop_eq_nil_iff];have:BX.n=0:=rfl;omega,trivial⟩
def kU{α β:Type}{P:Program}{f:Field}{fs:List Field}{o:Nat}{S:iB α}{T:iB β}{Wz:α->Prop}{WA:β->Prop}(h1:ng P f.type S Wz)(ho:f.offset=o)(h2:Em P fs (o+S.n) T WA):
  Em P (f::fs) o (kr S T) (λx=>Wz x.1/\WA x.2):=λenc w sp hd n cs xs hl hx hs hc=>by
 match xs,hl with
 | y::ys,hl=>
  have T8:(kr S T).n=S.n+T.n:=rfl;simp only[zzr,DataW.weightsEach,uub,zzu]at hs;have e0:=hx 0 f rfl;rw[ho,h1.1]at e0
  obtain⟨a,ha,cwk⟩:=h1.2 enc w sp hd n _ y e0 hs.1;obtain⟨b,hb,cwl⟩:=h2 enc w sp hd n cs ys (by simpa using hl) (λi g hg=>by simpa using hx (i+1) g (by simpa using hg)) hs.2 (by omega);refine⟨(a,b),⟨_,_,?_,ha,hb⟩,cwk,cwl⟩;rw[<- vve];exact (yyk _ _).symm
def yr{α:Type}{P:Program}{t:Ι}{fs:Array Field}{T:iB α}{ok:α->Prop}(ht:P.underlying t=some (.struct fs))(hc:P.cellsOf t=T.n)(h:Em P fs.toList 0 T ok):ng P t T ok:=
 ⟨hc,λenc w sp hd fuel cs x hx hs=>by
  obtain⟨xs,n,_,rfl,hl,hlen,hf⟩:=DataW.trod_struct ht hx;simp only[Small,DataW.weights,ht]at hs;obtain⟨a,ha,cL⟩:=h enc w sp hd n cs xs (by simpa using hlen) (λi f hi=>hf i f (by simpa using hi)) hs (by omega);exact⟨a,by simpa using ha,cL⟩⟩
def y4{α β:Type}{P:Program}{t:Ι}{T:iB α}{ok:α->Prop}(f:β->α)(g:α->β)(hg:∀a,f (g a)=a)(h:ng P t T ok):ng P t (T.via f) (λb=>ok (f b)):=
 ⟨h.1,λenc w sp hd fuel cs x hx hs=>by
  obtain⟨a,ha,cL⟩:=h.2 enc w sp hd fuel cs x hx hs;exact⟨g a,by show T.rd w kM (f (g a)) cs;rw[hg];exact ha,by show ok (f (g a));rw[hg];exact cL⟩⟩
def Zp{α:Type}{P:Program}{t:Ι}{T:iB α}{ok Wy:α->Prop}(h:ng P t T ok)(hi:∀a,ok a->Wy a):ng P t T Wy:=
 ⟨h.1,λenc w sp hd fuel cs x hx hs=>let ⟨a,ha,cL⟩:=h.2 enc w sp hd fuel cs x hx hs;⟨a,ha,hi a cL⟩⟩
def air{H:Type}{enc:Ι × Ε->H}{P:Program}(hl:laidOutB P=true){W W':Ζ}(hb:Below W.heap.size W W'):∀{ts:List Ι} {vs:Ξ} {ds:List (DataW H)} {ps:List MemPlace},
  (∀t∈ts,P.readableRec t=true/\t<P.types.size)->DataW.TrodAll enc P W 0 (λ_=>true) true ts vs ds ps->(∀x∈ps,x.block<W.heap.size)->DataW.TrodAll enc P W' 0 (λb=>decide (b<W.heap.size)) true ts vs ds ps
 | [],_,_,_,_,h,_=>by
  obtain⟨rfl,rfl,rfl⟩:=trodAll_nil h;exact trodAll_mk0
 | t::ts,_,_,_,hr,h,dj=>by
  obtain⟨v,vs1,d,ds1,a,b,rfl,rfl,rfl,h1,h2⟩:=trodAll_cons h;exact⟨a,b,Below.trod hl (hr t (by simp)).1 (hr t (by simp)).2 h1 hb (λx hx=>dj x (by simp[hx])),air hl hb (λt ht=>hr t (by simp[ht])) h2 (λx hx=>dj x (by simp[hx])),rfl⟩
def cXp{H:Type}{enc:Ι × Ε->H}{P:Program}{f:Func}{s:ChangeSpec}{tb:Ι}(hl:laidOutB P=true)(hr:∀t∈f.params.toList,P.readableRec t=true/\t<P.types.size)
  (U6:s.vars=[]) (Dv:f.resultTypes = #[tb]) (hb:P.underlying tb=some .bool) (FI:∀ds:List (DataW H),ds.length=f.params.size->(s.fn H ds).results=[.lit (.bool true)]/\(s.fn H ds).args=ds/\(s.fn H ds).vars=[])
  {W W':Ζ} {args:Array Ε} {ds gs:List (DataW H)} {before:List MemPlace} (hW:DataW.Whole enc P f.params.toList s.vars false W args.toList ds gs before) (T0:Below W.heap.size W W') :
  s.post enc P f false true false false W args (.bool true) W':=by
 have dj:=hW.lt;have Fs:=hW;obtain⟨p,q,hA,hV,rfl,hfz,_⟩:=hW;rw[U6]at hV
 obtain⟨rfl,rfl⟩:=trodVars_none hV;have hlen:∀{ts:List Ι} {vs:Ξ} {ds:List (DataW H)} {ps:List MemPlace} {w:Ζ} {base:Nat} {sp:Nat->Bool} {hd:Bool},DataW.TrodAll enc P w base sp hd ts vs ds ps->ds.length=ts.length:=by
  intro ts;induction ts with
  | nil=>intro vs ds ps w base sp hd h;obtain⟨rfl,rfl,rfl⟩:=trodAll_nil h;rfl
  | cons t ts ih=>intro vs ds ps w base sp hd h;obtain⟨v,vs1,d,ds1,a,b,rfl,rfl,rfl,_,h2⟩:=trodAll_cons h;simp[ih h2]
 obtain⟨e1,e2,e3⟩:=FI ds (by simpa using hlen hA);refine⟨ds,[],p++[],[],p,[],Fs,?_,?_,?_,T0.frame _,λh=>by cases h⟩
 ·rw[zz2,e1,Dv];exact trodAll_mk1 (shut_bool hb true)
 ·rw[zz2,e2];exact air hl T0 hr hA (λx hx=>dj x (by simp[hx]))
 rw[zz2,e3,U6];rfl
def Vv:Option TypeDesc->Bool
 | some .bool|some (.int _)|some .string|some (.slice _)=>true
 | _=>false
def bR3{P:Program}{w:Ζ}{r:Reach}{b0:Nat}{t:Ι}{v:Ε}(hf:Vv (P.underlying t)=true)(oM:Value.okWide P w r b0 t v):v.cells.toList=[v]:=by
 unfold Value.okWide at oM;cases hu:P.underlying t with
 | none=>rw[hu]at hf;cases hf
 | some d=>
  rw[hu]at hf oM
  cases d<;>first|(cases hf;done)|(unfold Cell.okWide Cell.ok at oM;rw[hu]at oM;cases v<;>first|rfl|(exfalso;simp_all))
def cVq{α:Type}{P:Program}{t:Ι}{T:iB α}{ok:α->Prop}{H:Type}{enc:Ι × Ε->H}{W:Ζ}{r:Reach}{b0:Nat}{v:Ε}{d:DataW H}{ps:List MemPlace}{sp:Nat->Bool}{hd:Bool}
  (h:ng P t T ok) (hf:Vv (P.underlying t)=true) (oM:Value.okWide P W r b0 t v) (h0:DataW.Trod enc P W 0 sp hd t v d ps) (hs:Small P t d):∃a,T.rd W kM a [v]/\ok a:=by
 obtain⟨fuel,hx⟩:=h0;rw[bR3 hf oM]at hx
 exact h.2 enc W sp hd fuel [v] _ hx hs
def cVp{α:Type}{P:Program}{t:Ι}{fs:Array Field}{T:iB α}{ok:α->Prop}{H:Type}{enc:Ι × Ε->H}{W:Ζ}{r:Reach}{b0:Nat}{v:Ε}{d:DataW H}{ps:List MemPlace}{sp:Nat->Bool}{hd:Bool}
  (h:ng P t T ok) (ht:P.underlying t=some (.struct fs)) (oM:Value.okWide P W r b0 t v) (h0:DataW.Trod enc P W 0 sp hd t v d ps) (hs:Small P t d):∃a cs,v= .agg cs/\T.rd W kM a cs.toList/\ok a:=by
 obtain⟨fuel,hx⟩:=h0;unfold Value.okWide at oM;rw[ht]at oM
 obtain⟨cs,rfl,_⟩:=oM;obtain⟨a,h1,h2⟩:=h.2 enc W sp hd fuel _ _ hx hs;exact⟨a,cs,rfl,h1,h2⟩
open Go.RowKit
def Hb(P:Program)(f:FuncId)(args:Ξ)(w:Ζ):Prop:=zB P f args w λv w'=>v= .bool true/\Below w.heap.size w w'
def qN{P:Program}{f:FuncId}{args:Ξ}{w:Ζ}(h:Spec P f args [.mem (bw.of w)] λv post=>v= .bool true/\∃H l,(bw.of w).le H/\post= .mem H::l):Hb P f args w:=by
 refine (h w [] w (SL.init w)).mono ?_;rintro v w' ⟨post,⟨rfl,H,l,hH,rfl⟩,hS⟩;exact⟨rfl,hS.below (.hd) hH⟩
def Hb.calls{P:Program}{f:FuncId}{args:Ξ}{w:Ζ}(h:Hb P f args w):Calls P f args.toArray w λe w'=>e= .returned (.bool true)/\Below w.heap.size w w':=
 ttj h λe w' ⟨v,he,hv,hb⟩=>⟨by rw[he,hv],hb⟩
def lJ.flat{α:Type}{T:iB α}{enc:α->Ξ}{w:Ζ}{xs:List α}{v:Ε}(h:lJ T w kM xs v)(he:∀{M x cs},T.rd w M x cs->cs=enc x)(hn:∀x,(enc x).length=T.n):
  de (bw.of w) T.n v xs.length (xs.map enc).flatten:=by
 obtain⟨a,cap,rfl,hc,hx⟩:=h.out;have hlen:(xs.map enc).flatten.length=xs.length*T.n:=by
  rw[IE (n:=T.n) _ (λx hx=>by obtain⟨y,_,rfl⟩:=zzx.1 hx;exact hn y),zzn]
 refine⟨hlen,a,cap,rfl,hc,?_⟩;rcases yy6 xs.length with h0|h0
 ·exact .inl h0
 right;obtain⟨b,off,_,rfl,_,_⟩:=hx 0 h0;refine⟨b,off,rfl,λj u hu=>?_⟩;have hj:=(zzf.1 hu).1;rcases yy6 T.n with hz|hz
 ·rw[hlen,hz]at hj;omega
 have hi:j / T.n<xs.length:=by rw[hlen]at hj;exact (uuq hz).2 hj
 obtain⟨b',cCu,cs,p4,hr,iu⟩:=hx (j / T.n) hi;simp at p4;obtain⟨rfl,rfl⟩:=p4;have iP:=he hr;subst iP;have xO:j % T.n<(enc xs[j / T.n]).length:=by rw[hn];exact vvj _ hz
 have hg:=Ff (n:=T.n) (xs.map enc) (λx hx=>by obtain⟨y,_,rfl⟩:=zzx.1 hx;exact hn y) (j / T.n) (j % T.n) (by simpa using hi) ((enc xs[j / T.n])[j % T.n]'xO) (by simp[zzc xO]);have Jb:j / T.n*T.n+j % T.n=j:=by rw[Nat.mul_comm];exact uuc j T.n
 rw[Jb]at hg
 rw[hu]at hg
 have JM:u=(enc xs[j / T.n])[j % T.n]:=wwe hg;have:=iu.2 (j % T.n) u (by rw[JM];exact zzc xO);rw[show off+j / T.n*T.n+j % T.n=off+j by omega]at this
 unfold World.cell? at this;unfold bw.cell bw.of;simp only at this ⊢;split at this
 ·rename_i c t f lk;rw[lk];simpa using this
 cases this
def IC{α:Type}{enc:α->Ξ}{n:Nat}{xs:List α}(hn:∀x,(enc x).length=n){j i:Nat}(hj:j<xs.length){u:Ε}(hu:(enc xs[j])[i]?=some u):((xs.map enc).flatten)[j*n+i]?=some u:=
 Ff (n:=n) (xs.map enc) (λx hx=>by obtain⟨y,_,rfl⟩:=zzx.1 hx;exact hn y) j i (by simpa using hj) u (by simpa using hu)
set_option maxRecDepth 100000
structure sf(X:Μ)(sz:Nat)(v:Ε)(n:Nat)(cs:Ξ):Prop where
 sl:∀{W w:Ζ} {l:Β},SL W l w->Has X l->∃a c,v= .slice a n c/\n<=c
 src:∀{W w:Ζ} {l:Β},SL W l w->Has X l->kL w sz v n cs
def sf.own{v:Ε}{t:Ι}{sz n:Nat}{cs:Ξ}:sf (.ob (bF v t sz n cs)) sz v n cs:=
 ⟨λh m=>by
  obtain⟨l2,r⟩:=m.rem;rcases bF.open (h.perm r.perm) with ⟨⟨a',rfl⟩,rfl,_,_⟩|⟨b',ES,rest,rfl,hc,_⟩
  ·exact⟨a',0,rfl,zzi _⟩
  exact⟨_,_,rfl,hc⟩,λh m=>nG h m⟩
def sf.pt{p n sz:Nat}{t:Ι}{cs:Ξ}(h:cs.length=n*sz):sf (.pt p cs t) sz (.slice (some ⟨p,0,none⟩) n n) n cs:=
 ⟨λ_ _=>⟨_,_,rfl,zzi _⟩,λhS m=>jR hS m h⟩
section
variable {W w:Ζ} {l:Β} {X:Μ} {v:Ε} {sz n:Nat} {cs:Ξ}
def Q4{K:Ε->Prop}(hS:SL W l w)(m:Has X l)(hb:sf X sz v n cs)(k:K (Γ n)):zd v K:=by
 obtain⟨a,c,rfl,_⟩:=hb.sl hS m;exact z7 k
def cGv{α:Type}{enc:α->Ξ}{xs:List α}{j:Nat}{kk:IntKind}{K:Ε->Prop}(hS:SL W l w)(m:Has X l)(hb:sf X sz v n (xs.map enc).flatten)(he:∀x,(enc x).length=sz)(f_:0<sz)(hx:xs.length=n)(hj:j<n)
  (hK:K (.agg (enc (xs[j]'(by omega))).toArray)):zk sz v (.int kk (j:Int)) λp=>ze sz p w K:=by
 obtain⟨a,c,rfl,hc⟩:=hb.sl hS m;have hs:=hb.src hS m;have hlen:(xs.map enc).flatten.length=n*sz:=by
  rw[<- hx];clear hx hs hb hK hj hc;induction xs with
  | nil=>simp
  | cons x xs ih=>simp[he,ih,yyu];omega
 cases a with
 | none=>
  have e:(xs.map enc).flatten=[]:=hs.2;have e2:(enc (xs[j]'(by omega))).length=0:=by
   rw[e]at hlen
   simp only[yym]at hlen;rw[he];rcases yy6 sz with h|h
   ·exact h
   have:0<n*sz:=Nat.mul_pos (by omega) h;omega
  rw[he]at e2;omega
 | some p=>
  refine⟨p,_,c,kk,j,rfl,rfl,hj,?_⟩;refine⟨_,enc (xs[j]'(by omega)),rfl,he _,λi u hu=>?_,hK⟩;rw[RM];refine hs.2.2 (j*sz+i) u ?_;exact IC he (by omega) hu
end
def r_(X:Μ)(l:List dK)(u:Ε)(post:Β):Prop:=match oG l with
 | .error e=>u= .tuple #[Θ,Γ e]/\post=[X]
 | .ok b=>∃v,u= .tuple #[v,Γ 0]/\post=[.ob (bF v 5 1 b.length (b.map dd)),X]
def r_.er{X:Μ}{l:List dK}{e:Int}(h:oG l= .error e):r_ X l (.tuple #[Θ,Γ e]) [X]:=by
 unfold r_;rw[h];exact⟨rfl,rfl⟩
def r_.ok{X:Μ}{l:List dK}{b:Φ}(h:oG l= .ok b)(v:Ε):r_ X l (.tuple #[v,Γ 0]) [.ob (bF v 5 1 b.length (b.map dd)),X]:=by
 unfold r_;rw[h];exact⟨v,rfl,rfl⟩
def bIp{x:dK}(h:oU x=true):(fD x).length<=5000:=by
 unfold fD;unfold oU at h;by_cases h1:x.kind=1
 ·rw[zzd h1];simp[lV]
 rw[zzb h1]at h ⊢
 by_cases h2:x.kind=2
 ·rw[zzd h2]at h
  have h3:x.s.size<=4096:=by
   rw[zzu]at h
   exact zzp h.2
  have:x.s.data.toList.length=x.s.size:=rfl;simp only[zzj,zza,lV];omega
 rw[zzb h2]at h;cases h
def S_:∀{l:List dK},l.all oU=true->(l.map fD).flatten.length<=l.length*5000
 | [],_=>by simp
 | x::l,h=>by
  rw[List.all_cons,zzu]at h
  have h1:=bIp h.1;have h2:=S_ h.2;simp only[zzr,zz9,zza,zzj];omega
def yG(X:Μ)(v:Ε)(xs:List dK)(hx:sf X 3 v xs.length (xs.map gk).flatten)(hN:xs.length<=140737488355328):SP 210 [v] [X] (r_ X xs):=by
 refine Enzz λW F w hS=>?_;apply cN4;delta aI a_ aW cP ai cR bR;refine Q4 hS .hd hx ?_;refine cA (λh=>?_) (λh=>?_)
 ·exact⟨_,.er (by unfold oG;rw[zzd (by omega)]),hS⟩
 refine Q4 hS .hd hx ?_;refine zW ?_;rw[wrap_u64 (by omega) (by omega)];have hS:=bF.nil (t:=5) (sz:=1) hS;have hS:SL W (.ob (bF Θ 5 1 ([]:Φ).length (([]:Φ).map dd))::X::F) w:=hS;refine Cc (ZE [] Θ xs.length 2 (by omega) (by simp)) ?_;clear hS;rintro ue post rfl w hS;(try simp only[app]at hS);rw[zzq]at hS
 refine Q4 hS Xh hx ?_;have hb:∀i,i<=xs.length->(xs.take i).all oU=true->(eZ xs.length 2++((xs.take i).map fD).flatten).length<=200000000:=λi hi ha=>by
  have:=S_ ha;rw[zza,lV];rw[zzg]at this
  omega
 refine⟨λvs w=>∃(i:Nat) (u:Ε),i<=xs.length/\vs=[u,Γ i]/\(xs.take i).all oU=true/\SL W (.ob (bF u 5 1 (eZ xs.length 2++((xs.take i).map fD).flatten).length ((eZ xs.length 2++((xs.take i).map fD).flatten).map dd))::X::F) w,λvs _=>match vs with
  | [_,.int _ i]=>xs.length-i.toNat
  | _=>0,⟨0,ue,by omega,rfl,rfl,(by simpa using hS)⟩,?_⟩
 clear hS;rintro u1 u2 w1 ⟨i,u,hi,hv,ha,hS⟩;cases hv;have hbi:=hb i hi ha;refine cA (λh=>?_) (λh=>?_)
 ·have hi:i<xs.length:=by omega
  refine cGv hS Xh hx CP (by omega) rfl hi ?_;have JT:xs[i]∈xs:=zzh hi;have mT:xs.take (i+1)=xs.take i++[xs[i]]:=by rw[ww7];simp[hi]
  generalize xs[i]=x at *
  unfold gk;refine Gm λb w hS=>?_;refine Cc (qX x) ?_;clear hS;rintro v post ⟨rfl,rfl⟩ w hS;(try simp only[app]at hS);refine z8 ?_;cases hr:oU x with
  | false=>
   refine zq ?_;refine⟨[X],.er ?_,aR hS⟩;unfold oG;rw[zzb (by omega),zzb];intro h;have:=zz5.1 h x JT;rw[hr]at this;cases this
  | true=>
   refine zp ?_;have xy:(xs.take (i+1)).all oU=true:=by rw[mT,uub,ha];simp[hr]
   have rF:=hb (i+1) (by omega) xy;have ll:((xs.take (i+1)).map fD).flatten=((xs.take i).map fD).flatten++fD x:=by rw[mT];simp
   rw[ll]at rF
   rw[zza,zza]at rF
   have hk:x.kind=1\/x.kind=2:=by
    unfold oU at hr;by_cases h1:x.kind=1
    ·exact .inl h1
    rw[zzb h1]at hr
    by_cases h2:x.kind=2
    ·exact .inr h2
    rw[zzb h2]at hr;cases hr
   generalize hc:eZ xs.length 2++((xs.take i).map fD).flatten=c at *
   have mP:c.length+(fD x).length<=200000000:=by rw[<- hc,zza];omega
   refine Gp ?_;refine zW ?_;rw[wrap_u8];refine zM (cells:=[dd (gY x.kind)]) hS rfl ?_;clear hS;intro p w hS;refine zJ (m:=1) (cs:=[dd (gY x.kind)]) hS Xr (jR hS .hd rfl) rfl rfl (by intro v hv;simp only[zz8]at hv;subst hv;rfl) (by omega) (by omega) ?_;clear hS;intro u' w hS;refine Gp ?_;have hS:SL W (.ob (bF u' 5 1 (c++[gY x.kind]).length ((c++[gY x.kind]).map dd))::.pt b [Γ x.kind,Γ x.n,.string x.s] 331::X::F) w:=by
    simp only[zza,zzj,yym,zzt,zzr,yy8];exact aR hS
   refine za (λh1=>?_) (λh1=>?_)
   ·refine Gp ?_;refine zW ?_;have eu:IntKind.u64.wrap x.n=wC x.n:=rfl;rw[eu];refine Cc (ZE (c++[gY x.kind]) u' (wC x.n) 8 (by omega) (by simp;omega)) ?_;clear hS;rintro v36 post rfl w hS;(try simp only[app]at hS);refine Gp ?_;refine⟨⟨i+1,v36,by omega,rfl,xy,?_⟩,?_⟩
    ·have e:eZ xs.length 2++((xs.take (i+1)).map fD).flatten=c++[gY x.kind]++eZ (wC x.n) 8:=by
      rw[ll,<- zzk,hc];have:fD x=gY x.kind::eZ (wC x.n) 8:=by unfold fD;rw[zzd h1]
      rw[this];simp
     rw[e];exact aR hS
    simp only[zzz];omega
   have f_:x.s.size<=4096:=by
    unfold oU at hr;rw[zzb h1,zzd (by omega),zzu]at hr
    exact zzp hr.2
   have Uf:fD x=gY x.kind::(eZ x.s.size 2++x.s.data.toList):=by unfold fD;rw[zzb h1]
   refine Gn λw hS=>?_;refine zW ?_;rw[wrap_u64 (by omega) (by omega)];refine Gp ?_;refine Cc (ZE (c++[gY x.kind]) u' x.s.size 2 (by omega) (by simp;omega)) ?_;clear hS;rintro v42 post rfl w hS;(try simp only[app]at hS);refine Gp ?_;have JI:x.s.data.toList.length=x.s.size:=rfl;have vN:(fD x).length=1+(2+x.s.size):=by rw[Uf];simp only[zzj,zza,lV];omega
   refine zJ (m:=x.s.size) (cs:=x.s.data.toList.map dd) hS Xr cIt (by simp) rfl (vk _) (by simp only[zza,zzj,yym,lV];omega) (by simp only[zza,zzj,yym,lV];omega) ?_;clear hS;intro v45 w hS;refine Gp ?_;refine⟨⟨i+1,v45,by omega,rfl,xy,?_⟩,?_⟩
   ·have e:eZ xs.length 2++((xs.take (i+1)).map fD).flatten=(c++[gY x.kind]++eZ x.s.size 2)++x.s.data.toList:=by
     rw[ll,<- zzk,hc,Uf];simp
    rw[e];generalize c++[gY x.kind]++eZ x.s.size 2=A at *
    rw[zza,zzt,JI];exact aR hS
   simp only[zzz];omega
 obtain rfl:i=xs.length:=by omega
 rw[zz0]at hS ha
 exact⟨_,.ok (by unfold oG;rw[zzb (by omega),zzd ha]) u1,hS⟩
abbrev oy:=Ε × Φ
def gO(x:oy):zC:=bF x.1 5 1 x.2.length (x.2.map dd)
def gC(es:List oy):Ξ:=es.map Prod.fst
def o9(es:List oy):List Φ:=es.map Prod.snd
def aIa(X:Μ)(q:Φ)(r:Ε)(post:Β):Prop:=∃(u:Ε) (es:List oy),o9 es=(jy q).1/\r= .tuple #[u,Γ ((jy q).2:Nat)]/\post=[.ob (bF u 198 1 es.length (gC es)),.ob (zh gO es),X]
def cHr(X:Μ)(v:Ε)(q:Φ)(hq:dX X v q)(hN:q.length<=10000000000):SP 318 [v] [X] (aIa X q):=by
 refine Enzz λW F w hS=>?_;apply cQp;delta aI ai bR;have hS:=bF.nil (t:=198) (sz:=1) (zh.nil (A:=gO) hS);refine⟨λvs w=>∃(u:Ε) (es:List oy) (at_:Nat),vs=[u,Γ at_]/\at_<=q.length/\es.length*8<=at_/\o9 es++(jy (q.drop at_)).1=(jy q).1/\at_+(jy (q.drop at_)).2=(jy q).2 /\
   SL W (.ob (bF u 198 1 es.length (gC es))::.ob (zh gO es)::X::F) w,λvs _=>match vs with
  | [_,.int _ i]=>q.length-i.toNat
  | _=>0,⟨_,[],0,rfl,zz4 _,zzi _,rfl,by simp,hS⟩,?_⟩
 clear hS;rintro u1 u2 w1 ⟨u,es,i,hv,hi,h8,h1,h2,hS⟩;cases hv;refine XF hS Xh hq hi ?_;intro v12 dF;refine Cc (Y3 X v12 (q.drop i) dF (by rw[zzs];omega)) ?_;clear hS;intro ue post hQ w hS;unfold uh at hQ;cases ht:gZ (q.drop i) with
 | error e=>
  rw[ht]at hQ
  obtain⟨rfl,rfl⟩:=hQ;(try simp only[app]at hS);refine Gp ?_
  have he:=aih ht;rw[D8 ht]at h1 h2
  refine Υ ?_;refine⟨_,⟨u1,es,by simpa using h1,?_,rfl⟩,aR hS⟩;rw[<- h2];rfl
 | ok x=>
  obtain⟨p,n⟩:=x;rw[ht]at hQ
  obtain⟨y,rfl,rfl⟩:=hQ;(try simp only[app]at hS);refine Gp ?_
  have hl:=Ee ht;rw[GP ht]at h1 h2
  rw[zzs]at hl
  refine Χ ?_;have tO:=hS.rQ .hd;obtain⟨ay,cy,ey,_⟩:=bF.at hS .hd;subst ey;refine zM (cells:=[.slice ay p.length cy]) hS rfl ?_;clear hS;intro b w hS;refine zJ (m:=1) (cs:=[.slice ay p.length cy]) hS Xr (jR hS .hd rfl) rfl rfl (by intro v hv;simp only[zz8]at hv;subst hv;rfl) (by omega) (by omega) ?_;clear hS;intro u' w hS;have hS:=zh.snoc (A:=gO) (xs:=es) (x:=(.slice ay p.length cy,p)) (SL.cD hS (t:=.ob (zh gO es)::.ob (bF (.slice ay p.length cy) 5 1 p.length (p.map dd))::.ob (bF u' 198 1 (es.length+1) (gC es++[.slice ay p.length cy]))::X::F) Xi);refine ZH (a:=i) (b:=n) (by omega) ?_;refine⟨⟨u',es++[(.slice ay p.length cy,p)],i+n,rfl,by omega,by simp;omega,?_,?_,?_⟩,?_⟩
  ·rw[<- h1,<- vve];simp[o9]
  ·rw[<- h2,<- vve];simp only;omega
  ·rw[show (es++[((Value.slice ay p.length cy,p):oy)]).length=es.length+1 by simp,show gC (es++[((Value.slice ay p.length cy,p):oy)])=gC es++[.slice ay p.length cy] by simp[gC]];exact aR hS
  simp only[zzz];omega
def bIq{n:Nat}(h:n<=1099511627776):oG [⟨1,n,⟨#[]⟩⟩]= .ok (dZ n):=by
 have e:wC (n:Int)=(n:Int):=by unfold wC;omega
 unfold oG;rw[zzb (by simp),zzd (by simp[oU])];show Except.ok (eZ ((1:Nat):Int) 2++(fD ⟨1,n,⟨#[]⟩⟩++[]))=_;unfold fD;rw[zzd rfl,e];show Except.ok ([gY ((1:Int).fdiv (2 ^ (8*1))),gY ((1:Int).fdiv (2 ^ (8*0)))]++(gY 1::eZ n 8++[]))=_;rw[zz2];rfl
def G9(n:Int)(r:Ε)(post:Β):Prop:=if n<1\/1099511627776<n then r= .tuple #[Θ,Γ 1]/\post=[] else ∃u,r= .tuple #[u,Γ 0]/\post=[.ob (bF u 5 1 (dm (dZ n.toNat)).length ((dm (dZ n.toNat)).map dd))]
def qk(n:Int):SP 329 [Γ n] [] (G9 n):=by
 refine Enzz λW F w hS=>?_;apply cQ1;delta aI ai cR bR;unfold G9;refine cA (λh=>?_) (λh=>?_)
 ·exact⟨[],by rw[zzd (.inl h)];exact⟨rfl,rfl⟩,hS⟩
 refine cA (λh2=>?_) (λh2=>?_)
 ·exact⟨[],by rw[zzd (.inr h2)];exact⟨rfl,rfl⟩,hS⟩
 obtain⟨k,rfl⟩:=wwi (show 0<=n by omega);have hx:=bIq (n:=k) (by omega);refine yZ (cells:=gk ⟨1,k,⟨#[]⟩⟩) rfl ?_;refine zM (cells:=gk ⟨1,k,⟨#[]⟩⟩) hS rfl ?_;clear hS;intro p w hS;refine Cc (yG (.pt p (gk ⟨1,k,⟨#[]⟩⟩) 331) _ [⟨1,k,⟨#[]⟩⟩] (sf.pt rfl) (by simp)) ?_;clear hS;intro v post hQ w hS;unfold r_ at hQ;rw[hx]at hQ
 obtain⟨u,rfl,rfl⟩:=hQ;(try simp only[app]at hS);refine Gp ?_
 refine Χ ?_;refine Cc (Yj (.ob (bF u 5 1 (dZ k).length ((dZ k).map dd))) u (dZ k) dX.own (by rw[A_];omega)) ?_;clear hS;intro v post hQ w hS;unfold s7 at hQ;rw[zzb (by rw[A_];omega)]at hQ
 obtain⟨y,rfl,rfl⟩:=hQ;(try simp only[app]at hS);refine Gp ?_
 refine⟨[.ob (bF y 5 1 (dm (dZ k)).length ((dm (dZ k)).map dd))],?_,aR hS⟩;rw[zzb (by omega)];exact⟨y,rfl,rfl⟩
abbrev LL(rp:Nat)(lv:Ε)(n f:Int)(es:List oy):Β:=[.pt rp [lv,Γ n,Γ f] 440,.ob (bF lv 198 1 es.length (gC es)),.ob (zh gO es)]
def p6(es:List oy):Option Int:=match es with
 | []=>none
 | e::_=>pk e.2
def Yr(rp:Nat)(lv:Ε)(n f:Int)(es:List oy):SP 319 [Δ rp] (LL rp lv n f es) (cE (.bool (p6 es).isSome) (LL rp lv n ((p6 es).getD f) es)):=by
 refine Enzz λW F w hS=>?_;apply cQq;delta aI a_ c_ b_ cz ai;refine Gp ?_;refine zz hS (t:=198) (sz:=1) (n:=es.length) (cells:=gC es) Xh ?_;refine cA (λh=>?_) (λh=>?_)
 ·have:es=[]:=zzl (by omega);subst this;exact⟨_,⟨rfl,rfl⟩,hS⟩
 obtain⟨e,es,rfl⟩:∃e iV,es=e::iV:=by
  cases es with
  | nil=>simp at h
  | cons e iV=>exact⟨e,iV,rfl⟩
 refine Gp ?_;refine yg (j:=0) hS (t:=198) (n:=(e::es).length) (cells:=gC (e::es)) Xh (by simp) (u:=e.1) rfl ?_;have hS:=zh.take (t:=0) (x:=e) (SL.cD hS (t:=.ob (zh gO (e::es))::.pt rp [lv,Γ n,Γ f] 440::.ob (bF lv 198 1 (e::es).length (gC (e::es)))::F) Xi) rfl;have jY:∀{w:Ζ} {k:Int},SL W (.ob (gO e)::.ob (zh gO ((e::es).eraseIdx 0))::.pt rp [lv,Γ n,Γ k] 440::.ob (bF lv 198 1 (e::es).length (gC (e::es)))::F) w ->
   SL W (.pt rp [lv,Γ n,Γ k] 440::.ob (bF lv 198 1 (e::es).length (gC (e::es)))::.ob (zh gO (e::es))::F) w:=λ{w k} h=>by
  have h2:SL W (.ob (zh gO (e::es))::.pt rp [lv,Γ n,Γ k] 440::.ob (bF lv 198 1 (e::es).length (gC (e::es)))::F) w:=zh.put h (by simp);exact SL.cD h2 Xi
 have hR:dX (.ob (gO e)) e.1 e.2:=dX.own;refine Cc (yF (.ob (gO e)) e.1 e.2 hR) ?_;clear hS;intro v post hQ w hS;unfold wG at hQ;have hh:p6 (e::es)=pk e.2:=rfl;rw[hh];unfold pk;cases hd:jM e.2 with
 | error k=>
  rw[hd]at hQ
  obtain⟨rfl,rfl⟩:=hQ;(try simp only[app]at hS);refine Gp ?_
  have hk:k≠0:=by
   intro hk;rw[Ij]at hd
   split at hd
   ·cases hd
   rename_i h0;cases hd;exact h0 hk
  refine za (λ_=>?_) (λh=>absurd hk h);exact⟨_,⟨rfl,rfl⟩,jY hS⟩
 | ok l=>
  rw[hd]at hQ
  obtain⟨y,rfl,rfl⟩:=hQ;(try simp only[app]at hS);refine Gp ?_
  refine Χ ?_;refine zz hS (t:=331) (sz:=3) (n:=l.length) (cells:=(l.map gk).flatten) Xh ?_;refine cA (λh1=>?_) (λh1=>?_)
  ·have:FC l=none:=by
    match l,h1 with
    | [],_=>rfl
    | [x],h1=>simp at h1
    | _::_::_,_=>rfl
   simp only[this];exact⟨_,⟨rfl,rfl⟩,jY (k:=f) (aR hS)⟩
  obtain⟨x,rfl⟩:∃x,l=[x]:=List.length_eq_one_iff.1 (by omega);have hx:FC [x]=if x.kind=1/\1<=x.n/\x.n<=1099511627776 then some x.n else none:=rfl
  simp only[hx];refine yh (j:=0) (i:=0) (x:=x) (xs:=[x]) hS (t:=331) (sz:=3) (n:=1) Xh CP rfl (by omega) (u:=Γ x.kind) rfl ?_;refine cA (λh2=>?_) (λh2=>?_)
  ·rw[zzb (by omega)];exact⟨_,⟨rfl,rfl⟩,jY (k:=f) (aR hS)⟩
  refine yh (j:=0) (i:=1) (x:=x) (xs:=[x]) hS (t:=331) (sz:=3) (n:=1) Xh CP rfl (by omega) (u:=Γ x.n) rfl ?_;refine cA (λh3=>?_) (λh3=>?_)
  ·rw[zzb (by omega)];exact⟨_,⟨rfl,rfl⟩,jY (k:=f) (aR hS)⟩
  refine yh (j:=0) (i:=1) (x:=x) (xs:=[x]) hS (t:=331) (sz:=3) (n:=1) Xh CP rfl (by omega) (u:=Γ x.n) rfl ?_;refine cA (λh4=>?_) (λh4=>?_)
  ·rw[zzb (by omega)];exact⟨_,⟨rfl,rfl⟩,jY (k:=f) (aR hS)⟩
  rw[zzd ⟨by omega,by omega,by omega⟩];refine yh (j:=0) (i:=1) (x:=x) (xs:=[x]) hS (t:=331) (sz:=3) (n:=1) Xh CP rfl (by omega) (u:=Γ x.n) rfl ?_;refine Gn λw hS=>?_;exact⟨_,⟨rfl,rfl⟩,jY (k:=x.n) (aR hS)⟩
def Ev(X:Μ)(q:Φ)(r:Ε)(post:Β):Prop:=match gN q with
 | none=>r= .tuple #[Γ 0,Θ,Γ 0,Γ 3]/\post=[X]
 | some (f,l,n)=>∃(u:Ε) (es:List oy),o9 es=l/\r= .tuple #[Γ f,u,Γ (n:Nat),Γ 0]/\post=[.ob (dB u 198 1 es.length (gC es)),.ob (zh gO es),X]
def cFp(es:List oy)(n:Nat):Option (Int × List Φ × Nat):=match es with
 | []=>none
 | e::iV=>(pk e.2).map λk=>(k,o9 iV,n)
def cFs{q:Φ}{es:List oy}(he:o9 es=(jy q).1):gN q=cFp es (jy q).2:=by
 unfold gN;rw[<- he];cases es with
 | nil=>rfl
 | cons e es=>rfl
def qm(X:Μ)(v:Ε)(q:Φ)(hq:dX X v q)(hN:q.length<=10000000000):SP 266 [v] [X] (Ev X q):=by
 refine Enzz λW F w hS=>?_;apply cPe;delta bW aW b_ cP ai bR;refine Cc (cHr X v q hq hN) ?_;clear hS;rintro r post ⟨u,es,he,rfl,rfl⟩ w hS;(try simp only[app]at hS);have tO:=hS.rQ .hd;obtain⟨au,cu,eu,_⟩:=bF.at hS .hd;subst eu;refine Gp ?_;refine⟨_,rfl,zE hS ?_⟩;clear hS;intro rp w hS;have hS:SL W (.pt rp [.slice au es.length cu,Γ ((jy q).2:Nat),Γ 0] 440::.ob (bF (.slice au es.length cu) 198 1 es.length (gC es))::.ob (zh gO es)::X::F) w:=hS;refine Cc (Yr rp (.slice au es.length cu) ((jy q).2:Nat) 0 es) ?_;clear hS;rintro v post ⟨rfl,rfl⟩ w hS;(try simp only[app]at hS);refine z8 ?_;have hr:=cFs he;cases hd:p6 es with
 | none=>
  refine zq ?_;refine⟨[X],?_,aR hS⟩;unfold Ev;have:gN q=none:=by
   rw[hr];cases es with
   | nil=>rfl
   | cons e es=>have hd:pk e.2=none:=hd;show (pk e.2).map _=none;rw[hd];rfl
  rw[this];exact⟨rfl,rfl⟩
 | some k=>
  refine zp ?_;cases es with
  | nil=>cases hd
  | cons e es=>
   have hd:pk e.2=some k:=hd;have hr:gN q=some (k,o9 es,(jy q).2):=by
    rw[hr];show (pk e.2).map _=_;rw[hd];rfl
   rw[show (p6 (e::es)).getD 0=k by show (pk e.2).getD 0=k;rw[hd];rfl]at hS
   refine Gn λw hS=>?_;have hS:=zh.take (t:=0) (x:=e) (SL.cD hS (t:=.ob (zh gO (e::es))::.pt rp [.slice au (e::es).length cu,Γ ((jy q).2:Nat),Γ k] 440::.ob (bF (.slice au (e::es).length cu) 198 1 (e::es).length (gC (e::es)))::X::F) Xi) rfl;have hS:=dB.of (SL.cD hS (t:=.ob (bF (.slice au (e::es).length cu) 198 1 (e::es).length (gC (e::es)))::.pt rp [.slice au (e::es).length cu,Γ ((jy q).2:Nat),Γ k] 440::.ob (zh gO ((e::es).eraseIdx 0))::X::F) Xi);refine Yp (k:=1) hS (by simp) ?_;clear hS;intro y hS;have e1:(e::es).length-1=es.length:=by simp
   have e2:(gC (e::es)).drop (1*1)=gC es:=rfl;have e3:(e::es).eraseIdx 0=es:=rfl;rw[e1,e2,e3]at hS
   refine Gp ?_;refine⟨[.ob (dB y 198 1 es.length (gC es)),.ob (zh gO es),X],?_,aR hS⟩;unfold Ev;rw[hr];exact⟨y,es,rfl,rfl,rfl⟩
section
variable {W w:Ζ} {l:Β} {X:Μ} {v:Ε} {sz n:Nat}
end
abbrev kx(u:Ε)(L:List dK):Μ:=.ob (bF u 331 3 L.length (L.map gk).flatten)
def bRt(L:List dK):∀v∈(L.map gk).flatten,v.oneCell'=true:=sW S' L
def yc{W w:Ζ}{l F:Β}{x y:Ε}{L M:List dK}{K:Ε->Ζ->Prop}(hS:SL W l w)(hr:fq (kx x L) l F)(iD:kL w 3 y M.length (M.map gk).flatten)(hb:L.length+M.length<=1000000)
  (h:∀v' w',SL W (kx v' (L++M)::F) w'->K v' w'):zx 3 32 [Γ 0,Γ 0,.string ⟨#[]⟩] 331 x y w K:=
 zJ hS hr iD (mN Iw M) rfl (bRt M) (by omega) (by omega) λv' w' hS=>h v' w' (by
  have e:((L++M).map gk).flatten=(L.map gk).flatten++(M.map gk).flatten:=by simp
  show SL W (.ob (bF v' 331 3 (L++M).length ((L++M).map gk).flatten)::F) w';rw[e,zza];exact hS)
def GX{W w:Ζ}{l:Β}{b:Nat}{x:dK}(hS:SL W l w)(m:Has (.pt b (gk x) 331) l):kL w 3 (.slice (some ⟨b,0,none⟩) 1 1) [x].length ([x].map gk).flatten:=by
 simpa using jR (m:=1) (sz:=3) (cap:=1) hS m rfl
section
variable (b:Nat) (x1 x2 x3 x4 x5 x6 x7:Int) (t:Ι)
def Gc:SP 207 [.slice (some ⟨b,0,none⟩) 1 1] [.pt b [Γ x1] t] (λu post=>post=[kx u [iF x1]]):=yL b [x1] t (by simp)
def Vt:SP 207 [.slice (some ⟨b,0,none⟩) 2 2] [.pt b [Γ x1,Γ x2] t] (λu post=>post=[kx u [iF x1,iF x2]]):=yL b [x1,x2] t (by simp)
def Vu:SP 207 [.slice (some ⟨b,0,none⟩) 4 4] [.pt b [Γ x1,Γ x2,Γ x3,Γ x4] t] (λu post=>post=[kx u [iF x1,iF x2,iF x3,iF x4]]):=yL b [x1,x2,x3,x4] t (by simp)
def czc:SP 207 [.slice (some ⟨b,0,none⟩) 7 7] [.pt b [Γ x1,Γ x2,Γ x3,Γ x4,Γ x5,Γ x6,Γ x7] t] (λu post=>post=[kx u [iF x1,iF x2,iF x3,iF x4,iF x5,iF x6,iF x7]]):=yL b [x1,x2,x3,x4,x5,x6,x7] t (by simp)
end
def B6(H:bw)(t:cJ)(u:Ε)(post:Β):Prop:=match uw t with
 | .error e=>u= .tuple #[Θ,Γ e]/\post=[.mem H]
 | .ok b=>∃v,u= .tuple #[v,Γ 0]/\post=[.ob (bF v 5 1 b.length (b.map dd)),.mem H]
def pT(t:cJ)(i:Nat):List dK:=[iF t.aw,iF t.ops.length]++((t.ops.take i).map pW).flatten
def rD(t:cJ)(i:Nat):List dK:=pT t t.ops.length++[iF t.notes.length]++((t.notes.take i).map pV).flatten
def bRj{t:cJ}{i:Nat}(h:i<t.ops.length):pT t (i+1)=pT t i++pW t.ops[i]:=by
 unfold pT;rw[zze h,zzt,yyy,wwf,ww9,zzk]
def bRm{t:cJ}{i:Nat}(h:i<t.notes.length):rD t (i+1)=rD t i++pV t.notes[i]:=by
 unfold rD;rw[zze h,zzt,yyy,wwf,ww9,<- zzk]
def bRk(t:cJ):rD t t.notes.length=lh t:=by
 unfold rD pT lh;simp
def CV{α β:Type}{f:α->List β}{n:Nat}(hn:∀x,(f x).length=n)(xs:List α):((xs.map f).flatten).length=xs.length*n:=by
 induction xs with
 | nil=>simp
 | cons x xs ih=>simp[hn,ih,yyu];omega
def Ti(t:cJ)(i:Nat):(pT t i).length<=2+5*i:=by
 unfold pT;rw[zza,CV (n:=5) (λ_=>rfl),zzg];simp;omega
def bRl(t:cJ)(i:Nat):(rD t i).length<=3+5*t.ops.length+7*i:=by
 have:=Ti t t.ops.length;unfold rD;rw[zza,zza,CV (n:=7) (λ_=>rfl),zzg];simp;omega
def YX(H:bw)(x:iK)(t:cJ)(hx:ik H x t):SP 219 [agg (eU x)] [.mem H] (B6 H t):=by
 refine Enzz λW F w hS=>?_;apply cOd;delta aI a_ aW cP ai cR bR;refine zu hS λxb w hS=>?_;refine Gp ?_;refine Cg (zZ H x t hx) λw hS=>?_;refine zy (λh=>?_) (λhm=>?_)
 ·exact⟨[.mem H],by unfold B6 uw;rw[h];exact⟨rfl,rfl⟩,aR hS⟩
 have hb:=(oQ.1 hm).1;unfold eU at hS;rw[hx.aw]at hS
 refine Gp ?_;refine zo hx.ops ?_;refine Gm λb w hS=>?_;refine Cc (Vt b t.aw t.ops.length 2) ?_;clear hS;rintro u post rfl w hS;(try simp only[app]at hS);refine Gp ?_
 refine zo hx.ops ?_;have hS:SL W (kx u (pT t 0)::_) _:=hS;refine⟨λvs w=>∃(i:Nat) (u:Ε),vs=[u,Γ i]/\i<=t.ops.length/\SL W (kx u (pT t i)::.pt xb [Γ t.aw,x.ov,x.nv] 240::.mem H::F) w,
  λvs _=>match vs with|[_,.int _ i]=>(t.ops.length-i).toNat|_=>0,⟨0,_,rfl,by omega,aR hS⟩,?_⟩
 clear hS;rintro u v3 w ⟨i,_,eY,hi,hS⟩;cases eY;have sC:=Ti t i;refine cA (λh=>?_) (λh=>?_)
 ·have cG:i<t.ops.length:=by omega
  have hs:=bRj cG;refine zF hS Xh xe hx.ops (x:=t.ops[i]) (by simp[cG]) cG ?_;generalize t.ops[i]=o at *
  obtain⟨ol,ot,ok,og,ov⟩:=o;refine Gm λb w hS=>?_;unfold jO at hS;refine Cg (ZG og) λw hS=>?_;refine Gm λb w hS=>?_;refine Cc (Vu b ol ot ok (hU og) 2) ?_;clear hS;rintro u2 post rfl w hS;try simp only[app]at hS
  refine yc (L:=pT t i) hS Xr (nG hS Xh) (by simp;omega) λu3 w hS=>?_;refine Gp ?_;refine Cg (yR ov) λw hS=>?_;refine Gm λb w hS=>?_;refine yc (M:=[tF ov]) hS Xr (GX hS Xh) (by simp;omega) λu4 w hS=>?_;refine Gp ?_;refine⟨⟨i+1,_,rfl,by omega,?_⟩,by dsimp only;omega⟩;rw[hs];simp only[zzk]at hS;have hS:SL W (kx _ (pT t i++pW ⟨ol,ot,ok,og,ov⟩)::_) _:=hS;exact aR hS
 have jZ:i=t.ops.length:=by omega
 subst jZ;refine Gp ?_;refine zo hx.iX ?_;refine Gm λb w hS=>?_;refine Cc (Gc b t.notes.length 2) ?_;clear hS;rintro u2 post rfl w hS;try simp only[app]at hS
 refine yc (L:=pT t t.ops.length) hS Xr (nG hS Xh) (by simp;omega) λu3 w hS=>?_;refine Gp ?_;refine zo hx.iX ?_;refine⟨λvs w=>∃(i:Nat) (u:Ε),vs=[u,Γ i]/\i<=t.notes.length/\SL W (kx u (rD t i)::.pt xb [Γ t.aw,x.ov,x.nv] 240::.mem H::F) w,
  λvs _=>match vs with|[_,.int _ i]=>(t.notes.length-i).toNat|_=>0,⟨0,u3,rfl,by omega,?_⟩,?_⟩
 ·rw[show rD t 0=pT t t.ops.length++[iF t.notes.length] by unfold rD;simp];exact aR hS
 clear hS;rintro u v3 w ⟨i,_,eY,hi,hS⟩;cases eY;have Fo:=bRl t i;refine cA (λh=>?_) (λh=>?_)
 ·have cG:i<t.notes.length:=by omega
  have hs:=bRm cG;refine zF hS Xh xd hx.iX (x:=t.notes[i]) (by simp[cG]) cG ?_;generalize t.notes[i]=o at *
  obtain⟨n1,n2,n3,n4,n5,n6,n7⟩:=o;refine Gm λb w hS=>?_;unfold kT at hS;refine Cg (ZG n7) λw hS=>?_;refine Gm λb w hS=>?_;refine Cc (czc b n1 n2 n3 n4 n5 n6 (hU n7) 2) ?_;clear hS;rintro u2 post rfl w hS;try simp only[app]at hS
  refine yc (L:=rD t i) hS Xr (nG hS Xh) (by simp;omega) λu3 w hS=>?_;refine Gp ?_;refine⟨⟨i+1,_,rfl,by omega,?_⟩,by dsimp only;omega⟩;rw[hs];have hS:SL W (kx _ (rD t i++pV ⟨n1,n2,n3,n4,n5,n6,n7⟩)::_) _:=hS;exact aR hS
 have jZ:i=t.notes.length:=by omega
 subst jZ;rw[bRk]at hS Fo
 refine Cc (yG (kx u (lh t)) u (lh t) sf.own (by omega)) ?_;clear hS;rintro r post hq w hS;try simp only[app]at hS
 unfold r_ at hq;unfold B6 uw;rw[hm,zzd rfl];cases he:oG (lh t) with
 | error e=>
  rw[he]at hq
  obtain⟨rfl,rfl⟩:=hq;(try simp only[app]at hS);refine Gp ?_
  exact cF hS
 | ok bs=>
  rw[he]at hq
  obtain⟨v,rfl,rfl⟩:=hq;(try simp only[app]at hS);refine Gp ?_
  exact⟨_,⟨v,rfl,rfl⟩,aR hS⟩
section
variable (a b c d e f g:dK)
end
def pU(c:d_):List dK:=[iF c.table,iF c.key,iF (hU c.gone),tF c.val]
section
variable {α β γ:Type}
def t_(p:dh->α × dh)(f:α->dh->β × dh)(r:dh):(α × β) × dh:=(((p r).1,(f (p r).1 (p r).2).1),(f (p r).1 (p r).2).2)
def Aa(g:α->β)(p:dh->α × dh)(r:dh):β × dh:=(g (p r).1,(p r).2)
end
def BT{m:Int}(hm:0<=m)(r:dh):0<=(dI m r).1/\(dI m r).1<=m:=by
 unfold dI;split
 ·exact⟨yyf _,hm⟩
 omega
def cAt{α:Type}(one:dh->α × dh){i:Nat}{r:dh}(h:i=0\/r.bad=true):jd one i r=([],r):=by
 cases i with
 | zero=>rfl
 | succ i=>unfold jd;rw[zzd (by rcases h with h|h;cases h;exact h)]
def cAs{α:Type}(one:dh->α × dh){i:Nat}{r:dh}(h:r.bad=false):jd one (i+1) r=((one r).1::(jd one i (one r).2).1,(jd one i (one r).2).2):=by
 conv=>lhs;unfold jd
 rw[zzb (by rw[h];decide)]
structure pH{α:Type}(one:dh->α × dh)(n:Nat)(r0:dh)(xs:List α)(k:Nat)(r:dh):Prop where
 eq:jd one n r0=(xs++(jd one k r).1,(jd one k r).2)
 le:xs.length+k<=n
def pH.start{α:Type}(one:dh->α × dh)(n:Nat)(r:dh):pH one n r [] n r:=⟨rfl,by simp⟩
def pH.step{α:Type}{one:dh->α × dh}{n:Nat}{r0:dh}{xs:List α}{k:Nat}{r:dh}(h:pH one n r0 xs (k+1) r)(hb:r.bad=false):pH one n r0 (xs++[(one r).1]) k (one r).2:=
 ⟨by rw[h.eq,cAs one hb];simp,by have:=h.le;rw[zza,yyc];omega⟩
def pH.stop{α:Type}{one:dh->α × dh}{n:Nat}{r0:dh}{xs:List α}{k:Nat}{r:dh}(h:pH one n r0 xs k r)(hb:k=0\/r.bad=true):jd one n r0=(xs,r):=by
 rw[h.eq,cAt one hb,zz2]
def cEa(rp:Nat)(r:dh):SP 269 [Δ rp] [.ob (fp rp r)] (cE (agg (jO (om r).1)) [.ob (fp rp (om r).2)]):=by
 refine Enzz λW F w hS=>?_;apply cPh;delta ai cR;refine Gm λb w hS=>?_;refine Cg (zR rp r) λw hS=>?_;refine Cg (zA rp (fE r).2 8) λw hS=>?_;refine Cg (zR rp _) λw hS=>?_;refine Cg (Zf rp _) λw hS=>?_;refine Cg (yJ rp _) λw hS=>?_;simp only[om];exact cF hS
def QV(rp:Nat)(r:dh):SP 270 [Δ rp] [.ob (fp rp r)] (cE (agg (kT (pz r).1)) [.ob (fp rp (pz r).2)]):=by
 refine Enzz λW F w hS=>?_;apply cPj;delta ai;refine Gm λb w hS=>?_;refine Cg (zA rp r 2) λw hS=>?_;refine Cg (zA rp _ 64) λw hS=>?_;refine Cg (zA rp _ 8) λw hS=>?_;refine Cg (zA rp _ 8) λw hS=>?_;refine Cg (zR rp _) λw hS=>?_;refine Cg (zR rp _) λw hS=>?_;refine Cg (Zf rp _) λw hS=>?_;simp only[pz];exact cF hS
def wF(X:Μ)(H:bw)(b:Φ)(u:Ε)(post:Β):Prop:=match nV b with
 | .error e=>e≠0/\∃H',H.le H'/\u= .tuple #[agg (eU ⟨0,Θ,Θ⟩),Γ e]/\post=[X,.mem H']
 | .ok t=>∃x H',H.le H'/\u= .tuple #[agg (eU x),Γ 0]/\ik H' x t/\post=[X,.mem H']
def bFl{b:Φ}{e:Int}(h:jM b= .error e):nV b= .error e:=by unfold nV;rw[h]
def bFn{b:Φ}{l:List dK}(h:jM b= .ok l)(h2:¬((oa ⟨l,false⟩).2.bad=false/\(oa ⟨l,false⟩).2.l=[]/\eH (oa ⟨l,false⟩).1=true)):nV b= .error 3:=by
 unfold nV AQ;rw[h];simp only;rw[zzb h2]
def bFm{b:Φ}{l:List dK}(h:jM b= .ok l)(h2:(oa ⟨l,false⟩).2.bad=false/\(oa ⟨l,false⟩).2.l=[]/\eH (oa ⟨l,false⟩).1=true):nV b= .ok (oa ⟨l,false⟩).1:=by
 unfold nV AQ;rw[h];simp only;rw[zzd h2]
def Ik{b:Φ}{e:Int}(h:jM b= .error e):e≠0:=by
 rw[Ij]at h
 split at h
 ·cases h
 rename_i h2;cases h;exact h2
abbrev nQ(v:Ε)(l:List gx):Μ:=.ob (bF v 389 5 l.length (l.map jO).flatten)
abbrev nP(v:Ε)(l:List iC):Μ:=.ob (bF v 392 7 l.length (l.map kT).flatten)
structure Ha(l:List dK)(aw:Int)(r1:dh):Prop where
 aw:(oa ⟨l,false⟩).1.aw=aw
 ops:(oa ⟨l,false⟩).1.ops=(jd om (dI 4096 r1).1.toNat (dI 4096 r1).2).1
 iX:∀r2,(jd om (dI 4096 r1).1.toNat (dI 4096 r1).2).2=r2->(oa ⟨l,false⟩).1.notes=(jd pz (dI 256 r2).1.toNat (dI 256 r2).2).1/\(oa ⟨l,false⟩).2=(jd pz (dI 256 r2).1.toNat (dI 256 r2).2).2
def Ha.is(l:List dK):Ha l (fE ⟨l,false⟩).1 (fE ⟨l,false⟩).2:=⟨rfl,rfl,λr2 h=>by subst h;exact⟨rfl,rfl⟩⟩
def YW(X:Μ)(H:bw)(v:Ε)(bs:Φ)(hv:dX X v bs):SP 197 [v] [X,.mem H] (wF X H bs):=by
 refine Enzz λW F w hS=>?_;apply cNp;delta aI aW cP ai cR bR;refine Gb λzb w hS=>?_;refine Cc (yF X v bs hv) ?_;clear hS;rintro r post hq w hS;unfold wG at hq;cases hd:jM bs with
 | error e=>
  rw[hd]at hq
  obtain⟨rfl,rfl⟩:=hq;have he:=Ik hd;(try simp only[app]at hS);refine Gp ?_
  refine za (λ_=>?_) (λh=>absurd he h);refine Gn λw hS=>?_;exact⟨[X,.mem H],by unfold wF;rw[bFl hd];exact⟨he,H,bw.le_refl H,rfl,rfl⟩,aR hS⟩
 | ok l=>
  rw[hd]at hq
  obtain⟨lv,rfl,rfl⟩:=hq;(try simp only[app]at hS);refine Gp ?_
  refine Χ ?_;refine Cc (Zg lv l) ?_;clear hS;rintro _ post ⟨rp,rfl,rfl⟩ w hS;try simp only[app]at hS
  refine Cc (zR rp ⟨l,false⟩) ?_;clear hS;rintro v1 post ⟨rfl,rfl⟩ w hS;try simp only[app]at hS
  have hI:=Ha.is l;generalize (fE ⟨l,false⟩).1=aw at *
  generalize (fE ⟨l,false⟩).2=r1 at *
  have nC:=BT (m:=4096) (by decide) r1;refine Gp ?_;refine Gb λxb w hS=>?_;have hS:SL W (nQ Θ []::_) _:=bF.nil hS;have hS:SL W (nP Θ []::_) _:=bF.nil hS;refine⟨λus w=>us=[]/\∃ov,SL W (nQ ov (jd om (dI 4096 r1).1.toNat (dI 4096 r1).2).1::.ob (fp rp (jd om (dI 4096 r1).1.toNat (dI 4096 r1).2).2)::nP Θ []::.pt xb [Γ aw,ov,Θ] 240::.pt zb [Γ 0,Θ,Θ] 240::X::.mem H::F) w,?_,?_⟩
  ·refine Cc (zA rp r1 4096) ?_;clear hS;rintro v1 post ⟨rfl,rfl⟩ w hS;try simp only[app]at hS
   generalize (dI 4096 r1).1=n1 at *
   generalize (dI 4096 r1).2=r2 at *
   refine⟨λus w=>∃(k:Nat) (ops:List gx) (r:dh) (ov:Ε),us=[Γ k]/\pH om n1.toNat r2 ops k r/\SL W (nQ ov ops::.ob (fp rp r)::nP Θ []::.pt xb [Γ aw,ov,Θ] 240::.pt zb [Γ 0,Θ,Θ] 240::X::.mem H::F) w,
    λus _=>match us with|[.int _ i]=>i.toNat|_=>0,⟨n1.toNat,[],r2,Θ,by rw[show ((n1.toNat:Nat):Int)=n1 by omega],pH.start _ _ _,aR hS⟩,?_⟩
   clear hS;rintro v8 w ⟨k,ops,r,ov,cT,hM,hS⟩;cases cT;have hle:=hM.le;refine cA (λh=>?_) (λh=>?_)
   ·refine Cg (Zd rp r) λw hS=>?_;refine zy (λhb=>?_) (λhb=>?_)
    ·obtain⟨k,rfl⟩:∃j,k=j+1:=⟨k-1,by omega⟩;have hM:=hM.step hb;refine Gn λw hS=>?_;refine Cg (cEa rp r) λw hS=>?_;refine Gm λb w hS=>?_;refine yz (n:=ops.length) (xs:=ops) (y:=(om r).1) (enc:=jO) hS Xr Xh xe (λx=>CL x) rfl (by omega) (by omega) λu w hS=>?_;have h1:=bF.one hS;refine Gn λw hS=>?_;refine⟨⟨k,_,_,u,by rw[show ((k+1:Nat):Int)-1=(k:Int) by omega],hM,?_⟩,by dsimp only;omega⟩;have hS:=hS.rm (x:=(om r).1);exact aR hS
    refine⟨rfl,ov,?_⟩;rw[hM.stop (.inr hb)];exact aR hS
   refine⟨rfl,ov,?_⟩;rw[hM.stop (.inl (by omega))];exact aR hS
  clear hS;rintro w ⟨_,ov,hS⟩;have ed:=hI.ops;obtain⟨cwi,dQ⟩:=hI.iX _ rfl;generalize (jd om (dI 4096 r1).1.toNat (dI 4096 r1).2).1=ops at *
  generalize (jd om (dI 4096 r1).1.toNat (dI 4096 r1).2).2=r3 at *
  have xP:=BT (m:=256) (by decide) r3;refine⟨λus w=>us=[]/\∃nv,SL W (nP nv (jd pz (dI 256 r3).1.toNat (dI 256 r3).2).1::.ob (fp rp (jd pz (dI 256 r3).1.toNat (dI 256 r3).2).2)::nQ ov ops::.pt xb [Γ aw,ov,nv] 240::.pt zb [Γ 0,Θ,Θ] 240::X::.mem H::F) w,?_,?_⟩
  ·refine Cc (zA rp r3 256) ?_;clear hS;rintro v1 post ⟨rfl,rfl⟩ w hS;try simp only[app]at hS
   generalize (dI 256 r3).1=n1 at *
   generalize (dI 256 r3).2=r2 at *
   refine⟨λus w=>∃(k:Nat) (iX:List iC) (r:dh) (nv:Ε),us=[Γ k]/\pH pz n1.toNat r2 iX k r/\SL W (nP nv iX::.ob (fp rp r)::nQ ov ops::.pt xb [Γ aw,ov,nv] 240::.pt zb [Γ 0,Θ,Θ] 240::X::.mem H::F) w,
    λus _=>match us with|[.int _ i]=>i.toNat|_=>0,⟨n1.toNat,[],r2,Θ,by rw[show ((n1.toNat:Nat):Int)=n1 by omega],pH.start _ _ _,aR hS⟩,?_⟩
   clear hS;rintro v8 w ⟨k,iX,r,nv,cT,hM,hS⟩;cases cT;have hle:=hM.le;refine cA (λh=>?_) (λh=>?_)
   ·refine Cg (Zd rp r) λw hS=>?_;refine zy (λhb=>?_) (λhb=>?_)
    ·obtain⟨k,rfl⟩:∃j,k=j+1:=⟨k-1,by omega⟩;have hM:=hM.step hb;refine Gn λw hS=>?_;refine Cg (QV rp r) λw hS=>?_;refine Gm λb w hS=>?_;refine yz (n:=iX.length) (xs:=iX) (y:=(pz r).1) (enc:=kT) hS Xr Xh xd It rfl (by omega) (by omega) λu w hS=>?_;have h1:=bF.one hS;refine Gn λw hS=>?_;refine⟨⟨k,_,_,u,by rw[show ((k+1:Nat):Int)-1=(k:Int) by omega],hM,?_⟩,by dsimp only;omega⟩;have hS:=hS.rm (x:=(pz r).1);exact aR hS
    refine⟨rfl,nv,?_⟩;rw[hM.stop (.inr hb)];exact aR hS
   refine⟨rfl,nv,?_⟩;rw[hM.stop (.inl (by omega))];exact aR hS
  clear hS;rintro w ⟨_,nv,hS⟩;rw[<- cwi,<- dQ,<- ed]at hS
  have kh:=hI.aw;generalize ht:(oa ⟨l,false⟩).1=t at *
  generalize hr:(oa ⟨l,false⟩).2=r at *
  obtain⟨H1,du,hO,hS⟩:=bF.freeze (SL.cD hS (t:=.mem H::nQ ov t.ops::nP nv t.notes::.ob (fp rp r)::.pt xb [Γ aw,ov,nv] 240::.pt zb [Γ 0,Θ,Θ] 240::X::F) Xi);obtain⟨H2,dF,hN,hS⟩:=bF.freeze hS;have hx:ik H2 ⟨aw,ov,nv⟩ t:=⟨kh.symm,hO.mono dF,hN⟩;have fu:=bw.le_trans du dF;refine Cg (Zc rp r) λw hS=>?_;have fC:¬(r.bad=false/\r.l=[]/\eH t=true)->∀{w:Ζ},SL W (X::.mem H2::F) w->∃post,wF X H bs (.tuple #[agg (eU ⟨0,Θ,Θ⟩),Γ 3]) post/\SL W (app post F) w:=λh w hS=>⟨[X,.mem H2],by unfold wF;rw[bFn hd (by rw[ht,hr];exact h)];exact⟨by decide,H2,fu,rfl,rfl⟩,hS⟩;refine zy (λhb=>?_) (λhb=>?_)
  ·have hb:=yy2 hb;refine Gn λw hS=>?_;exact fC (λh=>hb ⟨h.1,h.2.1⟩) (aR hS)
  have hb:=zzp hb;refine Gp ?_;refine Cg (zZ H2 ⟨aw,ov,nv⟩ t hx) λw hS=>?_;refine zy (λhm=>?_) (λhm=>?_)
  ·refine Gn λw hS=>?_;exact fC (λh=>by rw[h.2.2]at hm;cases hm) (aR hS)
  have h1:=mL hx;refine zr hS Xh rfl ?_;refine zt hS Xu rfl rfl h1 λw hS=>?_;refine Gp ?_;exact⟨[X,.mem H2],by unfold wF;rw[bFm hd (by rw[ht,hr];exact⟨hb.1,hb.2,hm⟩),ht];exact⟨⟨aw,ov,nv⟩,H2,fu,rfl,hx,rfl⟩,aR hS⟩
def jI(x:Nat × List Cell):zC:=jT λm:List (Int × Cell)=>zH (ma m x.2) [.ob (eJ KI pN x.1 m)]
def jI.iff{W w:Ζ}{x:Nat × List Cell}{l:Β}:SL W (.ob (jI x)::l) w↔∃m,ma m x.2/\SL W (.ob (eJ KI pN x.1 m)::l) w:=by
 unfold jI;simp only[SL.ex,SL.fact,zzv,zzq]
abbrev kH(b:Nat):Ε:=.map (some b)
def gy(r:Nat)(ts:List (List Cell)):zC:=jT λx:Nat × Nat × Ξ × Α=>zH (x.2.2.2.length=ts.length/\ts.length<=8/\sU ts)
 [.pt r [.slice (some ⟨x.1,0,none⟩) ts.length x.2.1] 125,.pt x.1 (x.2.2.2.map kH++x.2.2.1) 130,.ob (zh jI (x.2.2.2.zip ts))]
def gy.iff{W w:Ζ}{r:Nat}{ts:List (List Cell)}{l:Β}:SL W (.ob (gy r ts)::l) w↔∃(bv cap:Nat) (rest:Ξ) (bs:Α),(bs.length=ts.length/\ts.length<=8/\sU ts) /\
  SL W (.pt r [.slice (some ⟨bv,0,none⟩) ts.length cap] 125::.pt bv (bs.map kH++rest) 130::.ob (zh jI (bs.zip ts))::l) w:=by
 unfold gy;simp only[SL.ex,SL.fact,zzv,zzq];constructor
 ·rintro ⟨⟨bv,cap,rest,bs⟩,h1,h2⟩;exact⟨bv,cap,rest,bs,h1,h2⟩
 rintro ⟨bv,cap,rest,bs,h1,h2⟩;exact⟨⟨bv,cap,rest,bs⟩,h1,h2⟩
def awk:∀(bs:Α) (ts:List (List Cell)) (t:Nat) (b:Nat) (C:List Cell),bs[t]?=some b->(bs.zip ts).set t (b,C)=bs.zip (ts.set t C)
 | [],ts,t,b,C,h=>by simp at h
 | x::bs,[],t,b,C,h=>by simp
 | x::bs,y::ts,0,b,C,h=>by simp at h;subst h;simp
 | x::bs,y::ts,t+1,b,C,h=>by simp;exact awk bs ts t b C (by simpa using h)
def Az.open{W w:Ζ}{bs:Α}{ts:List (List Cell)}{l:Β}{t:Nat}(ht:t<ts.length)(hb:t<bs.length)(h:SL W (.ob (zh jI (bs.zip ts))::l) w):
  ∃m,ma m ts[t]/\SL W (.ob (eJ KI pN bs[t] m)::.ob (zh jI ((bs.zip ts).eraseIdx t))::l) w:=
 jI.iff.1 (zh.take h (x:=(bs[t],ts[t])) (by simp[List.getElem?_zip_eq_some,hb,ht]))
def Az.close{W w:Ζ}{bs:Α}{ts:List (List Cell)}{l:Β}{t:Nat}{C:List Cell}{m:List (Int × Cell)}(ht:t<ts.length)(hb:t<bs.length)(hm:ma m C)
  (h:SL W (.ob (eJ KI pN bs[t] m)::.ob (zh jI ((bs.zip ts).eraseIdx t))::l) w):SL W (.ob (zh jI (bs.zip (ts.set t C)))::l) w:=by
 have h1:SL W (.ob (jI (bs[t],C))::.ob (zh jI ((bs.zip ts).eraseIdx t))::l) w:=jI.iff.2 ⟨m,hm,h⟩;have h2:=zh.put h1 (by simp;omega)
 rwa [awk bs ts t bs[t] C (by simp[hb])]at h2
def qH(a:Option Addr)(n cap:Nat)(t:Int):SP 49 [.slice a n cap,Γ t] [] (cE (.bool (decide (0<=t/\t<n))) []):=by
 refine Enzz λW F w hS=>?_;apply cTa;delta aI cz ai;refine cA (λh=>?_) (λh=>?_)
 ·refine Gp ?_;have:(decide (t<(n:Int)))=decide (0<=t/\t<n):=by simp[h]
  rw[this];(exact cF hS)
 have:(decide (0<=t/\t<(n:Int)))=false:=by simp;omega
 rw[this];(exact cF hS)
def QH(bv cap:Nat)(rest:Ξ)(bs:Α)(ts:List (List Cell))(o:gx)(hb:bs.length=ts.length):
  SP 325 [.slice (some ⟨bv,0,none⟩) ts.length cap,agg (jO o)] [.pt bv (bs.map kH++rest) 130,.ob (zh jI (bs.zip ts))]
   (cE (.bool (lX ts o).2) [.pt bv (bs.map kH++rest) 130,.ob (zh jI (bs.zip (lX ts o).1))]):=by
 refine Enzz λW F w hS=>?_;apply cQx;delta aI a_ aW cP cz ai cR;obtain⟨aw,table,key,gone,val⟩:=o;refine⟨_,rfl,zE hS ?_⟩;clear hS;intro p w hS;simp only[jO]at hS;refine Gp ?_;refine Cg (qH (some ⟨bv,0,none⟩) ts.length cap table) λw hS=>?_;refine zy (λhe=>?_) (λhe=>?_)
 ·have hp:lX ts ⟨aw,table,key,gone,val⟩=(ts,false):=by
   simp only[xxc]at he;unfold lX;by_cases h0:table<0
   ·simp[h0]
   have:ts[table.toNat]?=none:=yyt (by omega);simp[h0,this]
  rw[hp];(exact cF hS)
 have lk:=zzp he;obtain⟨t,rfl⟩:∃t:Nat,table=t:=⟨table.toNat,by omega⟩;have ht:t<ts.length:=by omega
 have tR:t<bs.length:=by omega
 have xA:(bs.map kH++rest)[0+t*1]?=some (kH bs[t]):=by simp[zzm,tR]
 obtain⟨m,hm,hS⟩:=Az.open ht tR (SL.cD hS (t:=.ob (zh jI (bs.zip ts))::.pt p [Γ aw,Γ t,Γ key,.bool gone,.string val] 389::.pt bv (bs.map kH++rest) 130::F) Xi);refine⟨λvs w=>vs=[]/\(∀c,rE ts[t] key=some c->¬aw<c.aw)/\SL W (.ob (eJ KI pN bs[t] m)::.ob (zh jI ((bs.zip ts).eraseIdx t))::.pt p [Γ aw,Γ t,Γ key,.bool gone,.string val] 389::.pt bv (bs.map kH++rest) 130::F) w,?_,?_⟩
 ·refine yp hS ?_;clear hS;intro w hS;refine Gp ?_;refine zG ht (zT hS Xh xA ?_);refine Gp ?_;refine qf (z:=agg (iT ⟨0,0,false,⟨#[]⟩⟩)) hS Xh (py .i64) vvu yyr uut ?_;rw[hm.get];cases hg:rE ts[t] key with
  | none=>
   simp only[vvw,vvb,uu7];refine Gm λb w hS=>?_;refine zT hS Xh xA (y1 ?_);refine Gp ?_;refine qf (z:=agg (iT ⟨0,0,false,⟨#[]⟩⟩)) hS Xh (py .i64) vvu yyr uut ?_;rw[hm.get,hg];simp only[vvw,vvb,uu7];refine⟨trivial,?_⟩;simp only[iT];refine Gn λw hS=>?_;exact⟨by simp,λc hc=>(by cases hc),(by exact aR hS)⟩
  | some c=>
   simp only[yyi,xxj,uu8];refine Gm λb w hS=>?_;refine zT hS Xh xA (y1 ?_);refine Gp ?_;refine qf (z:=agg (iT ⟨0,0,false,⟨#[]⟩⟩)) hS Xh (py .i64) vvu yyr uut ?_;rw[hm.get,hg];simp only[yyi,xxj,uu8];refine⟨trivial,?_⟩;simp only[pN,iT];refine Gn λw hS=>?_;refine za (λhl=>?_) (λhl=>?_)
   ·have hp:rS ts[t] ⟨aw,t,key,gone,val⟩=(ts[t],false):=by unfold rS;simp only[hg,hl,wwm]
    rw[W9 (t:=t) rfl ht,hp];have hS:=Az.close (l:=.pt bv (bs.map kH++rest) 130::F) ht tR hm (by exact aR hS);(exact cF hS)
   exact⟨by simp,λc' hc=>(by cases hc;exact hl),(by exact aR hS)⟩
 clear hS;rintro w ⟨-,tM,hS⟩;have hp:rS ts[t] ⟨aw,t,key,gone,val⟩=(mw ts[t] (cellOf ⟨aw,t,key,gone,val⟩),true):=by
  unfold rS;cases hg:rE ts[t] key with
  | none=>simp only
  | some c=>simp only[tM c hg,wwd]
 rw[W9 (t:=t) rfl ht,hp];refine Gm λb w hS=>?_;refine⟨λvs w=>vs=[]/\SL W (.pt b (iT (cellOf ⟨aw,t,key,gone,val⟩)) 81::.ob (eJ KI pN bs[t] m)::.ob (zh jI ((bs.zip ts).eraseIdx t))::.pt p [Γ aw,Γ t,Γ key,.bool gone,.string val] 389::.pt bv (bs.map kH++rest) 130::F) w,?_,?_⟩
 ·refine Gp ?_;cases gone with
  | true=>
   refine zq ?_;refine Gn λw hS=>?_;simp only[cellOf,iT,wwm];exact aR hS
  | false=>
   refine zp ?_;refine⟨rfl,?_⟩;simp only[cellOf,iT,xxf,wwd];exact aR hS
 clear hS;rintro w ⟨-,hS⟩;refine yp hS ?_;clear hS;intro w hS;refine Gp ?_;refine zG ht (zT hS Xh xA ?_);refine Gp ?_;refine q5 (val:=pN) hS Xu (py .i64) vvu yyr ?_;clear hS;intro u w hS;have uQ:ma (gM m key (cellOf ⟨aw,t,key,gone,val⟩)) (mw ts[t] (cellOf ⟨aw,t,key,gone,val⟩)):=hm.put (cellOf ⟨aw,t,key,gone,val⟩);have hS:=Az.close (l:=.pt bv (bs.map kH++rest) 130::F) ht tR uQ (by exact aR hS);(exact cF hS)
def bWo(n:Int)(h:n<1\/8<n):SP 137 [Γ n] [] (cE (.tuple #[.pointer none,Γ 1]) []):=by
 refine Enzz λW F w hS=>?_;apply aix;delta aI bW c_ ai cY bR;refine cA (λh1=>?_) (λh1=>?_)
 ·(exact cF hS)
 refine Gp ?_;refine za (λh2=>?_) (λh2=>by omega);(exact cF hS)
def bWp(n:Nat)(h1:1<=n)(h2:n<=8):SP 137 [Γ n] [] (λv post=>∃r:Nat,v= .tuple #[Δ r,Γ 0]/\post=[.ob (gy r (List.replicate n []))]):=by
 refine Enzz λW F w hS=>?_;apply aix;delta aI bW c_ ai cY bR;refine Gp ?_;refine Χ ?_;refine Gp ?_;refine Χ ?_;refine Gp ?_;refine⟨_,rfl,zE hS ?_⟩;clear hS;intro r w hS;have hS:=bF.nil (t:=130) (sz:=1) hS;have hS:=zh.nil (A:=jI) hS;refine⟨λvs w=>∃(k:Nat) (v:Ε) (bs:Α),vs=[Γ k]/\k<=n/\bs.length=k/\SL W (.ob (zh jI (bs.zip (List.replicate k [])))::.ob (bF v 130 1 k (bs.map kH))::.pt r [v] 125::F) w,λvs _=>match vs with|[.int _ k]=>(n-k).toNat|_=>0,⟨0,_,[],rfl,by omega,rfl,hS⟩,?_⟩;clear hS;rintro An w ⟨k,v,bs,eY,hk,Fz,hS⟩;cases eY;refine cA (λh=>?_) (λh=>?_)
 ·refine Gp ?_;refine cG3 (key:=KI) (val:=pN) (p:=λb w'=>zm (cQ [.map none] 1) [(0,1,(.map (some b)))] 130 1 w' _) hS ?_;clear hS;intro b w hS;have hS:SL W (.ob (jI (b,[]))::_) w:=jI.iff.2 ⟨[],ma.nil,hS⟩;refine zM (cells:=[kH b]) hS (by simp[ib,cQ,Value.cells]) ?_;clear hS;intro b2 w hS;refine zJ (n:=k) (m:=1) (cells:=bs.map kH) hS Xr (jR (cs:=[kH b]) hS .hd rfl) rfl rfl (by simp[Value.oneCell']) (by omega) (by omega) ?_;clear hS;intro v' w hS;have h1:=bF.one hS;have hS:=zh.snoc (A:=jI) (x:=(b,[])) (xs:=bs.zip (List.replicate k [])) (l:=.ob (bF v' 130 1 (k+1) (bs.map kH++[kH b]))::.pt r [v] 125::F) (by exact aR hS);refine Gn λw hS=>?_;refine⟨⟨k+1,v',bs++[b],rfl,(by omega),(by simp[Fz]),?_⟩,(by dsimp only;omega)⟩;have e:(bs++[b]).zip (List.replicate (k+1) ([]:List Cell))=bs.zip (List.replicate k [])++[(b,[])]:=by
   rw[List.replicate_succ',List.zip_append (by simp[Fz])];rfl
  rw[e,zzt,zzr,yy8];exact aR hS
 obtain rfl:k=n:=by omega
 rcases bF.open (Has.front hS Xr) with ⟨_,h0,_⟩|⟨bv,cap,rest,rfl,hc,hl,hr,hS⟩
 ·omega
 have hS:SL W (.ob (gy r (List.replicate k []))::F) w:=gy.iff.2 ⟨bv,cap,rest,bs,⟨by simp[Fz],by simpa using h2,λC hC=>by
  obtain⟨_,rfl⟩:=uuh.1 hC;exact⟨List.Pairwise.nil,by simp⟩⟩,by rw[xxn];exact aR hS⟩
 exact⟨_,⟨r,rfl,rfl⟩,hS⟩
def qW(r:Nat)(ts:List (List Cell)):SP 272 [Δ r] [.ob (gy r ts)] (cE (Γ ts.length) [.ob (gy r ts)]):=by
 refine Enzz λW F w hS=>?_;apply cPl;delta bW;obtain⟨bv,cap,rest,bs,hA,hS⟩:=gy.iff.1 hS;refine Gp ?_;have hS:=gy.iff.2 ⟨bv,cap,rest,bs,hA,hS⟩;(exact cF hS)
def bWw(H:bw)(r:Nat)(ts:List (List Cell))(v:Ε)(ops:List gx)(hv:de H 5 v ops.length (ops.map jO).flatten)(hn:ops.length<=1000000)(hk:∀o∈ops,lA o.key):
  SP 274 [Δ r,v] [.mem H,.ob (gy r ts)] (cE (Γ ((fF ts ops).2:Nat)) [.mem H,.ob (gy r (fF ts ops).1)]):=by
 refine Enzz λW F w hS=>?_;apply cPn;delta aI bW ai cR;refine zo hv ?_;refine⟨λvs w=>∃k:Nat,vs=[Γ ((fF ts (ops.take k)).2:Nat),Γ k]/\k<=ops.length/\SL W (.mem H::.ob (gy r (fF ts (ops.take k)).1)::F) w,λvs _=>match vs with|[_,.int _ k]=>(ops.length-k).toNat|_=>0,⟨0,rfl,by omega,hS⟩,?_⟩;clear hS;rintro v5 v10 w ⟨k,eY,jv,hS⟩;cases eY;refine cA (λh=>?_) (λh=>?_)
 ·have fL:k<ops.length:=by omega
  have hx:ops[k]?=some ops[k]:=by simp[fL]
  refine zF hS Xh bIu hv hx fL ?_;obtain⟨bv,cap,rest,bs,hA,hS⟩:=gy.iff.1 (SL.cD hS (t:=.ob (gy r (fF ts (ops.take k)).1)::.mem H::F) Xi);refine zE hS ?_;clear hS;intro p w hS;refine zt (vs:=jO ops[k]) hS Xu rfl rfl (CL _) ?_;clear hS;intro w hS;refine Gn λw hS=>?_;refine Cc (QH bv cap rest bs (fF ts (ops.take k)).1 ops[k] hA.1) ?_;clear hS;rintro v post ⟨rfl,rfl⟩ w hS;try simp only[app]at hS
  have xT:fF ts (ops.take (k+1))=((lX (fF ts (ops.take k)).1 ops[k]).1,(fF ts (ops.take k)).2+if (lX (fF ts (ops.take k)).1 ops[k]).2 then 1 else 0):=by
   rw[zze fL,cEf];simp[fF]
  have hle:(fF ts (ops.take k)).2<=k:=yyw (cEg _ _) (by simp;omega);have hS:=gy.iff.2 ⟨bv,cap,rest,bs,⟨by rw[GC];exact hA.1,by rw[GC];exact hA.2.1,WD hA.2.2 (hk _ (zzh fL))⟩,(by rw[GC];exact SL.cD hS (t:=.pt r [.slice (some ⟨bv,0,none⟩) (fF ts (ops.take k)).1.length cap] 125::.pt bv (bs.map kH++rest) 130::.ob (zh jI (bs.zip (lX (fF ts (ops.take k)).1 ops[k]).1))::.mem H::F) Xi)⟩;cases rF:(lX (fF ts (ops.take k)).1 ops[k]).2 with
  | true=>
   refine zq ?_;refine Gp ?_;refine⟨⟨k+1,(by rw[xT,rF];simp),(by omega),(by rw[xT];exact aR hS)⟩,(by dsimp only;omega)⟩
  | false=>
   refine zp ?_;refine Gp ?_;refine⟨⟨k+1,(by rw[xT,rF];simp),(by omega),(by rw[xT];exact aR hS)⟩,(by dsimp only;omega)⟩
 obtain rfl:k=ops.length:=by omega
 rw[zz0]at hS ⊢
 (exact cF hS)
def yH(r:Nat)(ts:List (List Cell))(t:Int)(hs:small ts 0):SP 20 [Δ r,Γ t] [.ob (gy r ts)]
  (λv post=>post=[.ob (gy r ts),.ob (bF v 81 4 (mh ts t).length ((mh ts t).map iT).flatten)]):=by
 refine Enzz λW F w hS=>?_;apply cNs;delta aI bW cP ai cR bR;obtain⟨bv,cap,rest,bs,hA,hS⟩:=gy.iff.1 hS;refine Gp ?_;refine Cg (qH (some ⟨bv,0,none⟩) ts.length cap t) λw hS=>?_;refine zy (λhe=>?_) (λhe=>?_)
 ·have hc:mh ts t=[]:=by
   have lk:=yy2 he;unfold mh;split
   ·rw[yyt (by omega)];rfl
   rfl
  rw[hc];have hS:=gy.iff.2 ⟨bv,cap,rest,bs,hA,hS⟩;exact⟨_,rfl,(bF.nil hS).perm (.swap _ _ _)⟩
 have lk:=zzp he;obtain⟨t,rfl⟩:∃u:Nat,t=u:=⟨t.toNat,by omega⟩;have ht:t<ts.length:=by omega
 have tR:t<bs.length:=by omega
 have xA:(bs.map kH++rest)[0+t*1]?=some (kH bs[t]):=by simp[zzm,tR]
 have hc:mh ts t=ts[t]:=by unfold mh;simp[ht]
 rw[hc];have cL:=hA.2.2 ts[t] (zzh ht);have hsm:=hs ts[t] (zzh ht);refine Gp ?_;refine zG ht (zT hS Xh xA ?_);obtain⟨m,hm,hS⟩:=Az.open ht tR (SL.cD hS (t:=.ob (zh jI (bs.zip ts))::.pt r [.slice (some ⟨bv,0,none⟩) ts.length cap] 125::.pt bv (bs.map kH++rest) 130::F) Xi);have mR:=hm.len cL.1;refine cGy (val:=pN) hS .hd (by omega) (hm.wf cL) ?_;clear hS;intro v w hS;rw[hm.rl cL.1,mR]at hS
 refine zz hS .hd ?_;refine⟨λvs w=>∃(k:Nat) (u:Ε),vs=[u,Γ k]/\k<=ts[t].length/\SL W (.ob (bF u 81 4 k (((ts[t].take k).map iT).flatten))::.ob (bF v 2 1 ts[t].length ((ts[t].map (·.key)).map KI))::.ob (eJ KI pN bs[t] m)::.ob (zh jI ((bs.zip ts).eraseIdx t))::.pt r [.slice (some ⟨bv,0,none⟩) ts.length cap] 125::.pt bv (bs.map kH++rest) 130::F) w,λvs _=>match vs with|[_,.int _ k]=>(ts[t].length-k).toNat|_=>0,⟨0,_,rfl,by omega,bF.nil hS⟩,?_⟩;clear hS;rintro v5 v25 w ⟨k,u,eY,hk,hS⟩;cases eY;refine cA (λh=>?_) (λh=>?_)
 ·have fL:k<ts[t].length:=by omega
  refine yg hS (.tl .hd) fL (u:=KI ts[t][k].key) (by simp[fL]) ?_;refine Gp ?_;refine zG ht (zT hS Xh xA ?_);refine yO (z:=agg (iT ⟨0,0,false,⟨#[]⟩⟩)) hS Xh (py .i64) vvu yyr uut ?_;rw[hm.get,Tw cL.1 (zzh fL)];refine zM hS (bRx _ _ rfl) ?_;clear hS;intro b w hS;refine zJ (n:=k) (m:=1) hS Xr (jR (cs:=iT ts[t][k]) hS .hd rfl) rfl rfl (bIn _) (by omega) (by omega) ?_;clear hS;intro u' w hS;refine Gp ?_;refine⟨⟨k+1,u',rfl,(by omega),(by rw[bR5 iT _ k fL];exact aR hS)⟩,(by dsimp only;omega)⟩
 obtain rfl:k=ts[t].length:=by omega
 rw[zz0]at hS
 have hS:=Az.close (C:=ts[t]) (l:=.ob (bF v5 81 4 ts[t].length ((ts[t].map iT).flatten))::.pt r [.slice (some ⟨bv,0,none⟩) ts.length cap] 125::.pt bv (bs.map kH++rest) 130::F) ht tR hm (by exact aR hS);rw[uur]at hS
 have hS:SL W (.ob (gy r ts)::.ob (bF v5 81 4 ts[t].length ((ts[t].map iT).flatten))::F) w:=gy.iff.2 ⟨bv,cap,rest,bs,hA,by exact aR hS⟩;exact⟨_,rfl,hS⟩
def Z9(r:Nat)(ts:List (List Cell))(t:Int)(hs:small ts 0):SP 18 [Δ r,Γ t] [.ob (gy r ts)]
  (λv post=>post=[.ob (gy r ts),.ob (bF v 54 2 (rowsOf (mh ts t)).length ((rowsOf (mh ts t)).map eD).flatten)]):=by
 refine Enzz λW F w hS=>?_;apply cM6;delta aI a_ cP ai cR bR;refine Cc (yH r ts t hs) ?_;clear hS;rintro v post rfl w hS;try simp only[app]at hS
 have hc:=ET (t:=t) hs;generalize mh ts t=C at hS hc ⊢;refine zz hS Xh ?_;refine⟨λvs w=>∃(k:Nat) (u:Ε),vs=[u,Γ k]/\k<=C.length/\SL W (.ob (bF u 54 2 (rowsOf (C.take k)).length (((rowsOf (C.take k)).map eD).flatten))::.ob (gy r ts)::.ob (bF v 81 4 C.length ((C.map iT).flatten))::F) w,λvs _=>match vs with|[_,.int _ k]=>(C.length-k).toNat|_=>0,⟨0,_,rfl,by omega,bF.nil hS⟩,?_⟩;clear hS;rintro v5 v12 w ⟨k,u,eY,hk,hS⟩;cases eY;refine cA (λh=>?_) (λh=>?_)
 ·have fL:k<C.length:=by omega
  have hle:=Xl (C.take k);rw[zzg]at hle
  refine zU hS Xh S8 (x:=C[k]) (by simp[fL]) fL ?_;have hr:=cF8 C k fL;generalize C[k]=c at hr ⊢;obtain⟨key,aw,gone,val⟩:=c;simp only[iT];refine Gm λb w hS=>?_;cases gone with
  | true=>
   refine zp ?_;refine Gp ?_;refine⟨⟨k+1,v5,rfl,(by omega),(by rw[hr];simp only[wwm];exact aR hS)⟩,(by dsimp only;omega)⟩
  | false=>
   refine zq ?_;refine Gm λb w hS=>?_;refine zJ (n:=(rowsOf (C.take k)).length) (m:=1) hS Xr (jR (cs:=eD ⟨key,val⟩) hS .hd rfl) rfl rfl (bIv _) (by omega) (by omega) ?_;clear hS;intro u' w hS;refine Gp ?_;refine⟨⟨k+1,u',rfl,(by omega),(by rw[hr];simp only[xxf,wwd,zza,yyc,vF];exact aR hS)⟩,(by dsimp only;omega)⟩
 obtain rfl:k=C.length:=by omega
 rw[zz0]at hS
 exact⟨_,rfl,aR hS⟩
structure dU where
 file:Int
 first:Int
 size:Nat
 es:List oy
 a:Option Addr
 c:Nat
def dU.lv(x:dU):Ε:=.slice x.a x.es.length x.c
def dU.pl(x:dU):dt:=⟨x.file,x.first,x.size,o9 x.es⟩
def fG(x:dU):Ξ:=[Γ x.file,Γ x.first,Γ x.size,x.lv]
def G5(x:dU):(fG x).length=4:=rfl
def AK(es:List oy):(o9 es).length=es.length:=by simp[o9]
def dY(x:dU):zC:=zH True [.ob (dB x.lv 198 1 x.es.length (gC x.es)),.ob (zh gO x.es)]
def dY.iff{W w:Ζ}{x:dU}{l:Β}:SL W (.ob (dY x)::l) w↔SL W (.ob (dB x.lv 198 1 x.es.length (gC x.es))::.ob (zh gO x.es)::l) w:=by
 unfold dY;simp only[SL.fact,zzv,zzq,uuu]
def fh(v:Ε)(t:Option wK):zC:=match t with
 | none=>zH (v= .pointer none) []
 | some x=>jT λb:Nat=>zH (v= Δ b) [.pt b [Γ x.file,Γ x.oJ,.bool x.fresh] 453]
def AB{W w:Ζ}{v:Ε}{l:Β}:SL W (.ob (fh v none)::l) w↔v= .pointer none/\SL W l w:=by
 unfold fh;simp only[SL.fact,zzq]
def AD{W w:Ζ}{v:Ε}{x:wK}{l:Β}:SL W (.ob (fh v (some x))::l) w↔∃b:Nat,v= Δ b/\SL W (.pt b [Γ x.file,Γ x.oJ,.bool x.fresh] 453::l) w:=by
 unfold fh;simp only[SL.ex,SL.fact,zzv,zzq]
def aIj{W w:Ζ}{v:Ε}{t:Option wK}{l:Β}(h:SL W (.ob (fh v t)::l) w):v.oneCell'=true:=by
 cases t with
 | none=>rw[(AB.1 h).1];rfl
 | some x=>obtain⟨b,rfl,_⟩:=AD.1 h;rfl
abbrev eP(sv tv:Ε)(dp:Nat)(base size:Int):Ξ:=[sv,Δ dp,Γ base,Γ size,tv]
abbrev eN(sv:Ε)(xs:List dU):Μ:=.ob (dB sv 293 4 xs.length (xs.map fG).flatten)
abbrev LH(lp dp:Nat)(base size:Int)(t:Option wK)(sv tv:Ε)(xs:List dU):Β:=[.pt lp (eP sv tv dp base size) 206,eN sv xs,.ob (zh dY xs),.ob (fh tv t)]
def dx(lp dp:Nat)(g:da):zC:=jT λx:Ε × Ε × List dU=>zH (x.2.2.map dU.pl=g.bI) (LH lp dp g.base g.size g.dE x.1 x.2.1 x.2.2)
def dx.iff{W w:Ζ}{lp dp:Nat}{g:da}{l:Β}:SL W (.ob (dx lp dp g)::l) w↔∃sv tv xs,xs.map dU.pl=g.bI/\SL W (.pt lp (eP sv tv dp g.base g.size) 206::eN sv xs::.ob (zh dY xs)::.ob (fh tv g.dE)::l) w:=by
 unfold dx LH;simp only[SL.ex,SL.fact,zzv,zzq];exact⟨λ⟨x,h1,h2⟩=>⟨x.1,x.2.1,x.2.2,h1,h2⟩,λ⟨a,b,c,h1,h2⟩=>⟨(a,b,c),h1,h2⟩⟩
section
variable {W w:Ζ} {l:Β}
def Z0{v:Ε}{xs:List dU}{j:Nat}{k:IntKind}{K:Ε->Prop}(h:SL W l w)(m:Has (eN v xs) l)(hj:j<xs.length)(hK:K (.agg (fG xs[j]).toArray)):zk 4 v (.int k (j:Int)) λp=>ze 4 p w K:=by
 refine y5 h m hj λb o hb=>⟨⟨b,o,none⟩,fG xs[j],rfl,rfl,λi u hu=>?_,hK⟩;rw[yye];have hi:i<4:=(zzf.1 hu).1;exact hb i u hi (IC G5 hj hu)
def qg{v u:Ε}{xs:List dU}{i j:Nat}{k:IntKind}{K:Ε->Prop}(h:SL W l w)(m:Has (eN v xs) l)(hj:j<xs.length)(hu:(fG xs[j])[i]?=some u)(hK:K u):zk 4 v (.int k (j:Int)) λp=>zl i p λq=>cC q w K:=by
 refine y5 h m hj λb o hb=>?_;refine yN ?_;have hi:i<4:=(zzf.1 hu).1;exact⟨_,u,rfl,hb i u hi (IC G5 hj hu),hK⟩
end
def Ts(xs:List dU):(xs.map fG).flatten.length=xs.length*4:=by
 induction xs with
 | nil=>rfl
 | cons x xs ih=>simp[ih,G5];omega
def yX(f n s:Int)(a:Option Addr)(k c:Nat)(h : -1000000000000000<=n/\n<=1000000000000000)(hk:k<=1000000000000000):SP 177 [.agg #[Γ f,Γ n,Γ s,.slice a k c]] [] (cE (Γ (n+k)) []):=by
 refine Enzz λW F w hS=>?_;apply cM3;delta a_;refine⟨[Γ f,Γ n,Γ s,.slice a k c],rfl,?_⟩;refine Gm λb w hS=>?_;(exact cF hS)
def Zb(x:dU){N:Nat}(h:k_ x.pl N)(hN:N<=1000000000000000):SP 177 [.agg (fG x).toArray] [] (cE (Γ x.pl.next) []):=by
 have h1:=h.n0;have h2:=h.n1;have h3:=h.ln;have e:x.pl.next=x.first+x.es.length:=by simp[dt.next,dU.pl,AK]
 rw[e];have h3:x.es.length<=N:=by simpa [dU.pl,AK] using h3
 exact yX x.file x.first x.size x.a x.es.length x.c (by simp only[dU.pl]at h1 h2;omega) (by omega)
def yf(lp:Nat)(cs:Ξ)(t:Ι)(sv:Ε)(xs:List dU)(iP:cs[0]?=some sv){N:Nat}(h:∀s∈xs.map dU.pl,k_ s N)(hN:N<=1000000000000000)(hl:xs.length<=1000000000000000):
  SP 125 [Δ lp] [.pt lp cs t,eN sv xs] (cE (Γ (cO (xs.map dU.pl))) [.pt lp cs t,eN sv xs]):=by
 refine Enzz λW F w hS=>?_;apply cLr;delta aI bW ai;refine Gp ?_;refine zT hS .hd iP ?_;refine zO hS Xh ?_;refine Gp ?_;have hh:=sH h;refine za (λh0=>?_) (λh0=>?_)
 ·have:xs=[]:=zzl (by omega);subst this;(exact cF hS)
 refine Gn λw hS=>?_;refine zT hS .hd iP ?_;refine Gp ?_;refine zT hS .hd iP ?_;refine zO hS Xh ?_;refine Gp ?_;have e:((xs.length:Nat):Int)-1=((xs.length-1:Nat):Int):=by omega
 rw[e];have hj:xs.length-1<xs.length:=by omega
 refine Z0 hS Xh hj ?_;have hm:(xs[xs.length-1]'hj).pl∈xs.map dU.pl:=zzx.2 ⟨_,zzh hj,rfl⟩;have hg:cO (xs.map dU.pl)=(xs[xs.length-1]'hj).pl.next-1:=by
  unfold cO;rw[uuo,xx9,zzc hj];rfl
 have cL:=h _ hm;rw[hg]at hh ⊢
 refine Cg (Zb _ cL hN) λw hS=>?_;exact cF hS
def cAq(lp:Nat)(cs:Ξ)(t:Ι)(sv:Ε)(xs:List dU)(iP:cs[0]?=some sv)(hl:xs.length<=1000000000000000):
  SP 126 [Δ lp] [.pt lp cs t,eN sv xs] (cE (Γ (fk (xs.map dU.pl))) [.pt lp cs t,eN sv xs]):=by
 refine Enzz λW F w hS=>?_;apply cLs;delta aI bW a_ ai;refine Gp ?_;refine zT hS .hd iP ?_;refine zO hS Xh ?_;refine cA (λh0=>?_) (λh0=>?_)
 ·have:xs=[]:=zzl (by omega);subst this;(exact cF hS)
 cases xs with
 | nil=>simp at h0
 | cons x xs=>
  refine Gp ?_;refine zT hS .hd iP ?_;refine qg (j:=0) (i:=1) hS Xh (by simp) (u:=Γ x.first) rfl ?_;exact⟨_,⟨rfl,rfl⟩,hS⟩
def zh.back{W w:Ζ}{l:Β}{α:Type}{A:α->zC}{xs:List α}{t:Nat}{x:α}(h:SL W (.ob (A x)::.ob (zh A (xs.eraseIdx t))::l) w)(hx:xs[t]?=some x):SL W (.ob (zh A xs)::l) w:=by
 obtain⟨ht,e⟩:=zzf.1 hx;have:=zh.put h ht
 rwa [<- e,uur]at this
def cVc(x:dU):x.pl.next=x.first+x.es.length:=by simp[dt.next,dU.pl,AK]
def cFq(xs:List dU)(i:Nat)(n:Int):mZ ((xs.drop i).map dU.pl) n=match xs[i]? with
 | none=>none
 | some x=>if x.first<=n/\n<x.pl.next then (o9 x.es)[(n-x.first).toNat]? else mZ ((xs.drop (i+1)).map dU.pl) n:=by
 cases h:xs[i]? with
 | none=>
  have:xs.drop i=[]:=yy7 (by rw[List.getElem?_eq_none_iff]at h;exact h);rw[this];rfl
 | some x=>
  obtain⟨hi,e⟩:=zzf.1 h;rw[yyq hi,e];rfl
def Eu(pre:Β)(o:Option Φ)(r:Ε)(post:Β):Prop:=match o with
 | none=>r= .tuple #[Θ,Γ 5]/\post=pre
 | some b=>∃u,r= .tuple #[u,Γ 0]/\post= .ob (bF u 5 1 b.length (b.map dd))::pre
def QY(lp:Nat)(cs:Ξ)(t:Ι)(sv:Ε)(xs:List dU)(n:Int)(iP:cs[0]?=some sv){N:Nat}(h:∀s∈xs.map dU.pl,k_ s N)(hN:N<=1000000000000000)(hl:xs.length<=1000000000000000)(hn : -9000000000000000000<=n/\n<=9000000000000000000):
  SP 123 [Δ lp,Γ n] [.pt lp cs t,eN sv xs,.ob (zh dY xs)] (Eu [.pt lp cs t,eN sv xs,.ob (zh dY xs)] (mZ (xs.map dU.pl) n)):=by
 refine Enzz λW F w hS=>?_;apply cLp;delta aI bW a_ ai bR;refine Gp ?_;refine zT hS .hd iP ?_;refine zO hS Xh ?_;refine⟨λvs w=>∃i:Nat,i<=xs.length/\vs=[Γ i]/\mZ (xs.map dU.pl) n=mZ ((xs.drop i).map dU.pl) n/\SL W (.pt lp cs t::eN sv xs::.ob (zh dY xs)::F) w,λvs _=>match vs with
  | [.int _ i]=>xs.length-i.toNat
  | _=>0,⟨0,by omega,rfl,rfl,hS⟩,?_⟩
 clear hS;rintro v1 w1 ⟨i,hi,hv,hr,hS⟩;cases hv;rw[cFq]at hr
 refine cA (λh0=>?_) (λh0=>?_)
 ·have hj:i<xs.length:=by omega
  have hx:xs[i]?=some xs[i]:=zzc hj;refine Z0 hS Xh hj ?_;have cL:=h _ (zzx.2 ⟨_,zzh hj,rfl⟩);rw[hx]at hr
  simp only at hr;generalize xs[i]=x at *
  have px:=cVc x;unfold fG dU.lv;refine Gm λb w hS=>?_;refine za (λh1=>?_) (λh1=>?_)
  ·refine Gp ?_;refine Cg (Zb x cL hN) λw hS=>?_;refine za (λh2=>?_) (λh2=>?_)
   ·rw[zzd ⟨h1,h2⟩]at hr
    have FL:=cL.n0;have hh2:=cL.n1;simp only[dU.pl]at FL hh2;refine Gp ?_;obtain⟨j,Jk⟩:=wwi (show 0<=n-x.first by omega);have gW:j<x.es.length:=by omega
    rw[Jk]at hr ⊢
    have hS:=zh.take (SL.cD hS (t:=.ob (zh dY xs)::.pt lp cs t::eN sv xs::F) Xi) hx;have hS:=dY.iff.1 hS;unfold dU.lv at hS;refine y5 (j:=j) hS .hd gW λb o hb=>?_;have Ug:x.es[j]?=some x.es[j]:=zzc gW;have oM:(gC x.es)[j*1+0]?=some x.es[j].1:=by simp[gC,gW]
    refine⟨_,_,rfl,hb 0 _ (by omega) oM,?_⟩;have hS:=zh.take (SL.cD hS (t:=.ob (zh gO x.es)::.ob (dB (.slice x.a x.es.length x.c) 198 1 x.es.length (gC x.es))::.ob (zh dY (xs.eraseIdx i))::.pt lp cs t::eN sv xs::F) Xi) Ug;have p5:x.es[j].2.length<=1048576:=cL.bl _ (zzx.2 ⟨_,zzh gW,rfl⟩);have hby:(o9 x.es)[((j:Int)).toNat]?=some x.es[j].2:=by simp[o9,gW]
    rw[hby]at hr
    rw[hr];generalize x.es[j]=e at *
    have hR:dX (.ob (gO e)) e.1 e.2:=dX.own;obtain⟨ea,ec,ee,_⟩:=hR.sl hS .hd;have pY:=hR;rw[ee]at pY ⊢
    refine Zs (cs:=e.2.map dd) hS (λw' c fY=>pY.src fY (.tl .hd)) (by simp) (vk _) (by omega) ?_;clear hS;intro u w hS _;have hS:=zh.back (SL.cD hS (t:=.ob (gO e)::.ob (zh gO (x.es.eraseIdx j))::.ob (dB (.slice x.a x.es.length x.c) 198 1 x.es.length (gC x.es))::.ob (bF u 5 1 e.2.length (e.2.map dd))::.ob (zh dY (xs.eraseIdx i))::.pt lp cs t::eN sv xs::F) Xi) Ug;have hS:=(dY.iff (x:=x)).2 (SL.cD hS (t:=.ob (dB (.slice x.a x.es.length x.c) 198 1 x.es.length (gC x.es))::.ob (zh gO x.es)::.ob (bF u 5 1 e.2.length (e.2.map dd))::.ob (zh dY (xs.eraseIdx i))::.pt lp cs t::eN sv xs::F) Xi);have hS:=zh.back (SL.cD hS (t:=.ob (dY x)::.ob (zh dY (xs.eraseIdx i))::.ob (bF u 5 1 e.2.length (e.2.map dd))::.pt lp cs t::eN sv xs::F) Xi) hx;exact⟨.ob (bF u 5 1 e.2.length (e.2.map dd))::[.pt lp cs t,eN sv xs,.ob (zh dY xs)],⟨u,rfl,rfl⟩,aR hS⟩
   rw[zzb (by omega)]at hr
   refine Gp ?_;refine⟨⟨i+1,by omega,rfl,hr,aR hS⟩,?_⟩;simp only[zzz];omega
  rw[zzb (by omega)]at hr
  refine Gp ?_;refine⟨⟨i+1,by omega,rfl,hr,aR hS⟩,?_⟩;simp only[zzz];omega
 have hx:xs[i]?=none:=yyt (by omega);rw[hx]at hr
 rw[hr];exact⟨_,⟨rfl,rfl⟩,hS⟩
def cBl(bI:List dt)(base size:Int)(x:wK)(d:DS):dy ⟨bI,base,size,some x⟩ d =
  ((⟨bI,base,size,if (if x.fresh=true then d.remove x.file else d.cut x.file x.oJ).2=0 then none else some x⟩,(if x.fresh=true then d.remove x.file else d.cut x.file x.oJ).1),(if x.fresh=true then d.remove x.file else d.cut x.file x.oJ).2):=rfl
def QO(lp dp:Nat)(g:da)(d:DS)(N:Nat)(cL:d.Ok N)(hN:N<=140737488355328)(ed:d.ops<=100000):
  SP 280 [Δ lp] [.ob (dx lp dp g),.ob (cw dp d)] (cE (Γ (dy g d).2) [.ob (dx lp dp (dy g d).1.1),.ob (cw dp (dy g d).1.2)]):=by
 refine Enzz λW F w hS=>?_;apply cPu;delta aI bW c_ ai cY;obtain⟨sv,tv,xs,hx,hS⟩:=dx.iff.1 hS;obtain⟨bI,base,size,dE⟩:=g;simp only at hx hS;cases dE with
 | none=>
  rw[show dy ⟨bI,base,size,none⟩ d=((⟨bI,base,size,none⟩,d),0) from rfl];obtain⟨rfl,hS⟩:=AB.1 (SL.cD hS (t:=.ob (fh tv none)::.pt lp (eP sv tv dp base size) 206::eN sv xs::.ob (zh dY xs)::.ob (cw dp d)::F) Xi);refine Gp ?_;refine zq ?_;have hS:=(AB (v:=.pointer none)).2 ⟨rfl,hS⟩;exact⟨_,⟨rfl,rfl⟩,dx.iff.2 ⟨sv,.pointer none,xs,hx,aR hS⟩⟩
 | some x=>
  obtain⟨tb,rfl,hS⟩:=AD.1 (SL.cD hS (t:=.ob (fh tv (some x))::.pt lp (eP sv tv dp base size) 206::eN sv xs::.ob (zh dY xs)::.ob (cw dp d)::F) Xi);rw[cBl];refine Gp ?_;refine zp ?_;refine Gp ?_;refine yU (λhf=>?_) (λhf=>?_)
  ·simp only[zzd hf];refine Gn λw hS=>?_;refine Cg (yS dp d N cL ed x.file) λw hS=>?_;refine za (λh=>?_) (λh=>?_)
   ·rw[zzd h];refine Gn λw hS=>?_;have hS:=(AB (v:=.pointer none)).2 ⟨rfl,hS⟩;exact⟨_,⟨rfl,rfl⟩,dx.iff.2 ⟨sv,.pointer none,xs,hx,aR hS⟩⟩
   rw[zzb h];have hS:=(AD (v:=Δ tb) (x:=x)).2 ⟨tb,rfl,SL.cD hS (t:=.pt tb [Γ x.file,Γ x.oJ,.bool x.fresh] 453::.pt lp (eP sv (Δ tb) dp base size) 206::eN sv xs::.ob (zh dY xs)::.ob (cw dp (d.remove x.file).1)::F) Xi⟩;exact⟨_,⟨rfl,rfl⟩,dx.iff.2 ⟨sv,_,xs,hx,aR hS⟩⟩
  have hf:¬x.fresh=true:=by rw[hf];decide
  simp only[zzb hf];refine Gn λw hS=>?_;refine Cg (ZB dp d N cL hN ed x.file x.oJ) λw hS=>?_;refine za (λh=>?_) (λh=>?_)
  ·rw[zzd h];refine Gn λw hS=>?_;have hS:=(AB (v:=.pointer none)).2 ⟨rfl,hS⟩;exact⟨_,⟨rfl,rfl⟩,dx.iff.2 ⟨sv,.pointer none,xs,hx,aR hS⟩⟩
  rw[zzb h];have hS:=(AD (v:=Δ tb) (x:=x)).2 ⟨tb,rfl,SL.cD hS (t:=.pt tb [Γ x.file,Γ x.oJ,.bool x.fresh] 453::.pt lp (eP sv (Δ tb) dp base size) 206::eN sv xs::.ob (zh dY xs)::.ob (cw dp (d.cut x.file x.oJ).1)::F) Xi⟩;exact⟨_,⟨rfl,rfl⟩,dx.iff.2 ⟨sv,_,xs,hx,aR hS⟩⟩
def awz(lp dp:Nat)(g:da)(d:DS)(X:Μ)(p:Φ)(y:Except Int il)(r:Ε)(post:Β):Prop:=match y with
 | .error e=>(∃z,r= .tuple #[.agg #[Γ 0,.bool false,Θ],Γ z]/\z=e/\z≠0)/\post=[.ob (dx lp dp g),.ob (cw dp d),X]
 | .ok x=>∃a c,r= .tuple #[.agg #[Γ x.file,.bool x.fresh,.slice a x.b.length c],Γ 0]/\post=[.ob (bF (.slice a x.b.length c) 5 1 x.b.length (x.b.map dd)),.ob (dx lp dp g),.ob (cw dp d),X]
def da.Ok.xs{g:da}{N:Nat}(h:g.Ok N){xs:List dU}(hx:xs.map dU.pl=g.bI):(∀s∈xs.map dU.pl,k_ s N)/\xs.length<=N/\0<=cO g.bI/\cO g.bI<=1099511627776+N:=by
 refine⟨by rw[hx];exact h.bI,?_,sH h.bI⟩;have:=h.ln;rw[<- hx,zzn]at this;exact this
def QU(X:Μ)(lp dp:Nat)(g:da)(d:DS)(v:Ε)(p:Φ)(hv:dX X v p)(hp:p.length<=140737488355328){M:Nat}(hg:g.Ok M)(hM:M<=1000000000000000):
  SP 279 [Δ lp,v] [.ob (dx lp dp g),.ob (cw dp d),X] (awz lp dp g d X p (eW g d.off p)):=by
 refine Enzz λW F w hS=>?_;apply cPs;delta aI bW a_ b_ Hz ai bR;obtain⟨sv,tv,xs,hx,hS⟩:=dx.iff.1 hS;obtain⟨cL,hl,hh0,FL⟩:=hg.xs hx;have tG:=hg.b0;have Fx:=hg.b1;have vZ:=hg.s1;have xX:=hg.s0;have mQ:cO (xs.map dU.pl)=cO g.bI:=by rw[hx]
 refine Gm λb w hS=>?_;refine Cc (Yj X v p hv hp) ?_;clear hS;rintro r post hQ w hS;unfold s7 at hQ;by_cases xz:1048576<p.length
 ·rw[zzd xz]at hQ
  obtain⟨rfl,rfl⟩:=hQ;have eg:eW g d.off p= .error 1:=by unfold eW;rw[zzd xz]
  rw[eg];(try simp only[app]at hS);refine Gp ?_
  refine Υ ?_;refine Gn λw hS=>?_;exact⟨_,⟨⟨1,rfl,rfl,by decide⟩,rfl⟩,SL.cD (dx.iff.2 ⟨sv,tv,xs,hx,SL.cD hS (t:=.pt lp (eP sv tv dp g.base g.size) 206::eN sv xs::.ob (zh dY xs)::.ob (fh tv g.dE)::.ob (cw dp d)::X::F) Xi⟩) Xi⟩
 rw[zzb xz]at hQ
 obtain⟨u,rfl,rfl⟩:=hQ;try simp only[app]at hS
 have hu:=hS.rQ .hd;obtain⟨au,cu,eu,_⟩:=bF.at hS .hd;subst eu;refine Gp ?_;refine Χ ?_;refine Gp ?_;refine Cg (zL dp d) λw hS=>?_;have gL:∀{w:Ζ} {l:Β},SL W (.pt lp (eP sv tv dp g.base g.size) 206::eN sv xs::.ob (zh dY xs)::.ob (fh tv g.dE)::l) w->SL W (.ob (dx lp dp g)::l) w:=λh=>dx.iff.2 ⟨sv,tv,xs,hx,h⟩;refine yU (λho=>?_) (λho=>?_)
 ·have eg:eW g d.off p= .error 8:=by unfold eW;rw[zzb xz,zzd ho]
  rw[eg];refine Gn λw hS=>?_;exact⟨_,⟨⟨8,rfl,rfl,by decide⟩,rfl⟩,SL.cD (gL (SL.cD hS (t:=.pt lp (eP sv tv dp g.base g.size) 206::eN sv xs::.ob (zh dY xs)::.ob (fh tv g.dE)::.ob (cw dp d)::X::F) Xi)) Xi⟩
 refine Gp ?_;refine Cg (yf lp (eP sv tv dp g.base g.size) 206 sv xs rfl cL hM (by omega)) λw hS=>?_;rw[mQ];refine za (λh1=>?_) (λh1=>?_)
 ·have eg:eW g d.off p= .error 7:=by unfold eW;rw[zzb xz,zzb (by rw[ho];decide),zzd h1]
  rw[eg];refine Gn λw hS=>?_;exact⟨_,⟨⟨7,rfl,rfl,by decide⟩,rfl⟩,SL.cD (gL (SL.cD hS (t:=.pt lp (eP sv tv dp g.base g.size) 206::eN sv xs::.ob (zh dY xs)::.ob (fh tv g.dE)::.ob (cw dp d)::X::F) Xi)) Xi⟩
 refine Gp ?_;refine⟨λvs w=>∃f:Int,vs=[Γ f]/\eW g d.off p=mO g f p/\-1000000<=f/\f<=1000000/\SL W (.pt b [Γ 0,.bool false,Θ] 335::.pt lp (eP sv tv dp g.base g.size) 206::eN sv xs::.ob (zh dY xs)::.ob (fh tv g.dE)::.ob (cw dp d)::.ob (bF (.slice au (dm p).length cu) 5 1 (dm p).length ((dm p).map dd))::X::F) w,?_,?_⟩
 ·refine Gp ?_;refine zO hS Xh ?_;refine cA (λh2=>?_) (λh2=>?_)
  ·refine Gp ?_;have e:((xs.length:Nat):Int)-1=((xs.length-1:Nat):Int):=by omega
   rw[e];have hj:xs.length-1<xs.length:=by omega
   refine Z0 hS Xh hj ?_;have hm:(xs[xs.length-1]'hj).pl∈xs.map dU.pl:=zzx.2 ⟨_,zzh hj,rfl⟩;have nB:g.bI.getLast?=some (xs[xs.length-1]'hj).pl:=by
    rw[<- hx,uuo,xx9,zzc hj];rfl
   have nD:=cL _ hm;generalize xs[xs.length-1]'hj=x at *
   have sM:eW g d.off p=if x.pl.l.length=0\/(x.pl.size:Int)+(dm p).length<=g.size then .ok ⟨x.pl.file,false,dm p⟩ else mO g (x.pl.file+1) p:=by
    unfold eW;rw[zzb xz,zzb (by rw[ho];decide),zzb (by omega),nB]
   have kj:x.pl.l.length=x.es.length:=by simp[dU.pl,AK]
   have Vc:x.pl.size=x.size:=rfl;have Bu:x.pl.file=x.file:=rfl;have k1:=nD.f0;have k2:=nD.f1;have k3:=nD.sz;rw[kj,Vc,Bu]at sM
   rw[Bu]at k1 k2
   rw[Vc]at k3
   have uV:=kJ p;unfold fG dU.lv;refine Gm λb w hS=>?_;refine za (λh3=>?_) (λh3=>?_)
   ·rw[zzd (.inl (by omega))]at sM
    rw[sM];refine Gn λw hS=>?_;exact⟨_,⟨au,cu,rfl,rfl⟩,SL.cD (gL (SL.cD hS (t:=.pt lp (eP sv tv dp g.base g.size) 206::eN sv xs::.ob (zh dY xs)::.ob (fh tv g.dE)::.ob (bF (.slice au (dm p).length cu) 5 1 (dm p).length ((dm p).map dd))::.ob (cw dp d)::X::F) Xi)) Xi⟩
   refine cA (λh4=>?_) (λh4=>?_)
   ·rw[zzd (.inr (by omega))]at sM
    rw[sM];refine Gn λw hS=>?_;exact⟨_,⟨au,cu,rfl,rfl⟩,SL.cD (gL (SL.cD hS (t:=.pt lp (eP sv tv dp g.base g.size) 206::eN sv xs::.ob (zh dY xs)::.ob (fh tv g.dE)::.ob (bF (.slice au (dm p).length cu) 5 1 (dm p).length ((dm p).map dd))::.ob (cw dp d)::X::F) Xi)) Xi⟩
   rw[zzb (by omega)]at sM
   refine Gp ?_;exact⟨x.file+1,rfl,sM,by omega,by omega,aR hS⟩
  have sM:eW g d.off p=mO g g.base p:=by
   have Ju:g.bI=[]:=by
    rw[<- hx];have:xs=[]:=zzl (by omega);rw[this];rfl
   unfold eW;rw[zzb xz,zzb (by rw[ho];decide),zzb (by omega),Ju];rfl
  exact⟨g.base,rfl,sM,by omega,by omega,aR hS⟩
 clear hS;rintro v8 w ⟨f,eY,sM,f0,f1,hS⟩;cases eY;rw[sM];unfold mO;refine cA (λh2=>?_) (λh2=>?_)
 ·rw[zzd h2];refine Gn λw hS=>?_;exact⟨_,⟨⟨7,rfl,rfl,by decide⟩,rfl⟩,SL.cD (gL (SL.cD hS (t:=.pt lp (eP sv tv dp g.base g.size) 206::eN sv xs::.ob (zh dY xs)::.ob (fh tv g.dE)::.ob (cw dp d)::X::F) Xi)) Xi⟩
 rw[zzb h2];refine Gp ?_;refine Cg (yf lp (eP sv tv dp g.base g.size) 206 sv xs rfl cL hM (by omega)) λw hS=>?_;rw[mQ];refine Cc (qk (cO g.bI+1)) ?_;clear hS;rintro r post hQ w hS;unfold G9 at hQ;rw[zzb (by omega)]at hQ
 obtain⟨y,rfl,rfl⟩:=hQ;try simp only[app]at hS
 have hy:=hS.rQ .hd;obtain⟨ay,cy,ey,_⟩:=bF.at hS .hd;subst ey;refine Gm λb w hS=>?_;refine yK (F:=_) (ZK _ 2 _ [_,_] [dm (dZ (cO g.bI+1).toNat),dm p] [.ob (bF (.slice ay (dm (dZ (cO g.bI+1).toNat)).length cy) 5 1 (dm (dZ (cO g.bI+1).toNat)).length ((dm (dZ (cO g.bI+1).toNat)).map dd)),.ob (bF (.slice au (dm p).length cu) 5 1 (dm p).length ((dm p).map dd))] rfl rfl ?_ ?_ (by omega)) hS Xp ?_
 ·intro i hi
  match i,hi with
  | 0,_=>exact⟨_,.hd,dX.own⟩
  | 1,_=>exact⟨_,.tl .hd,dX.own⟩
 ·have:=kJ p;have:=kJ (dZ (cO g.bI+1).toNat);have:=A_ (cO g.bI+1).toNat;simp;omega
 clear hS;rintro c post rfl w hS;(try simp only[app]at hS);have e2:[dm (dZ (cO g.bI+1).toNat),dm p].flatten=dm (dZ (cO g.bI+1).toNat)++dm p:=by simp
 rw[e2]at hS
 have hc:=hS.rQ .hd;obtain⟨ac,cc,ec,_⟩:=bF.at hS .hd;subst ec;refine Gn λw hS=>?_;have e3:(dm (dZ (cO g.bI+1).toNat)).length+(dm p).length=(dm (dZ (cO g.bI+1).toNat)++dm p).length:=by rw[zza]
 rw[e3];exact⟨_,⟨ac,cc,rfl,rfl⟩,SL.cD (gL (SL.cD hS (t:=.pt lp (eP sv tv dp g.base g.size) 206::eN sv xs::.ob (zh dY xs)::.ob (fh tv g.dE)::.ob (bF (.slice ac (dm (dZ (cO g.bI+1).toNat)++dm p).length cc) 5 1 (dm (dZ (cO g.bI+1).toNat)++dm p).length ((dm (dZ (cO g.bI+1).toNat)++dm p).map dd))::.ob (cw dp d)::X::F) Xi)) Xi⟩
def aF9(lp dp:Nat)(g:da)(d:DS)(X:Μ)(y:Except Int il)(r:Ε)(post:Β):Prop:=match y with
 | .error e=>e≠0/\r= .tuple #[.agg #[Γ 0,.bool false,Θ],Γ e]/\post=[.ob (dx lp dp g),.ob (cw dp d),X]
 | .ok x=>∃a c,r= .tuple #[.agg #[Γ x.file,.bool x.fresh,.slice a x.b.length c],Γ (dy g d).2]/\post=[.ob (bF (.slice a x.b.length c) 5 1 x.b.length (x.b.map dd)),.ob (dx lp dp (dy g d).1.1),.ob (cw dp (dy g d).1.2),X]
def ZR(X:Μ)(lp dp:Nat)(g:da)(d:DS)(v:Ε)(p:Φ)(hv:dX X v p)(hp:p.length<=140737488355328){M N:Nat}(hg:g.Ok M)(hM:M<=1000000000000000)(cL:d.Ok N)(hN:N<=140737488355328)(ed:d.ops<=100000):
  SP 211 [Δ lp,v] [.ob (dx lp dp g),.ob (cw dp d),X] (aF9 lp dp g d X (eW g d.off p)):=by
 refine Enzz λW F w hS=>?_;apply cN5;delta aI ai bR;refine Gm λb w hS=>?_;refine Cc (QU X lp dp g d v p hv hp hg hM) ?_;clear hS;rintro r post hQ w hS;cases eg:eW g d.off p with
 | error e=>
  rw[eg]at hQ
  obtain⟨⟨z,rfl,rfl,hz⟩,rfl⟩:=hQ;refine Gm λb w hS=>?_;refine za (λh=>absurd h hz) (λ_=>?_);refine Gn λw hS=>?_;exact⟨_,⟨hz,rfl,rfl⟩,aR hS⟩
 | ok x=>
  rw[eg]at hQ
  obtain⟨a,c,rfl,rfl⟩:=hQ;refine Gm λb w hS=>?_;refine Υ ?_;refine Cg (QO lp dp g d N cL hN ed) λw hS=>?_;exact⟨_,⟨a,c,rfl,rfl⟩,aR hS⟩
def eN.at{W w:Ζ}{l:Β}{v:Ε}{t:Ι}{xs:List dU}{j:Nat}(h:SL W (.ob (dB v t 4 xs.length (xs.map fG).flatten)::l) w)(hj:j<xs.length):
  ∃b o cap A B,v= .slice (some ⟨b,o,none⟩) xs.length cap/\A.length=o+j*4/\SL W (.pt b (A++(fG xs[j]++B)) t::l) w /\
   ∀y w' l',SL W (.pt b (A++(fG y++B)) t::l') w'->SL W (.ob (dB v t 4 (xs.set j y).length ((xs.set j y).map fG).flatten)::l') w':=by
 obtain⟨b,pre,cap,rest,rfl,hc,hl,hr,hS⟩:=dB.block h (by omega);have e:(xs.map fG).flatten=((xs.take j).map fG).flatten++(fG xs[j]++((xs.drop (j+1)).map fG).flatten):=by
  have q':xs=xs.take j++xs[j]::xs.drop (j+1):=by rw[<- yyq hj,yyk]
  have e:=yy1 (λl=>(List.map fG l).flatten) q';simp only[zzt,zzr,yyy,zz9]at e;exact e
 have el:((xs.take j).map fG).flatten.length=j*4:=by rw[Ts,zzg];omega
 refine⟨b,pre.length,cap,pre++((xs.take j).map fG).flatten,((xs.drop (j+1)).map fG).flatten++rest,rfl,by rw[zza,el],?_,λy w' l' h'=>?_⟩
 ·rw[e]at hS
  simp only[zzk]at hS ⊢;exact hS
 have e2:((xs.set j y).map fG).flatten=((xs.take j).map fG).flatten++(fG y++((xs.drop (j+1)).map fG).flatten):=by
  rw[xxi,zzd hj];simp only[zzt,zzr,yyy,zz9]
 have:=dB.mk (b:=b) (t:=t) (sz:=4) (n:=xs.length) (cells:=((xs.set j y).map fG).flatten) (pre:=pre) (rest:=rest) (cap:=cap) hc (by rw[Ts,yyh]) hr rfl (by rw[e2];simp only[zzk]at h' ⊢;exact h');show SL W (.ob (dB _ t 4 (xs.set j y).length _)::l') w';rw[yyh];exact this
def BL{A B:Ξ}{cs:Ξ}{i:Nat}{u:Ε}(h:cs[i]?=some u):(A++(cs++B))[A.length+i]?=some u:=by
 rw[yyb (by omega),wwh,zzm (zzf.1 h).1];exact h
def W2{A B:Ξ}{cs:Ξ}{i:Nat}{u:Ε}(h:i<cs.length):(A++(cs++B)).set (A.length+i) u=A++(cs.set i u++B):=by
 rw[vvy _ _ (by omega),wwh,ww1 _ _ h]
def aWa{g:da}{d:DS}{p:Φ}{e:Int}(h:eW g d.off p= .error e):fy g d p=((g,d),(0,e)):=by
 unfold fy;rw[h]
def aWc{g:da}{d:DS}{p:Φ}{x:il}(h:eW g d.off p= .ok x)(hm:(dy g d).2≠0):fy g d p=((dy g d).1,(0,(dy g d).2)):=by
 unfold fy;rw[h];simp only;rw[zzd hm]
def aR9{g:da}{d:DS}{p:Φ}{x:il}(h:eW g d.off p= .ok x)(hm:(dy g d).2=0)(ha:((dy g d).1.2.append x.file x.b).2≠0):
  fy g d p=(((dy g d).1.1,((dy g d).1.2.append x.file x.b).1),(0,((dy g d).1.2.append x.file x.b).2)):=by
 unfold fy;rw[h];simp only;rw[zzb (by simp[hm]),zzd ha]
def aWd{g:da}{d:DS}{p:Φ}{x:il}(h:eW g d.off p= .ok x)(hm:(dy g d).2=0)(ha:((dy g d).1.2.append x.file x.b).2=0)(hs:(((dy g d).1.2.append x.file x.b).1.sync x.file).2≠0):
  fy g d p=(((dy g d).1.1,(((dy g d).1.2.append x.file x.b).1.sync x.file).1),(0,(((dy g d).1.2.append x.file x.b).1.sync x.file).2)):=by
 unfold fy;rw[h];simp only;rw[zzb (by simp[hm]),zzb (by simp[ha]),zzd hs]
def aWb{g:da}{d:DS}{p:Φ}{x:il}(h:eW g d.off p= .ok x)(hm:(dy g d).2=0)(ha:((dy g d).1.2.append x.file x.b).2=0)(hs:(((dy g d).1.2.append x.file x.b).1.sync x.file).2=0):
  fy g d p=(({(dy g d).1.1 with bI:=jQ g.bI x p},(((dy g d).1.2.append x.file x.b).1.sync x.file).1),(cO (jQ g.bI x p),0)):=by
 unfold fy;rw[h];simp only;rw[zzb (by simp[hm]),zzb (by simp[ha]),zzb (by simp[hs]),(tV g d).1]
def WO(s:DS)(f:Int)(b:Φ):(s.append f b).1.ops<=s.ops+1:=by
 unfold DS.append;split<;>simp[DS.cK]
def cDk(s:DS)(f:Int):(s.sync f).1.ops<=s.ops+1:=by
 unfold DS.sync;split
 ·simp
 split<;>simp[DS.cK]
def WQ(s:DS)(f n:Int):(s.cut f n).1.ops<=s.ops+1:=by
 unfold DS.cut;split
 ·simp
 split
 ·simp
 split<;>simp[DS.cK]
def WS(s:DS)(f:Int):(s.remove f).1.ops<=s.ops+1:=by
 unfold DS.remove;split
 ·simp
 split<;>simp[DS.cK]
def WR(g:da)(d:DS):(dy g d).1.2.ops<=d.ops+1:=by
 unfold dy;split
 ·simp
 simp only;split
 ·exact WS _ _
 exact WQ _ _ _
def Zl(X:Μ)(lp dp:Nat)(g:da)(d:DS)(v:Ε)(p:Φ)(hv:dX X v p)(hp:p.length<=140737488355328){M N:Nat}(hg:g.Ok M)(hM:M<=1000000000000)(cL:d.Ok N)(hN:N<=140737480000000)(ed:d.ops<=90000):
  SP 151 [Δ lp,v] [.ob (dx lp dp g),.ob (cw dp d),X] (cE (.tuple #[Γ (fy g d p).2.1,Γ (fy g d p).2.2]) [.ob (dx lp dp (fy g d p).1.1),.ob (cw dp (fy g d p).1.2),X]):=by
 refine Enzz λW F w hS=>?_;apply cMf;delta aI bW a_ c_ aW b_ ai bR;obtain⟨va,vc,rfl,JP⟩:=hv.sl hS Xh;refine Cc (ZR X lp dp g d _ p hv hp hg (by omega) cL (by omega) (by omega)) ?_;clear hS;rintro r post hQ w hS;cases eg:eW g d.off p with
 | error e=>
  rw[eg]at hQ
  obtain⟨hz,rfl,rfl⟩:=hQ;rw[aWa eg];refine Gm λb w hS=>?_;refine⟨λvs w=>vs=[Γ e]/\SL W (.ob (dx lp dp g)::.ob (cw dp d)::X::F) w,?_,?_⟩
  ·refine Gp ?_;refine za (λh=>absurd h hz) (λ_=>⟨rfl,aR hS⟩)
  clear hS;rintro v7 w ⟨eY,hS⟩;cases eY;refine⟨λvs w=>vs=[Γ e]/\SL W (.ob (dx lp dp g)::.ob (cw dp d)::X::F) w,?_,?_⟩
  ·refine Gp ?_;refine za (λh=>absurd h hz) (λ_=>⟨rfl,hS⟩)
  clear hS;rintro v7 w ⟨eY,hS⟩;cases eY;refine Gp ?_;refine za (λ_=>?_) (λh=>absurd hz h);(exact cF hS)
 | ok x=>
  rw[eg]at hQ
  obtain⟨a,c,rfl,rfl⟩:=hQ;have hw:=Gx hg eg;have FV:=Gt (g:=g) cL;have Bi:=Kg (d:=d) hg;have Bj:=tV g d;have sK:=WR g d;have p5:=hw.bl;have hpp:=hw.pl;refine Gm λb w hS=>?_;obtain⟨wb,rfl⟩:∃k,k=b:=⟨b,rfl⟩;by_cases hm:(dy g d).2=0
  ·
   have TW:=FV.append x.file x.b;have hao:=WO (dy g d).1.2 x.file x.b;have cXh:=TW.sync x.file;have uP:=aWb eg hm;have C5:=aR9 eg hm;have Bp:=aWd eg hm;generalize fy g d p=G at *
   generalize dy g d=m at *
   obtain⟨⟨g1,d1⟩,me⟩:=m;simp only at *
   subst hm;refine⟨λvs w=>vs=[Γ (d1.append x.file x.b).2]/\SL W (.pt wb [Γ x.file,.bool x.fresh,.slice a x.b.length c] 335::.ob (bF (.slice a x.b.length c) 5 1 x.b.length (x.b.map dd))::.ob (dx lp dp g1)::.ob (cw dp (d1.append x.file x.b).1)::X::F) w,?_,?_⟩
   ·refine Gp ?_;refine Υ ?_;obtain⟨sv,tv,xs,hx,hS⟩:=dx.iff.1 (SL.cD hS (t:=.ob (dx lp dp g1)::.pt wb [Γ x.file,.bool x.fresh,.slice a x.b.length c] 335::.ob (bF (.slice a x.b.length c) 5 1 x.b.length (x.b.map dd))::.ob (cw dp d1)::X::F) Xi);refine Gn λw hS=>?_;refine Cg (HM (.ob (bF (.slice a x.b.length c) 5 1 x.b.length (x.b.map dd))) dp d1 N FV (by omega) x.file _ x.b (λhS h=>nG hS h) (by omega)) λw hS=>?_;have hS:=dx.iff.2 ⟨sv,tv,xs,hx,SL.cD hS (t:=.pt lp (eP sv tv dp g1.base g1.size) 206::eN sv xs::.ob (zh dY xs)::.ob (fh tv g1.dE)::.pt wb [Γ x.file,.bool x.fresh,.slice a x.b.length c] 335::.ob (bF (.slice a x.b.length c) 5 1 x.b.length (x.b.map dd))::.ob (cw dp (d1.append x.file x.b).1)::X::F) Xi⟩;exact aR hS
   clear hS;rintro v7 w ⟨eY,hS⟩;cases eY;by_cases ha:(d1.append x.file x.b).2=0
   ·rw[ha];refine⟨λvs w=>vs=[Γ ((d1.append x.file x.b).1.sync x.file).2]/\SL W (.pt wb [Γ x.file,.bool x.fresh,.slice a x.b.length c] 335::.ob (bF (.slice a x.b.length c) 5 1 x.b.length (x.b.map dd))::.ob (dx lp dp g1)::.ob (cw dp ((d1.append x.file x.b).1.sync x.file).1)::X::F) w,?_,?_⟩
    ·refine Gp ?_;refine Υ ?_;obtain⟨sv,tv,xs,hx,hS⟩:=dx.iff.1 (SL.cD hS (t:=.ob (dx lp dp g1)::.pt wb [Γ x.file,.bool x.fresh,.slice a x.b.length c] 335::.ob (bF (.slice a x.b.length c) 5 1 x.b.length (x.b.map dd))::.ob (cw dp (d1.append x.file x.b).1)::X::F) Xi);refine Gn λw hS=>?_;refine Cg (Yu dp (d1.append x.file x.b).1 _ TW (by omega) x.file) λw hS=>?_;have hS:=dx.iff.2 ⟨sv,tv,xs,hx,SL.cD hS (t:=.pt lp (eP sv tv dp g1.base g1.size) 206::eN sv xs::.ob (zh dY xs)::.ob (fh tv g1.dE)::.pt wb [Γ x.file,.bool x.fresh,.slice a x.b.length c] 335::.ob (bF (.slice a x.b.length c) 5 1 x.b.length (x.b.map dd))::.ob (cw dp ((d1.append x.file x.b).1.sync x.file).1)::X::F) Xi⟩;exact aR hS
    clear hS;rintro v7 w ⟨eY,hS⟩;cases eY;by_cases hs:((d1.append x.file x.b).1.sync x.file).2=0
    ·rw[hs];have hG:=uP ha hs;subst hG;clear uP C5 Bp hao;generalize ((d1.append x.file x.b).1.sync x.file).1=d3 at *
     refine Gp ?_;refine Χ ?_;obtain⟨sv,tv,xs,hx,hS⟩:=dx.iff.1 (SL.cD hS (t:=.ob (dx lp dp g1)::.pt wb [Γ x.file,.bool x.fresh,.slice a x.b.length c] 335::.ob (cw dp d3)::X::F) Xi);obtain⟨Bv,kj,_,_⟩:=Bi.xs hx;have mQ:cO (xs.map dU.pl)=cO g.bI:=by rw[hx,Bj.1]
     have Jg:=hw.hd;have xG:=sH hg.bI;have cwe:=Wj hg hw;refine⟨λvs w=>vs=[]/\∃j9 dq,dq.map dU.pl=tW g.bI x/\dq.length<=xs.length+1/\SL W (.pt lp (eP j9 tv dp g1.base g1.size) 206::eN j9 dq::.ob (zh dY dq)::.ob (fh tv g1.dE)::.pt wb [Γ x.file,.bool x.fresh,.slice a x.b.length c] 335::.ob (cw dp d3)::X::F) w,?_,?_⟩
     ·refine Gp ?_;unfold tW;refine yU (λhf=>?_) (λhf=>?_)
      ·rw[zzd hf];refine Gn λw hS=>?_;refine Cg (yf lp (eP sv tv dp g1.base g1.size) 206 sv xs rfl Bv (by omega) (by omega)) λw hS=>?_;refine Gm λb w hS=>?_;rw[mQ]at hS
       have tO:=dB.one hS (v:=sv) (t:=293) (sz:=4) (n:=xs.length) (cells:=(xs.map fG).flatten) Xh;refine ZZ (m:=1) (cs:=[Γ x.file,Γ (cO g.bI+1),Γ 0,Θ]) hS Xr (jR hS .hd rfl) rfl rfl (by simp[Value.oneCell']) (by omega) (by omega) ?_;clear hS;intro j9 w hS;have tO:=dB.one hS (v:=j9) .hd;refine Gn λw hS=>?_;have hS:=dB.ri (a:=none) (t:=198) (sz:=1) hS;have hS:=zh.nil (A:=gO) (SL.cD hS (t:=.ob (dB Θ 198 1 0 [])::.ob (zh dY xs)::.pt lp (eP j9 tv dp g1.base g1.size) 206::.ob (dB j9 293 4 (xs.length+1) ((xs.map fG).flatten++[Γ x.file,Γ (cO g.bI+1),Γ 0,Θ]))::.ob (fh tv g1.dE)::.pt wb [Γ x.file,.bool x.fresh,.slice a x.b.length c] 335::.ob (cw dp d3)::X::F) Xi);have hS:=(dY.iff (x:=⟨x.file,cO g.bI+1,0,[],none,0⟩)).2 (SL.cD hS (t:=.ob (dB Θ 198 1 0 [])::.ob (zh gO [])::.ob (zh dY xs)::.pt lp (eP j9 tv dp g1.base g1.size) 206::.ob (dB j9 293 4 (xs.length+1) ((xs.map fG).flatten++[Γ x.file,Γ (cO g.bI+1),Γ 0,Θ]))::.ob (fh tv g1.dE)::.pt wb [Γ x.file,.bool x.fresh,.slice a x.b.length c] 335::.ob (cw dp d3)::X::F) Xi);have hS:=zh.snoc (SL.cD hS (t:=.ob (zh dY xs)::.ob (dY ⟨x.file,cO g.bI+1,0,[],none,0⟩)::.pt lp (eP j9 tv dp g1.base g1.size) 206::.ob (dB j9 293 4 (xs.length+1) ((xs.map fG).flatten++[Γ x.file,Γ (cO g.bI+1),Γ 0,Θ]))::.ob (fh tv g1.dE)::.pt wb [Γ x.file,.bool x.fresh,.slice a x.b.length c] 335::.ob (cw dp d3)::X::F) Xi);have e1:xs.length+1=(xs++[(⟨x.file,cO g.bI+1,0,[],none,0⟩:dU)]).length:=by simp
       have e2:(xs.map fG).flatten++[Γ x.file,Γ (cO g.bI+1),Γ 0,Θ]=((xs++[(⟨x.file,cO g.bI+1,0,[],none,0⟩:dU)]).map fG).flatten:=by simp[fG,dU.lv]
       rw[e1,e2]at hS
       refine⟨j9,xs++[⟨x.file,cO g.bI+1,0,[],none,0⟩],?_,by simp,aR hS⟩;rw[zzt,hx,Bj.1];rfl
      rw[zzb (by rw[hf];decide)];exact⟨rfl,sv,xs,by rw[hx,Bj.1],by omega,aR hS⟩
     clear hS Bv mQ;rintro w ⟨-,j9,dq,oN,rG,hS⟩;obtain⟨A,s,hA⟩:=Kh hw;rw[Gz _ _ _ hA];have hle:0<dq.length:=by
      have:=yy1 List.length oN;rw[hA]at this;simp at this;omega
     have hj:dq.length-1<dq.length:=by omega
     have q':dq=dq.take (dq.length-1)++[dq[dq.length-1]]:=by
      conv=>lhs;rw[<- yyk (dq.length-1) dq]
      rw[yyq hj,yy7 (by omega)]
     have Fm:A=(dq.take (dq.length-1)).map dU.pl/\s=(dq[dq.length-1]).pl:=by
      rw[q',zzt]at oN
      rw[hA]at oN
      have:=List.append_inj' oN rfl;exact⟨this.1.symm,by simpa using this.2.symm⟩
     obtain⟨xu,vZ⟩:=Fm;subst xu vZ;have U0:=cwe (dq[dq.length-1]).pl (by rw[hA];simp);have z1:=U0.sz;have z2:=U0.ln;have hS:=zh.take (t:=dq.length-1) (SL.cD hS (t:=.ob (zh dY dq)::eN j9 dq::.pt lp (eP j9 tv dp g1.base g1.size) 206::.ob (fh tv g1.dE)::.pt wb [Γ x.file,.bool x.fresh,.slice a x.b.length c] 335::.ob (cw dp d3)::X::F) Xi) (zzc hj);have hS:=dY.iff.1 hS;obtain⟨rb,ro,rc,AA,BB,rfl,hAA,hS,jY⟩:=eN.at (SL.cD hS (t:=eN j9 dq::.ob (dB (dq[dq.length-1]).lv 198 1 (dq[dq.length-1]).es.length (gC (dq[dq.length-1]).es))::.ob (zh gO (dq[dq.length-1]).es)::.ob (zh dY (dq.eraseIdx (dq.length-1)))::.pt lp (eP j9 tv dp g1.base g1.size) 206::.ob (fh tv g1.dE)::.pt wb [Γ x.file,.bool x.fresh,.slice a x.b.length c] 335::.ob (cw dp d3)::X::F) Xi) hj;generalize U8:dq[dq.length-1]=x0 at *
     have z1:x0.size<=M:=z1;have z2:x0.es.length<=M:=by simpa [dU.pl,AK] using z2
     refine Gn λw hS=>?_;have e:((dq.length:Nat):Int)-1=((dq.length-1:Nat):Int):=by omega
     rw[e];refine zG hj ?_;rw[<- hAA];refine Gn λw hS=>?_;refine zT hS Xh (BL (i:=2) (u:=Γ x0.size) rfl) ?_;refine Gp ?_;refine Zu hS Xu (BL (i:=2) (u:=Γ x0.size) rfl) rfl ?_;clear hS;intro w hS;rw[W2 (by rw[G5];decide)]at hS
     have e5:(fG x0).set 2 (Γ ((x0.size+x.b.length:Nat):Int))=[Γ x0.file,Γ x0.first,Γ ((x0.size+x.b.length:Nat):Int),x0.lv]:=rfl;rw[e5]at hS
     refine Gn λw hS=>?_;refine zT hS Xh (BL (i:=3) (u:=x0.lv) rfl) ?_;refine Zs (cs:=p.map dd) hS (λw' c fY=>hv.src fY (.tl Xh)) (by simp) (vk _) (by omega) ?_;clear hS;intro u w hS _;have hu:=hS.rQ .hd;obtain⟨ua,uc,eu,_⟩:=bF.at hS .hd;subst eu;refine zT hS Xh (BL (i:=3) (u:=x0.lv) rfl) ?_;refine Gm λb w hS=>?_;refine zT hS Xh (BL (i:=3) (u:=x0.lv) rfl) ?_;refine Gp ?_;refine ZZ (t:=198) (sz:=1) (n:=x0.es.length) (cells:=gC x0.es) (m:=1) (cs:=[.slice ua p.length uc]) hS Xr (jR hS .hd rfl) rfl rfl (by simp[Value.oneCell']) (by omega) (by omega) ?_;clear hS;intro v' w hS;have tO:=dB.one hS (v:=v') .hd;obtain⟨a',c',ev,_⟩:=dB.at hS (v:=v') .hd;subst ev;refine Gp ?_;refine Zu hS Xu (BL (i:=3) (u:=x0.lv) rfl) tO ?_;clear hS;intro w hS;rw[W2 (by show 3<4;decide)]at hS
     have e6:([Γ x0.file,Γ x0.first,Γ ((x0.size+x.b.length:Nat):Int),x0.lv]:Ξ).set 3 (.slice a' (x0.es.length+1) c')=fG ⟨x0.file,x0.first,x0.size+x.b.length,x0.es++[(.slice ua p.length uc,p)],a',c'⟩:=by
      simp[fG,dU.lv]
     rw[e6]at hS
     let y:dU:=⟨x0.file,x0.first,x0.size+x.b.length,x0.es++[(.slice ua p.length uc,p)],a',c'⟩
     have oO:(dq.set (dq.length-1) y).map dU.pl=(dq.take (dq.length-1)).map dU.pl++[vt x0.pl x.b.length p]:=by
      rw[xxi,zzd hj,yy7 (by omega),zzt];congr 1;simp[y,dU.pl,vt,o9]
     have xT:=(W5 hg hw).1;rw[Gz _ _ _ hA,<- oO]at xT
     have hS:=jY y w _ (SL.cD hS (t:=.pt rb (AA++(fG y++BB)) 293::.ob (dB (.slice a' (x0.es.length+1) c') 198 1 (x0.es.length+1) (gC x0.es++[.slice ua p.length uc]))::.ob (bF (.slice ua p.length uc) 5 1 p.length (p.map dd))::.ob (zh gO x0.es)::.ob (zh dY (dq.eraseIdx (dq.length-1)))::.pt lp (eP (.slice (some ⟨rb,ro,none⟩) dq.length rc) tv dp g1.base g1.size) 206::.ob (fh tv g1.dE)::.ob (cw dp d3)::X::F) Xi);have hS:=SL.cD hS (t:=.ob (bF (.slice ua p.length uc) 5 1 p.length (p.map dd))::.ob (zh gO x0.es)::.ob (dB (.slice a' (x0.es.length+1) c') 198 1 (x0.es.length+1) (gC x0.es++[.slice ua p.length uc]))::.ob (zh dY (dq.eraseIdx (dq.length-1)))::eN (.slice (some ⟨rb,ro,none⟩) dq.length rc) (dq.set (dq.length-1) y)::.pt lp (eP (.slice (some ⟨rb,ro,none⟩) dq.length rc) tv dp g1.base g1.size) 206::.ob (fh tv g1.dE)::.ob (cw dp d3)::X::F) Xi;have hS:SL W (.ob (gO (.slice ua p.length uc,p))::.ob (zh gO x0.es)::.ob (dB (.slice a' (x0.es.length+1) c') 198 1 (x0.es.length+1) (gC x0.es++[.slice ua p.length uc]))::.ob (zh dY (dq.eraseIdx (dq.length-1)))::eN (.slice (some ⟨rb,ro,none⟩) dq.length rc) (dq.set (dq.length-1) y)::.pt lp (eP (.slice (some ⟨rb,ro,none⟩) dq.length rc) tv dp g1.base g1.size) 206::.ob (fh tv g1.dE)::.ob (cw dp d3)::X::F) w:=hS;have hS:=zh.snoc (hS.perm (.swap _ _ _));have e7:x0.es.length+1=y.es.length:=by simp[y]
     have e8:gC x0.es++[.slice ua p.length uc]=gC y.es:=by simp[y,gC]
     rw[e7,e8]at hS
     have hS:=(dY.iff (x:=y)).2 (SL.cD hS (t:=.ob (dB (.slice a' y.es.length c') 198 1 y.es.length (gC y.es))::.ob (zh gO (x0.es++[(.slice ua p.length uc,p)]))::.ob (zh dY (dq.eraseIdx (dq.length-1)))::eN (.slice (some ⟨rb,ro,none⟩) dq.length rc) (dq.set (dq.length-1) y)::.pt lp (eP (.slice (some ⟨rb,ro,none⟩) dq.length rc) tv dp g1.base g1.size) 206::.ob (fh tv g1.dE)::.ob (cw dp d3)::X::F) Xi);have hS:=zh.put hS hj;refine Gp ?_;refine Cg (yf lp (eP (.slice (some ⟨rb,ro,none⟩) dq.length rc) tv dp g1.base g1.size) 206 (.slice (some ⟨rb,ro,none⟩) dq.length rc) (dq.set (dq.length-1) y) rfl xT (by omega) (by rw[yyh];omega)) λw hS=>?_;rw[oO];have hS:=(dx.iff (g:={bI:=(dq.take (dq.length-1)).map dU.pl++[vt x0.pl x.b.length p],base:=g1.base,size:=g1.size,dE:=g1.dE})).2 ⟨_,tv,dq.set (dq.length-1) y,oO,SL.cD hS (t:=.pt lp (eP (.slice (some ⟨rb,ro,none⟩) dq.length rc) tv dp g1.base g1.size) 206::eN (.slice (some ⟨rb,ro,none⟩) dq.length rc) (dq.set (dq.length-1) y)::.ob (zh dY (dq.set (dq.length-1) y))::.ob (fh tv g1.dE)::.ob (cw dp d3)::X::F) Xi⟩;exact cF hS
    have hG:=Bp ha hs;subst hG;refine Gp ?_;refine za (λ_=>?_) (λh=>absurd hs h);(exact cF hS)
   have hG:=C5 ha;subst hG;refine⟨λvs w=>vs=[Γ (d1.append x.file x.b).2]/\SL W (.ob (dx lp dp g1)::.ob (cw dp (d1.append x.file x.b).1)::X::F) w,?_,?_⟩
   ·refine Gp ?_;refine za (λh=>absurd h ha) (λ_=>⟨rfl,aR hS⟩)
   clear hS;rintro v7 w ⟨eY,hS⟩;cases eY;refine Gp ?_;refine za (λ_=>?_) (λh=>absurd ha h);(exact cF hS)
  rw[aWc eg hm];refine⟨λvs w=>vs=[Γ (dy g d).2]/\SL W (.ob (dx lp dp (dy g d).1.1)::.ob (cw dp (dy g d).1.2)::X::F) w,?_,?_⟩
  ·refine Gp ?_;refine za (λh=>absurd h hm) (λ_=>⟨rfl,aR hS⟩)
  clear hS;rintro v7 w ⟨eY,hS⟩;cases eY;refine⟨λvs w=>vs=[Γ (dy g d).2]/\SL W (.ob (dx lp dp (dy g d).1.1)::.ob (cw dp (dy g d).1.2)::X::F) w,?_,?_⟩
  ·refine Gp ?_;refine za (λh=>absurd h hm) (λ_=>⟨rfl,hS⟩)
  clear hS;rintro v7 w ⟨eY,hS⟩;cases eY;refine Gp ?_;refine za (λ_=>?_) (λh=>absurd hm h);(exact cF hS)
def cJy{g:da}{d:DS}{p:Φ}{k e:Int}(hk:0<=k)(h:eW g d.off p= .error e):gw g d p k=((g,d),e):=by
 unfold gw;rw[zzb (by omega),h]
def cJ0{g:da}{d:DS}{p:Φ}{k:Int}{x:il}(hk:0<=k)(h:eW g d.off p= .ok x)(hm:(dy g d).2≠0):gw g d p k=((dy g d).1,(dy g d).2):=by
 unfold gw;rw[zzb (by omega),h];simp only;rw[zzd hm]
def cJw{g:da}{d:DS}{p:Φ}{k:Int}{x:il}(hk:0<=k)(h:eW g d.off p= .ok x)(hm:(dy g d).2=0)(ha:((dy g d).1.2.append x.file (x.b.take (k.toNat % x.b.length))).2≠0):
  gw g d p k=(((dy g d).1.1,((dy g d).1.2.append x.file (x.b.take (k.toNat % x.b.length))).1),((dy g d).1.2.append x.file (x.b.take (k.toNat % x.b.length))).2):=by
 unfold gw;rw[zzb (by omega),h];simp only;rw[zzb (by simp[hm]),zzd ha]
def cJz{g:da}{d:DS}{p:Φ}{k:Int}{x:il}(hk:0<=k)(h:eW g d.off p= .ok x)(hm:(dy g d).2=0)(ha:((dy g d).1.2.append x.file (x.b.take (k.toNat % x.b.length))).2=0):
  gw g d p k=(({(dy g d).1.1 with dE:=some ⟨x.file,if x.fresh=true then 0 else lT g.bI,x.fresh⟩},((dy g d).1.2.append x.file (x.b.take (k.toNat % x.b.length))).1),0):=by
 unfold gw;rw[zzb (by omega),h];simp only;rw[zzb (by simp[hm]),zzb (by simp[ha]),(tV g d).1]
def cJ5(X:Μ)(lp dp:Nat)(g:da)(d:DS)(v:Ε)(p:Φ)(k:Int)(hv:dX X v p)(hp:p.length<=140737488355328){M N:Nat}(hg:g.Ok M)(hM:M<=1000000000000)(cL:d.Ok N)(hN:N<=140737480000000)(ed:d.ops<=90000):
  SP 340 [Δ lp,v,Γ k] [.ob (dx lp dp g),.ob (cw dp d),X] (cE (Γ (gw g d p k).2) [.ob (dx lp dp (gw g d p k).1.1),.ob (cw dp (gw g d p k).1.2),X]):=by
 refine Enzz λW F w hS=>?_;apply cRc;delta aI bW a_ c_ b_ cP ai bR;obtain⟨va,vc,rfl,JP⟩:=hv.sl hS Xh;refine cA (λhk=>?_) (λhk=>?_)
 ·have:gw g d p k=((g,d),1):=by unfold gw;rw[zzd hk]
  rw[this];(exact cF hS)
 have hk:0<=k:=by omega
 refine Cc (ZR X lp dp g d _ p hv hp hg (by omega) cL (by omega) (by omega)) ?_;clear hS;rintro r post hQ w hS;cases eg:eW g d.off p with
 | error e=>
  rw[eg]at hQ
  obtain⟨hz,rfl,rfl⟩:=hQ;rw[cJy hk eg];refine Gm λb w hS=>?_;refine⟨λvs w=>vs=[Γ e]/\SL W (.ob (dx lp dp g)::.ob (cw dp d)::X::F) w,?_,?_⟩
  ·refine Gp ?_;refine za (λh=>absurd h hz) (λ_=>⟨rfl,aR hS⟩)
  clear hS;rintro v7 w ⟨eY,hS⟩;cases eY;refine Gp ?_;refine za (λ_=>?_) (λh=>absurd hz h);(exact cF hS)
 | ok x=>
  rw[eg]at hQ
  obtain⟨a,c,rfl,rfl⟩:=hQ;have hw:=Gx hg eg;have FV:=Gt (g:=g) cL;have Bi:=Kg (d:=d) hg;have Bj:=tV g d;have sK:=WR g d;have p5:=hw.bl;have hpp:=hw.pl;have xU:=hw.pos;refine Gm λb w hS=>?_;obtain⟨wb,rfl⟩:∃k,k=b:=⟨b,rfl⟩;by_cases hm:(dy g d).2=0
  ·have uP:=cJz hk eg hm;have C5:=cJw hk eg hm;generalize gw g d p k=G at *
   generalize dy g d=m at *
   obtain⟨⟨g1,d1⟩,me⟩:=m;simp only at *
   subst hm;obtain⟨kn,rfl⟩:=wwi hk;simp only[zzz]at C5 uP;generalize hq:kn % x.b.length=q at *
   have FY:q<=x.b.length:=by
    have:=vvj kn (show 0<x.b.length by omega);omega
   refine⟨λvs w=>vs=[Γ (d1.append x.file (x.b.take q)).2]/\SL W (.pt wb [Γ x.file,.bool x.fresh,.slice a x.b.length c] 335::.ob (bF (.slice a x.b.length c) 5 1 x.b.length (x.b.map dd))::.ob (dx lp dp g1)::.ob (cw dp (d1.append x.file (x.b.take q)).1)::X::F) w,?_,?_⟩
   ·refine Gp ?_;refine Υ ?_;obtain⟨sv,tv,xs,hx,hS⟩:=dx.iff.1 (SL.cD hS (t:=.ob (dx lp dp g1)::.pt wb [Γ x.file,.bool x.fresh,.slice a x.b.length c] 335::.ob (bF (.slice a x.b.length c) 5 1 x.b.length (x.b.map dd))::.ob (cw dp d1)::X::F) Xi);refine Gn λw hS=>?_;rw[hq];have dQ:dX (.ob (bF (.slice a x.b.length c) 5 1 x.b.length (x.b.map dd))) (.slice a x.b.length c) x.b:=dX.own;refine XE hS Xh dQ FY ?_;intro u hu;refine Cg (HM (.ob (bF (.slice a x.b.length c) 5 1 x.b.length (x.b.map dd))) dp d1 N FV (by omega) x.file u (x.b.take q) (λhS h=>hu.src hS h) (by rw[zzg];omega)) λw hS=>?_;have hS:=dx.iff.2 ⟨sv,tv,xs,hx,SL.cD hS (t:=.pt lp (eP sv tv dp g1.base g1.size) 206::eN sv xs::.ob (zh dY xs)::.ob (fh tv g1.dE)::.pt wb [Γ x.file,.bool x.fresh,.slice a x.b.length c] 335::.ob (bF (.slice a x.b.length c) 5 1 x.b.length (x.b.map dd))::.ob (cw dp (d1.append x.file (x.b.take q)).1)::X::F) Xi⟩;exact aR hS
   clear hS;rintro v7 w ⟨eY,hS⟩;cases eY;by_cases ha:(d1.append x.file (x.b.take q)).2=0
   ·rw[ha];have hG:=uP ha;subst hG;refine Gp ?_;refine Χ ?_;obtain⟨sv,tv,xs,hx,hS⟩:=dx.iff.1 (SL.cD hS (t:=.ob (dx lp dp g1)::.pt wb [Γ x.file,.bool x.fresh,.slice a x.b.length c] 335::.ob (cw dp (d1.append x.file (x.b.take q)).1)::X::F) Xi);refine Gp ?_;refine⟨_,rfl,zE hS ?_⟩;clear hS;intro tb w hS;have U3:=aIj (SL.cD hS (t:=.ob (fh tv g1.dE)::F) Xi);refine Gn λw hS=>?_;cases hf:x.fresh with
    | true=>
     rw[hf]at hS
     refine zp ?_;simp only[wwm];have hS:=(AD (v:=Δ tb) (x:=⟨x.file,0,true⟩)).2 ⟨tb,rfl,SL.cD hS (t:=.pt tb [Γ x.file,Γ 0,.bool true] 453::.pt lp (eP sv (Δ tb) dp g1.base g1.size) 206::eN sv xs::.ob (zh dY xs)::.ob (cw dp (d1.append x.file (x.b.take q)).1)::X::F) Xi⟩;have hS:=(dx.iff (g:={bI:=g1.bI,base:=g1.base,size:=g1.size,dE:=some ⟨x.file,0,true⟩})).2 ⟨sv,_,xs,hx,SL.cD hS (t:=.pt lp (eP sv (Δ tb) dp g1.base g1.size) 206::eN sv xs::.ob (zh dY xs)::.ob (fh (Δ tb) (some ⟨x.file,0,true⟩))::.ob (cw dp (d1.append x.file (x.b.take q)).1)::X::F) Xi⟩;exact cF hS
    | false=>
     rw[hf]at hS
     refine zq ?_;simp only[xxf,wwd];obtain⟨_,kj,_,_⟩:=Bi.xs hx;obtain⟨s,Bh,hsf⟩:=hw.oh hf;rw[<- Bj.1,<- hx]at Bh
     have hle:0<xs.length:=by
      rcases yy6 xs.length with h0|h0
      ·rw[zzl h0]at Bh;simp at Bh
      exact h0
     have hj:xs.length-1<xs.length:=by omega
     have hsx:s=(xs[xs.length-1]'hj).pl:=by
      rw[uuo,xx9,zzc hj]at Bh
      exact (wwe Bh).symm
     have Jp:lT g.bI=((xs[xs.length-1]'hj).size:Nat):=by
      unfold lT;rw[<- Bj.1,<- hx,Bh,hsx];rfl
     rw[Jp];refine Gn λw hS=>?_;refine zO hS (v:=sv) (t:=293) (sz:=4) (n:=xs.length) (cells:=(xs.map fG).flatten) Xh ?_;refine Gp ?_;have e:((xs.length:Nat):Int)-1=((xs.length-1:Nat):Int):=by omega
     rw[e];refine qg (i:=2) hS Xh hj (u:=Γ ((xs[xs.length-1]'hj).size:Nat)) rfl ?_;generalize (xs[xs.length-1]'hj).size=z at *
     refine Gn λw hS=>?_;have hS:=(AD (v:=Δ tb) (x:=⟨x.file,(z:Int),false⟩)).2 ⟨tb,rfl,SL.cD hS (t:=.pt tb [Γ x.file,Γ (z:Int),.bool false] 453::.pt lp (eP sv (Δ tb) dp g1.base g1.size) 206::eN sv xs::.ob (zh dY xs)::.ob (cw dp (d1.append x.file (x.b.take q)).1)::X::F) Xi⟩;have hS:=(dx.iff (g:={bI:=g1.bI,base:=g1.base,size:=g1.size,dE:=some ⟨x.file,(z:Int),false⟩})).2 ⟨sv,_,xs,hx,SL.cD hS (t:=.pt lp (eP sv (Δ tb) dp g1.base g1.size) 206::eN sv xs::.ob (zh dY xs)::.ob (fh (Δ tb) (some ⟨x.file,(z:Int),false⟩))::.ob (cw dp (d1.append x.file (x.b.take q)).1)::X::F) Xi⟩;exact cF hS
   have hG:=C5 ha;subst hG;refine Gp ?_;refine za (λ_=>?_) (λh=>absurd ha h);(exact cF hS)
  rw[cJ0 hk eg hm];refine⟨λvs w=>vs=[Γ (dy g d).2]/\SL W (.ob (dx lp dp (dy g d).1.1)::.ob (cw dp (dy g d).1.2)::X::F) w,?_,?_⟩
  ·refine Gp ?_;refine za (λh=>absurd h hm) (λ_=>⟨rfl,aR hS⟩)
  clear hS;rintro v7 w ⟨eY,hS⟩;cases eY;refine Gp ?_;refine za (λ_=>?_) (λh=>absurd hm h);(exact cF hS)
def Zw(lp dp:Nat)(g:da)(d:DS)(n:Int){M N:Nat}(hg:g.Ok M)(hM:M<=1000000000000)(cL:d.Ok N)(ed:d.ops+g.bI.length<=100000):
  SP 170 [Δ lp,Γ n] [.ob (dx lp dp g),.ob (cw dp d)] (cE (Γ (iG g d n).2) [.ob (dx lp dp (iG g d n).1.1),.ob (cw dp (iG g d n).1.2)]):=by
 refine Enzz λW F w hS=>?_;apply cMz;delta aI bW a_ b_ ai;obtain⟨sv,tv,xs,hx,hS⟩:=dx.iff.1 hS;refine Gp ?_;refine Cg (zL dp d) λw hS=>?_;refine yU (λho=>?_) (λho=>?_)
 ·have e:iG g d n=((g,d),8):=by unfold iG;rw[zzd ho]
  rw[e];have hS:=(dx.iff (g:=g)).2 ⟨sv,tv,xs,hx,SL.cD hS (t:=.pt lp (eP sv tv dp g.base g.size) 206::eN sv xs::.ob (zh dY xs)::.ob (fh tv g.dE)::.ob (cw dp d)::F) Xi⟩;exact cF hS
 have e:iG g d n=(({g with bI:=(iH g.bI d n).1.1},(iH g.bI d n).1.2),(iH g.bI d n).2):=by unfold iG;rw[zzb (by rw[ho];decide)]
 rw[e];have gL:∀{w:Ζ} {sv:Ε} {xs:List dU} {d':DS},SL W (.pt lp (eP sv tv dp g.base g.size) 206::eN sv xs::.ob (zh dY xs)::.ob (fh tv g.dE)::.ob (cw dp d')::F) w->SL W (.ob (dx lp dp {g with bI:=xs.map dU.pl})::.ob (cw dp d')::F) w:=λh=>(dx.iff (g:={g with bI:=_})).2 ⟨_,tv,_,rfl,h⟩;refine⟨λvs w=>vs=[]/\∃a c dq d',iH g.bI d n=iH (dq.map dU.pl) d' n/\(∀s∈dq.map dU.pl,k_ s M)/\dq.length<=M/\d'.Ok N/\d'.ops+dq.length<=100000/\SL W (.pt lp (eP (.slice a dq.length c) tv dp g.base g.size) 206::eN (.slice a dq.length c) dq::.ob (zh dY dq)::.ob (fh tv g.dE)::.ob (cw dp d')::F) w,
  λ_ w=>match w.cell? ⟨lp,0,none⟩ with|some (.slice _ n _)=>n|_=>0,?_,?_⟩
 ·obtain⟨a,c,rfl,_⟩:=dB.at hS (v:=sv) (t:=293) (sz:=4) (n:=xs.length) (cells:=(xs.map fG).flatten) Xh;have hl:xs.length=g.bI.length:=by rw[<- hx,zzn]
  exact⟨rfl,a,c,xs,d,by rw[hx],by rw[hx];exact hg.bI,by rw[hl];exact hg.ln,cL,by rw[hl];exact ed,aR hS⟩
 clear hS hx;rintro w ⟨-,a,c,dq,d',Br,Dy,hlen,UH,Jy,hS⟩;rw[Br];have xB:=hS.cell (b:=lp) (o:=0) .hd rfl;refine cA (λh1=>?_) (λh1=>?_)
 ·match dq,h1,Dy,hlen,Br,Jy,hS,xB with
  | x0::x1::r,_,Dy,hlen,Br,Jy,hS,xB=>
  have xX:=Dy x0.pl (by simp);have ly:iH ((x0::x1::r).map dU.pl) d' n=if x0.pl.next-1<=n then (if (d'.remove x0.pl.file).2≠0 then (((x0::x1::r).map dU.pl,(d'.remove x0.pl.file).1),(d'.remove x0.pl.file).2) else iH ((x1::r).map dU.pl) (d'.remove x0.pl.file).1 n) else (((x0::x1::r).map dU.pl,d'),0):=by
   simp only[zzr];rw[iH]
  have k0:=xX.n0;have k1:=xX.n1;have k2:=xX.ln;have px:x0.pl.next=x0.pl.first+x0.pl.l.length:=rfl;refine Gp ?_;refine Z0 (j:=0) hS Xh (by simp) ?_;show zB _ _ [.agg (fG x0).toArray] _ _;refine Cg (Zb x0 xX (by omega)) λw hS=>?_;refine za (λh2=>?_) (λh2=>?_)
  ·rw[zzd h2]at ly
   refine Gn λw hS=>?_;refine qg (j:=0) (i:=0) hS Xh (by simp) (u:=Γ x0.file) rfl ?_;refine Cg (yS dp d' N UH (by omega) x0.file) λw hS=>?_;have uU:=UH.remove x0.file;have JF:=WS d' x0.file;have Bu:x0.pl.file=x0.file:=rfl;rw[Bu]at ly
   refine za (λh3=>?_) (λh3=>?_)
   ·rw[ly,zzd h3];have hS:=gL (aR hS);exact cF hS
   rw[zzb h3]at ly
   rw[ly]at Br ⊢
   refine Gp ?_;refine Yp (k:=1) (SL.cD hS (t:=eN (.slice a (x0::x1::r).length c) (x0::x1::r)::.pt lp (eP (.slice a (x0::x1::r).length c) tv dp g.base g.size) 206::.ob (zh dY (x0::x1::r))::.ob (fh tv g.dE)::.ob (cw dp (d'.remove x0.file).1)::F) Xi) (by simp) ?_;clear hS;intro u hS;have e1:(x0::x1::r).length-1=(x1::r).length:=by simp
   have e2:((x0::x1::r).map fG).flatten.drop (1*4)=((x1::r).map fG).flatten:=by simp[fG]
   rw[e1,e2]at hS
   obtain⟨ua,uc,rfl,_⟩:=dB.at hS (v:=u) .hd;have hS:=zh.take (t:=0) (x:=x0) (SL.cD hS (t:=.ob (zh dY (x0::x1::r))::.ob (dB (.slice ua (x1::r).length uc) 293 4 (x1::r).length ((x1::r).map fG).flatten)::.pt lp (eP (.slice a (x0::x1::r).length c) tv dp g.base g.size) 206::.ob (fh tv g.dE)::.ob (cw dp (d'.remove x0.file).1)::F) Xi) rfl;have e3:(x0::x1::r).eraseIdx 0=x1::r:=rfl;rw[e3]at hS
   refine Gn λw hS=>?_;have gl:=hS.cell (b:=lp) (o:=0) (cs:=eP (.slice ua (x1::r).length uc) tv dp g.base g.size) (t:=206) Xh rfl;refine⟨⟨rfl,ua,uc,x1::r,(d'.remove x0.file).1,rfl,λs hs=>Dy s (by simp at hs ⊢;exact .inr hs),by simp at hlen ⊢;omega,uU,by simp at Jy ⊢;omega,aR hS⟩,?_⟩;dsimp only;rw[gl,xB];simp
  rw[ly,zzb h2];have hS:=gL (aR hS);exact cF hS
 have ly:iH (dq.map dU.pl) d' n=((dq.map dU.pl,d'),0):=by
  match dq,h1 with
  | [],_=>rfl
  | [x],_=>rfl
  | _::_::_,h1=>simp at h1;omega
 rw[ly];have hS:=gL (aR hS);exact cF hS
def qG(lp dp:Nat)(g:da)(d:DS){M N:Nat}(tG:0<=g.base)(Fx:g.base<=12288)(cL:d.Ok N)(hR:d.R.length<=100000):
  SP 191 [Δ lp] [.ob (dx lp dp g),.ob (cw dp d)] (λv post=>post=[.ob (bF v 3 1 (fS g.base d.R).length ((fS g.base d.R).map (Value.int .i64))),.ob (dx lp dp g),.ob (cw dp d)]):=by
 refine Enzz λW F w hS=>?_;apply cNj;delta aI bW ai bR;obtain⟨sv,tv,xs,hx,hS⟩:=dx.iff.1 hS;refine Gp ?_;refine Cc (ZM dp d N cL hR) ?_;clear hS;rintro fl post rfl w hS;try simp only[app]at hS
 refine zz hS (t:=3) (sz:=1) (n:=d.R.length) (cells:=d.R.map λx=>Γ x.id) Xh ?_;have hS:SL W (.ob (bF Θ 3 1 (fS g.base (d.R.take 0)).length ((fS g.base (d.R.take 0)).map (Value.int .i64)))::_) w:=bF.nil hS;refine⟨λvs w=>∃(u:Ε) (i:Nat),i<=d.R.length/\vs=[u,Γ i]/\SL W (.ob (bF u 3 1 (fS g.base (d.R.take i)).length ((fS g.base (d.R.take i)).map (Value.int .i64)))::.pt lp (eP sv tv dp g.base g.size) 206::eN sv xs::.ob (zh dY xs)::.ob (fh tv g.dE)::.ob (cw dp d)::.ob (bF fl 3 1 d.R.length (d.R.map λx=>Γ x.id))::F) w,
  λvs _=>match vs with|[_,.int _ i]=>(d.R.length-i).toNat|_=>0,⟨Θ,0,by omega,rfl,aR hS⟩,?_⟩
 clear hS;rintro v3 v12 w ⟨u,i,hi,eY,hS⟩;cases eY;refine cA (λh=>?_) (λh=>?_)
 ·have cG:i<d.R.length:=by omega
  have hu:(d.R.map λx=>Γ x.id)[i]?=some (Γ d.R[i].id):=by simp[cG]
  have cWs:(fS g.base (d.R.take i)).length<=100000:=by
   unfold fS;have:=yyp (λf=>decide (g.base<=f/\f<g.base+4096)) ((d.R.take i).map PF.id);rw[zzn,zzg]at this
   omega
  have lx:fS g.base (d.R.take (i+1))=fS g.base (d.R.take i)++if g.base<=d.R[i].id/\d.R[i].id<g.base+4096 then [d.R[i].id] else []:=by
   unfold fS;rw[ww7,zzc cG,zzt,yyx];congr 1;simp only[Option.toList_some,zzr,yy8,xx5,List.filter_nil,zzw]
  have nB:∀{w:Ζ} {u:Ε},(fS g.base (d.R.take (i+1))=fS g.base (d.R.take i))->SL W (.ob (bF u 3 1 (fS g.base (d.R.take i)).length ((fS g.base (d.R.take i)).map (Value.int .i64)))::.pt lp (eP sv tv dp g.base g.size) 206::eN sv xs::.ob (zh dY xs)::.ob (fh tv g.dE)::.ob (cw dp d)::.ob (bF fl 3 1 d.R.length (d.R.map λx=>Γ x.id))::F) w ->
    (∃(u':Ε) (i':Nat),i'<=d.R.length/\[u,Γ ((i+1:Nat):Int)]=[u',Γ i']/\SL W (.ob (bF u' 3 1 (fS g.base (d.R.take i')).length ((fS g.base (d.R.take i')).map (Value.int .i64)))::.pt lp (eP sv tv dp g.base g.size) 206::eN sv xs::.ob (zh dY xs)::.ob (fh tv g.dE)::.ob (cw dp d)::.ob (bF fl 3 1 d.R.length (d.R.map λx=>Γ x.id))::F) w):=λe h=>⟨_,i+1,by omega,rfl,by rw[e];exact h⟩
  refine yg hS (t:=3) Xh cG hu ?_;refine cA (λh1=>?_) (λh1=>?_)
  ·refine cA (λh2=>?_) (λh2=>?_)
   ·rw[zzd ⟨h1,h2⟩]at lx
    refine Gm λb w hS=>?_;refine zJ (m:=1) (cs:=[Γ d.R[i].id]) hS Xr (jR hS .hd rfl) rfl rfl (by simp[Value.oneCell']) (by omega) (by omega) ?_;clear hS;intro v' w hS;have e1:(fS g.base (d.R.take i)).length+1=(fS g.base (d.R.take (i+1))).length:=by rw[lx,zza];rfl
    have e2:(fS g.base (d.R.take i)).map (Value.int .i64)++[Γ d.R[i].id]=(fS g.base (d.R.take (i+1))).map (Value.int .i64):=by rw[lx,zzt];rfl
    rw[e1,e2]at hS
    refine Gp ?_;exact⟨⟨v',i+1,by omega,rfl,aR hS⟩,by dsimp only;omega⟩
   rw[zzb (by omega),zz2]at lx
   refine Gp ?_;exact⟨nB lx hS,by dsimp only;omega⟩
  rw[zzb (by omega),zz2]at lx
  refine Gp ?_;exact⟨nB lx hS,by dsimp only;omega⟩
 have jZ:i=d.R.length:=by omega
 subst jZ;rw[zz0]at hS
 have hS:=(dx.iff (g:=g)).2 ⟨sv,tv,xs,hx,SL.cD hS (t:=.pt lp (eP sv tv dp g.base g.size) 206::eN sv xs::.ob (zh dY xs)::.ob (fh tv g.dE)::.ob (bF v3 3 1 (fS g.base d.R).length ((fS g.base d.R).map (Value.int .i64)))::.ob (cw dp d)::F) Xi⟩;exact⟨_,rfl,aR hS⟩
def cHp(f:Nat):∀b:Φ,b.length<f->(∀p∈(jy b).1,p.length<=1048576)/\(jy b).1.length<=(jy b).2:=by
 induction f with
 | zero=>intro b h;omega
 | succ f ih=>
  intro b hb;cases h:gZ b with
  | error e=>rw[D8 h];exact⟨by simp,by simp⟩
  | ok x=>
   obtain⟨p,n⟩:=x;have h2:=Ee h;obtain⟨i1,i2⟩:=ih (b.drop n) (by rw[zzs];omega);rw[GP h];refine⟨λq hq=>?_,?_⟩
   ·rcases zz1.1 hq with rfl|hq
    ·exact h2.2.2.1
    exact i1 q hq
   show (p::(jy (b.drop n)).1).length<=n+(jy (b.drop n)).2;rw[zzj];omega
def Xb{q:Φ}{f:Int}{l:List Φ}{n:Nat}(h:gN q=some (f,l,n)):1<=f/\f<=1099511627776/\n<=q.length/\l.length<=q.length/\∀p∈l,p.length<=1048576:=by
 obtain⟨h1,h2⟩:=cHp (q.length+1) q (by omega);have h3:=cHo (q.length+1) q (by omega);unfold gN at h;split at h
 ·cases h
 rename_i hd l' hs;rw[hs]at h1 h2
 cases hh:pk hd with
 | none=>rw[hh]at h;cases h
 | some k=>
  rw[hh]at h
  cases h;have hk:1<=f/\f<=1099511627776:=by
   unfold pk at hh;split at hh
   ·unfold FC at hh;split at hh
    ·split at hh
     ·rename_i hc;cases hh;exact⟨hc.2.1,hc.2.2⟩
     cases hh
    cases hh
   cases hh
  refine⟨hk.1,hk.2,h3,?_,λp hp=>h1 p (.tail _ hp)⟩;rw[zzj]at h2;omega
def ry(R:List PF)(base:Int)(N:Nat):Prop:=∀x∈R,base<=x.id->x.id<base+4096->x.b.length<=N
def ry.all{R:List PF}{N:Nat}(h:∀x∈R,x.b.length<=N)(base:Int):ry R base N:=λx hx _ _=>h x hx
def ry.at_{R:List PF}{base:Int}{N:Nat}(h:ry R base N){f:Int}(hf:base<=f/\f<base+4096):∀x,dS PF.id R f=some x->x.b.length<=N:=λx hx=>by
 obtain⟨h1,h2⟩:=uA hx;have h2:x.id=f:=h2;exact h x h1 (by omega) (by omega)
def VU{L:List dt}{R:List PF}{f:Int}{last:Bool}{M N:Nat}(hR:∀x,dS PF.id R f=some x->x.b.length<=N)(hN:N<=M)(f0:0<=f)(f1:f<=100000)(hL:∀s∈L,k_ s M):(∀s∈(jl L R f last).2,k_ s M)/\(jl L R f last).2.length<=L.length+1:=by
 have hq:(((dS PF.id R f).map PF.b).getD []).length<=N:=by
  cases hg:dS PF.id R f with
  | none=>simp
  | some x=>exact hR x hg
 unfold jl;generalize ((dS PF.id R f).map PF.b).getD []=q at *
 simp only;cases hr:gN q with
 | none=>exact⟨hL,by simp⟩
 | some y=>
  obtain⟨k,l,n⟩:=y;have:=Xb hr;simp only;split
  ·exact⟨hL,by simp⟩
  refine⟨λs hs=>?_,by simp⟩;rcases zz6.1 hs with hs|hs
  ·exact hL s hs
  rw[zz8.1 hs];exact⟨f0,f1,this.1,this.2.1,by show n<=M;omega,by show l.length<=M;omega,this.2.2.2.2⟩
def QN(lp dp:Nat)(g:da)(d:DS)(f:Int)(last:Bool){M B N:Nat}(hg:g.Ok M)(hM:M<=1000000000000)(cL:d.Ok B)(hB:B<=140737488355328)(hfN:∀x,dS PF.id d.R f=some x->x.b.length<=N)(hN:N<=10000000000):
  SP 192 [Δ lp,Γ f,.bool last] [.ob (dx lp dp g),.ob (cw dp d)] (cE (.tuple #[.bool (jl g.bI d.R f last).1.1,.bool (jl g.bI d.R f last).1.2]) [.ob (dx lp dp {g with bI:=(jl g.bI d.R f last).2}),.ob (cw dp d)]):=by
 refine Enzz λW F w hS=>?_;apply cNk;delta aI bW a_ aW b_ cP Hx ai bR;obtain⟨sv,tv,xs,hx,hS⟩:=dx.iff.1 hS;obtain⟨Bv,kj,hh0,FL⟩:=hg.xs hx;have mQ:cO (xs.map dU.pl)=cO g.bI:=by rw[hx]
 have FJ:g.bI.length=xs.length:=by rw[<- hx,zzn]
 refine Gp ?_;refine Cc (Yk dp d B cL hB f) ?_;clear hS;rintro r post hQ w hS;have hq:(((dS PF.id d.R f).map PF.b).getD []).length<=N:=by
  cases hg:dS PF.id d.R f with
  | none=>simp
  | some x=>exact hfN x hg
 have vT:jl g.bI d.R f last=match gN (((dS PF.id d.R f).map PF.b).getD []) with
  | none=>((false,last),g.bI)
  | some (first,l,n)=>if (last=false/\(n≠(((dS PF.id d.R f).map PF.b).getD []).length\/l.length=0))\/(0<g.bI.length/\first≠cO g.bI+1)\/1099511627776<first+l.length-1 then ((true,false),g.bI)
   else ((true,true),g.bI++[⟨f,first,n,l⟩]):=rfl
 have dQ:∃(X:Μ) (a:Option Addr) (c:Nat) (bb:Bool),r= .tuple #[.slice a (((dS PF.id d.R f).map PF.b).getD []).length c,.bool bb]/\dX X (.slice a (((dS PF.id d.R f).map PF.b).getD []).length c) (((dS PF.id d.R f).map PF.b).getD [])/\SL W (X::.ob (cw dp d)::.pt lp (eP sv tv dp g.base g.size) 206::eN sv xs::.ob (zh dY xs)::.ob (fh tv g.dE)::F) w:=by
  unfold Ci at hQ;cases hg:dS PF.id d.R f with
  | none=>
   rw[hg]at hQ
   obtain⟨rfl,rfl⟩:=hQ;try simp only[app]at hS
   exact⟨.mem bw.emp,none,0,false,rfl,dX.nil,SL.cD hS.Ke Xi⟩
  | some x=>
   rw[hg]at hQ
   obtain⟨u,rfl,rfl⟩:=hQ;try simp only[app]at hS
   obtain⟨a,c,rfl,_⟩:=bF.at hS (v:=u) (t:=5) (sz:=1) (n:=x.b.length) (cells:=x.b.map dd) Xh;exact⟨.ob (bF (.slice a x.b.length c) 5 1 x.b.length (x.b.map dd)),a,c,true,rfl,dX.own,aR hS⟩
 clear hS hQ;obtain⟨X,a,c,bb,rfl,hX,hS⟩:=dQ;rw[vT];clear vT;generalize ((dS PF.id d.R f).map PF.b).getD []=q at *
 refine Gp ?_;refine Cc (qm X _ q hX (by omega)) ?_;clear hS;rintro r post hQ w hS;unfold Ev at hQ;cases hr:gN q with
 | none=>
  rw[hr]at hQ
  obtain⟨rfl,rfl⟩:=hQ;(try simp only[app]at hS);refine Gp ?_
  refine Υ ?_;have hS:=(dx.iff (g:=g)).2 ⟨sv,tv,xs,hx,SL.cD hS (t:=.pt lp (eP sv tv dp g.base g.size) 206::eN sv xs::.ob (zh dY xs)::.ob (fh tv g.dE)::.ob (cw dp d)::F) Xi⟩;exact cF hS
 | some y=>
  obtain⟨first,l,n⟩:=y;have uU:=Xb hr;rw[hr]at hQ
  obtain⟨u,es,he,rfl,rfl⟩:=hQ;try simp only[app]at hS
  have vN:l.length=es.length:=by rw[<- he,AK]
  obtain⟨ua,uc,rfl,_⟩:=dB.at hS (v:=u) .hd;obtain⟨r1,r2,r3,r4,r5⟩:=uU;simp only[vN,FJ];have cXe:k_ (dU.pl ⟨f,first,n,es,ua,uc⟩) M\/True:=.inr trivial;refine Gp ?_;refine Χ ?_;refine Gm λb w hS=>?_;obtain⟨sb,rfl⟩:∃k,k=b:=⟨b,rfl⟩;obtain⟨I,hI⟩:∃I:Ξ->Ζ->Prop,I=λvs w=>∃bad:Bool,vs=[.bool bad]/\(bad=true↔((last=false/\(n≠q.length\/es.length=0))\/(0<xs.length/\first≠cO g.bI+1)\/1099511627776<first+es.length-1)) /\
   SL W (.pt sb [Γ f,Γ first,Γ n,.slice ua es.length uc] 293::.ob (dB (.slice ua es.length uc) 198 1 es.length (gC es))::.ob (zh gO es)::.ob (cw dp d)::.pt lp (eP sv tv dp g.base g.size) 206::eN sv xs::.ob (zh dY xs)::.ob (fh tv g.dE)::F) w:=⟨_,rfl⟩
  refine⟨I,?_,?_⟩
  ·have gV:∀(w:Ζ) (K:Ε->Ζ->Prop),¬(last=false/\(n≠q.length\/es.length=0))->SL W (.pt sb [Γ f,Γ first,Γ n,.slice ua es.length uc] 293::.ob (dB (.slice ua es.length uc) 198 1 es.length (gC es))::.ob (zh gO es)::.ob (cw dp d)::.pt lp (eP sv tv dp g.base g.size) 206::eN sv xs::.ob (zh dY xs)::.ob (fh tv g.dE)::F) w ->
     (∀(bad:Bool) w,(bad=true↔((last=false/\(n≠q.length\/es.length=0))\/(0<xs.length/\first≠cO g.bI+1)\/1099511627776<first+es.length-1))->SL W (.pt sb [Γ f,Γ first,Γ n,.slice ua es.length uc] 293::.ob (dB (.slice ua es.length uc) 198 1 es.length (gC es))::.ob (zh gO es)::.ob (cw dp d)::.pt lp (eP sv tv dp g.base g.size) 206::eN sv xs::.ob (zh dY xs)::.ob (fh tv g.dE)::F) w->K (.bool bad) w) ->
     (qn (Δ lp) λv54=>zl 0 v54 λv55=>zl 0 v55 λv56=>cC v56 w λv57=>zd v57 λv58=>zc .gtr v58 (Γ 0) λv59=>
      df v59
      (qn (Δ lp) λv63=>zl 0 v63 λv64=>aF 125 [v64] w λv65 Lp=>zc .add v65 (Γ 1) λv66=>zc .neq (Γ first) v66 λv67=>
       df v67 (K (.bool true) Lp)
       (ze 4 (Δ sb) Lp λv71=>aF 177 [v71] Lp λv72 w_6=>zc .sub v72 (Γ 1) λv73=>zc .gtr v73 (Γ 1099511627776) λv74=>K v74 w_6))
      (ze 4 (Δ sb) w λcKw=>aF 177 [cKw] w λcKx w_7=>zc .sub cKx (Γ 1) λcKz=>zc .gtr cKz (Γ 1099511627776) λcK1=>K cK1 w_7)):=by
    intro w K hn hS hK;clear bb;refine Gp ?_;refine zO hS (v:=sv) (t:=293) (sz:=4) (n:=xs.length) (cells:=(xs.map fG).flatten) Xh ?_;refine cA (λh1=>?_) (λh1=>?_)
    ·refine Gp ?_;refine Cg (yf lp (eP sv tv dp g.base g.size) 206 sv xs rfl Bv (by omega) (by omega)) λw hS=>?_;rw[mQ];refine za (λh2=>?_) (λh2=>?_)
     ·refine hK true _ ⟨λ_=>.inr (.inl ⟨by omega,by omega⟩),λ_=>rfl⟩ (aR hS)
     refine Gp ?_;refine Cg (yX f first n ua es.length uc (by omega) (by omega)) λw hS=>?_;refine hK _ _ ⟨λh=>.inr (.inr (by simpa using h)),λh=>?_⟩ (aR hS);rcases h with h|h|h
     ·exact absurd h hn
     ·omega
     simpa using h
    refine Gp ?_;refine Cg (yX f first n ua es.length uc (by omega) (by omega)) λw hS=>?_;refine hK _ _ ⟨λh=>.inr (.inr (by simpa using h)),λh=>?_⟩ (aR hS);rcases h with h|h|h
    ·exact absurd h hn
    ·omega
    simpa using h
   cases last with
   | false=>
    refine z8 ?_;refine zq ?_;refine cA (λh1=>?_) (λh1=>?_)
    ·rw[hI];exact⟨true,rfl,⟨λ_=>.inl ⟨rfl,.inl (by omega)⟩,λ_=>rfl⟩,aR hS⟩
    refine cA (λh2=>?_) (λh2=>?_)
    ·rw[hI];exact⟨true,rfl,⟨λ_=>.inl ⟨rfl,.inr (by omega)⟩,λ_=>rfl⟩,aR hS⟩
    exact gV w (λv w=>I [v] w) (by omega) (aR hS) (λbad w hb h=>by rw[hI];exact⟨bad,rfl,hb,h⟩)
   | true=>
    refine z8 ?_;refine zp ?_;exact gV w (λv w=>I [v] w) (by simp) (aR hS) (λbad w hb h=>by rw[hI];exact⟨bad,rfl,hb,h⟩)
  clear hS;rw[hI];rintro v75 w ⟨bad,eY,fK,hS⟩;cases eY;cases bad with
  | true=>
   refine zq ?_;rw[zzd (fK.1 rfl)];have hS:=(dx.iff (g:=g)).2 ⟨sv,tv,xs,hx,SL.cD hS (t:=.pt lp (eP sv tv dp g.base g.size) 206::eN sv xs::.ob (zh dY xs)::.ob (fh tv g.dE)::.ob (cw dp d)::F) Xi⟩;exact cF hS
  | false=>
   refine zp ?_;rw[zzb (λh=>by have:=fK.2 h;cases this)];refine Gm λb w hS=>?_;refine ZZ (t:=293) (sz:=4) (n:=xs.length) (cells:=(xs.map fG).flatten) (m:=1) (cs:=[Γ f,Γ first,Γ n,.slice ua es.length uc]) hS Xr (jR hS .hd rfl) rfl rfl (by simp[Value.oneCell']) (by omega) (by omega) ?_;clear hS;intro j9 w hS;have tO:=dB.one hS (v:=j9) .hd;refine Gn λw hS=>?_;have hS:=(dY.iff (x:=⟨f,first,n,es,ua,uc⟩)).2 (SL.cD hS (t:=.ob (dB (.slice ua es.length uc) 198 1 es.length (gC es))::.ob (zh gO es)::.ob (zh dY xs)::.ob (cw dp d)::.pt lp (eP j9 tv dp g.base g.size) 206::.ob (dB j9 293 4 (xs.length+1) ((xs.map fG).flatten++[Γ f,Γ first,Γ n,.slice ua es.length uc]))::.ob (fh tv g.dE)::F) Xi);have hS:=zh.snoc (hS.cD (t:=.ob (zh dY xs)::.ob (dY ⟨f,first,n,es,ua,uc⟩)::.ob (cw dp d)::.pt lp (eP j9 tv dp g.base g.size) 206::.ob (dB j9 293 4 (xs.length+1) ((xs.map fG).flatten++[Γ f,Γ first,Γ n,.slice ua es.length uc]))::.ob (fh tv g.dE)::F) Xi);have e1:xs.length+1=(xs++[(⟨f,first,n,es,ua,uc⟩:dU)]).length:=by simp
   have e2:(xs.map fG).flatten++[Γ f,Γ first,Γ n,.slice ua es.length uc]=((xs++[(⟨f,first,n,es,ua,uc⟩:dU)]).map fG).flatten:=by simp[fG,dU.lv]
   rw[e1,e2]at hS
   have oO:(xs++[(⟨f,first,n,es,ua,uc⟩:dU)]).map dU.pl=g.bI++[⟨f,first,n,l⟩]:=by
    rw[zzt,hx];simp[dU.pl,he]
   have hS:=(dx.iff (g:={g with bI:=g.bI++[⟨f,first,n,l⟩]})).2 ⟨j9,tv,xs++[⟨f,first,n,es,ua,uc⟩],oO,SL.cD hS (t:=.pt lp (eP j9 tv dp g.base g.size) 206::eN j9 (xs++[⟨f,first,n,es,ua,uc⟩])::.ob (zh dY (xs++[⟨f,first,n,es,ua,uc⟩]))::.ob (fh tv g.dE)::.ob (cw dp d)::F) Xi⟩;exact cF hS
def qo(lp dp:Nat)(g:da)(d:DS)(iv:Ε)(ids:Ω)(whole:Bool){M N:Nat}(hg:g.Ok M)(hM:M<=1000000000000)(cL:d.Ok N)(hN:N<=140737488355328)(ed:d.ops<=100000)(dO:whole=true->ids≠[]->g.bI≠[])(cG:ids.length<=100000):
  SP 193 [Δ lp,iv,.bool whole] [.ob (dx lp dp g),.ob (cw dp d),.ob (bF iv 3 1 ids.length (ids.map (Value.int .i64)))]
   (cE (Γ (jC g.bI d ids whole).2) [.ob (dx lp dp g),.ob (cw dp (jC g.bI d ids whole).1),.ob (bF iv 3 1 ids.length (ids.map (Value.int .i64)))]):=by
 refine Enzz λW F w hS=>?_;apply cNl;delta aI bW a_ b_ cP ai;obtain⟨sv,tv,xs,hx,hS⟩:=dx.iff.1 hS;obtain⟨Bv,kj,_,_⟩:=hg.xs hx;have gL:∀{w:Ζ} {d':DS},SL W (.pt lp (eP sv tv dp g.base g.size) 206::eN sv xs::.ob (zh dY xs)::.ob (fh tv g.dE)::.ob (cw dp d')::.ob (bF iv 3 1 ids.length (ids.map (Value.int .i64)))::F) w->SL W (.ob (dx lp dp g)::.ob (cw dp d')::.ob (bF iv 3 1 ids.length (ids.map (Value.int .i64)))::F) w:=λh=>(dx.iff (g:=g)).2 ⟨_,tv,_,hx,h⟩;refine zz hS (v:=iv) (t:=3) (sz:=1) (n:=ids.length) (cells:=ids.map (Value.int .i64)) Xh ?_;refine cA (λh=>?_) (λh=>?_)
 ·have:ids=[]:=zzl (by omega);subst this;have hS:=gL (aR hS);exact⟨_,⟨rfl,rfl⟩,hS⟩
 have hj:ids.length-1<ids.length:=by omega
 have FJ:ids.getLast?=some (ids[ids.length-1]'hj):=by rw[xx9,zzc hj]
 have cwg:ids≠[]:=λe=>by rw[e]at h;simp at h
 have hu:(ids.map (Value.int .i64))[ids.length-1]?=some (Γ (ids[ids.length-1]'hj)):=by simp[hj]
 generalize (ids[ids.length-1]'hj)=f at *
 refine zz hS (v:=iv) (t:=3) (sz:=1) (n:=ids.length) (cells:=ids.map (Value.int .i64)) Xh ?_;refine Gp ?_;have e:((ids.length:Nat):Int)-1=((ids.length-1:Nat):Int):=by omega
 rw[e];refine yg hS (v:=iv) (t:=3) Xh hj hu ?_;cases whole with
 | false=>
  have hb:jC g.bI d ids false=d.remove f:=by unfold jC;rw[FJ];rfl
  rw[hb];refine z8 ?_;refine zq ?_;refine Gp ?_;refine Cg (yS dp d N cL ed f) λw hS=>?_;have hS:=gL (aR hS);exact⟨_,⟨rfl,rfl⟩,hS⟩
 | true=>
  have hb:jC g.bI d ids true=if lT g.bI<gH d.R f then d.cut f (lT g.bI) else (d,0):=by unfold jC;rw[FJ];rfl
  rw[hb];refine z8 ?_;refine zp ?_;have hn:=dO rfl cwg;have hle:0<xs.length:=by
   rcases yy6 xs.length with h0|h0
   ·rw[<- hx,zzl h0]at hn;exact absurd rfl hn
   exact h0
  have oL:xs.length-1<xs.length:=by omega
  have Jp:lT g.bI=((xs[xs.length-1]'oL).size:Nat):=by
   unfold lT;rw[<- hx,uuo,xx9,zzc oL];rfl
  rw[Jp];refine Gn λw hS=>?_;refine zO hS (v:=sv) (t:=293) (sz:=4) (n:=xs.length) (cells:=(xs.map fG).flatten) Xh ?_;refine Gp ?_;have e:((xs.length:Nat):Int)-1=((xs.length-1:Nat):Int):=by omega
  rw[e];refine qg (i:=2) hS Xh oL (u:=Γ ((xs[xs.length-1]'oL).size:Nat)) rfl ?_;generalize (xs[xs.length-1]'oL).size=z at *
  refine Gp ?_;refine Cg (YP dp d f) λw hS=>?_;refine za (λh1=>?_) (λh1=>?_)
  ·rw[zzd h1];refine Gp ?_;refine Cg (ZB dp d N cL (by omega) ed f (z:Int)) λw hS=>?_;have hS:=gL (aR hS);exact⟨_,⟨rfl,rfl⟩,hS⟩
  rw[zzb h1];have hS:=gL (aR hS);exact⟨_,⟨rfl,rfl⟩,hS⟩
def Cf(dp:Nat)(y:DS × Except Int da)(r:Ε)(post:Β):Prop:=match y.2 with
 | .error e=>e≠0/\r= .tuple #[.pointer none,Γ e]/\post=[.ob (cw dp y.1)]
 | .ok g=>∃lp:Nat,r= .tuple #[Δ lp,Γ 0]/\post=[.ob (dx lp dp g),.ob (cw dp y.1)]
def VW{R:List PF}{M N:Nat}{base:Int}(hR:ry R base N)(hN:N<=M)(b0:0<=base)(b1:base<=12288):∀(ids:Ω) (prev:Option Int) (L:List dt) (wh:Bool) (k:Nat),(∀f∈ids,base<=f/\f<base+4096)->(∀s∈L,k_ s M)->L.length<=k->∀{L' Ao},lU R ids prev L wh=some (L',Ao)->(∀s∈L',k_ s M)/\L'.length<=k+ids.length
 | [],prev,L,wh,k,_,hL,hk,L',Ao,h=>by
  cases h;exact⟨hL,by simpa using hk⟩
 | f::r,prev,L,wh,k,hf,hL,hk,L',Ao,h=>by
  rw[BC]at h
  obtain⟨f0,f1⟩:=hf f (.head _);obtain⟨k1,k2⟩:=VU (last:=r.isEmpty) (hR.at_ ⟨f0,f1⟩) hN (by omega) (by omega) hL;split at h
  ·cases h
  split at h
  ·cases h
  have:=VW hR hN b0 b1 r _ _ _ (k+1) (λx hx=>hf x (.tail _ hx)) k1 (by omega) h;exact⟨this.1,by simp at this ⊢;omega⟩
def Vj{base:Int}{R:List PF}{f:Int}(h:f∈fS base R):base<=f/\f<base+4096:=by
 unfold fS at h;have:=(yy0.1 h).2;simpa using this
def Vi(base:Int)(R:List PF):(fS base R).length<=R.length:=by
 unfold fS;have:=yyp (λf=>decide (base<=f/\f<base+4096)) (R.map PF.id)
 rwa [zzn]at this
def cDd{d d':DS}{base size:Int}{N:Nat}(hw:ry d.R base N)(hR:d.R.length<=100000){g:da}(h:ff d base size=(d',.ok g)):g.Ok (N+100000)/\d.off=false:=by
 unfold ff at h;split at h
 ·cases h
 rename_i hb;split at h
 ·cases h
 rename_i ho;split at h
 ·cases h
 rename_i L wh hl;obtain⟨k1,k2⟩:=VW (M:=N+100000) hw (by omega) (by omega) (by omega) _ _ [] _ 0 (λf hf=>Vj hf) (by simp) (by simp) hl;have:=Vi base d.R;have hL:(⟨L,base,size,none⟩:da).Ok (N+100000):=⟨k1,by show 0<=base;omega,by show base<=12288;omega,by show 64<=size;omega,by show size<=65536;omega,by show L.length<=_;omega⟩;split at h
 ·cases h
 cases h;exact⟨hL,by simpa using ho⟩
def WL(dp:Nat)(d:DS)(base size:Int){N B:Nat}(cL:d.Ok B)(hB:B<=140737488355328)(hw:ry d.R base N)(hN:N<=1000000000)(hR:d.R.length<=100000)(ed:d.ops<=100000):
  SP 134 [Δ dp,Γ base,Γ size] [.ob (cw dp d)] (Cf dp (ff d base size)):=by
 refine Enzz λW F w hS=>?_;apply cLz;delta aI cP ai cY bR;by_cases I4:base<0\/12288<base\/size<64\/65536<size
 ·have e:ff d base size=(d,.error 1):=by unfold ff;rw[zzd I4]
  rw[e];have hE:∀{w:Ζ},SL W (.ob (cw dp d)::F) w->∃post,Cf dp (d,.error 1) (.tuple #[.pointer none,Γ 1]) post/\SL W (app post F) w:=λh=>⟨_,⟨by decide,rfl,rfl⟩,h⟩;refine Gp ?_;refine za (λh=>hE hS) (λh1=>?_);refine Gp ?_;refine za (λh=>hE hS) (λh2=>?_);refine Gp ?_;refine za (λh=>hE hS) (λh3=>?_);refine Gp ?_;refine za (λh=>hE hS) (λh4=>by omega)
 refine Gp ?_;refine Χ ?_;refine Gp ?_;refine Χ ?_;refine Gp ?_;refine Χ ?_;refine Gp ?_;refine Χ ?_;refine Cg (zL dp d) λw hS=>?_;refine yU (λho=>?_) (λho=>?_)
 ·have e:ff d base size=(d,.error 8):=by unfold ff;rw[zzb I4,zzd ho]
  rw[e];exact⟨_,⟨by decide,rfl,rfl⟩,hS⟩
 have eo:ff d base size=match lU d.R (fS base d.R) none [] true with
  | none=>(d,.error 3)
  | some (L,whole)=>if (jC L d (fS base d.R) whole).2≠0 then ((jC L d (fS base d.R) whole).1,.error (jC L d (fS base d.R) whole).2) else ((jC L d (fS base d.R) whole).1,.ok ⟨L,base,size,none⟩):=by
  unfold ff;rw[zzb I4,zzb (by rw[ho];decide)];rfl
 rw[eo];have hi:∀f∈fS base d.R,base<=f/\f<base+4096:=λf hf=>Vj hf;have cG:=Vi base d.R;refine Gp ?_;refine⟨_,rfl,zE hS ?_⟩;clear hS;intro lp w hS;have hS:=(AB (v:=.pointer none)).2 ⟨rfl,hS⟩;have hS:=dB.ri (a:=none) (t:=293) (sz:=4) hS;have hS:=zh.nil (A:=dY) hS;have hS:=SL.cD hS (t:=.pt lp (eP Θ (.pointer none) dp base size) 206::.ob (dB Θ 293 4 0 [])::.ob (zh dY [])::.ob (fh (.pointer none) none)::.ob (cw dp d)::F) Xi;have hS:=(dx.iff (g:=⟨[],base,size,none⟩)).2 ⟨_,_,[],rfl,hS⟩;refine Cc (qG lp dp ⟨[],base,size,none⟩ d (M:=0) (N:=B) (by show 0<=base;omega) (by show base<=12288;omega) cL hR) ?_;clear hS;rintro iv post rfl w hS;(try simp only[app]at hS);generalize vQ:fS base d.R=ids at *
 refine zz hS (v:=iv) (t:=3) (sz:=1) (n:=ids.length) (cells:=ids.map (Value.int .i64)) Xh ?_;refine⟨λvs w=>∃(wh:Bool) (i:Nat) (L:List dt),i<=ids.length/\vs=[.bool wh,Γ i]/\lU d.R ids none [] true=lU d.R (ids.drop i) (if i=0 then none else ids[i-1]?) L wh/\(∀s∈L,k_ s (N+100000))/\L.length<=i/\(wh=true->0<i->L≠[])/\SL W (.ob (dx lp dp ⟨L,base,size,none⟩)::.ob (cw dp d)::.ob (bF iv 3 1 ids.length (ids.map (Value.int .i64)))::F) w,
  λvs _=>match vs with|[_,.int _ i]=>(ids.length-i).toNat|_=>0,⟨true,0,[],by omega,rfl,rfl,by simp,by simp,λ_ h=>by omega,aR hS⟩,?_⟩
 clear hS;rintro v10 v43 w ⟨wh,i,L,tJ,eY,lr,TO,IX,hwh,hS⟩;cases eY;have TN:(⟨L,base,size,none⟩:da).Ok (N+100000):=⟨TO,by show 0<=base;omega,by show base<=12288;omega,by show 64<=size;omega,by show size<=65536;omega,by show L.length<=_;omega⟩;refine cA (λh1=>?_) (λh1=>?_)
 ·have hj:i<ids.length:=by omega
  have hu:(ids.map (Value.int .i64))[i]?=some (Γ ids[i]):=by simp[hj]
  have tH:=hi _ (zzh hj);rw[yyq hj,BC]at lr
  refine yg hS (v:=iv) (t:=3) Xh hj hu ?_;refine zz hS (v:=iv) (t:=3) (sz:=1) (n:=ids.length) (cells:=ids.map (Value.int .i64)) Xh ?_;refine Gp ?_;have nB:decide (((i:Nat):Int)=((ids.length:Nat):Int)-1)=(ids.drop (i+1)).isEmpty:=by
   rw[uux,uug,List.isEmpty_iff,List.drop_eq_nil_iff];omega
  rw[nB];obtain⟨k1,k2⟩:=VU (L:=L) (f:=ids[i]) (last:=(ids.drop (i+1)).isEmpty) (M:=N+100000) (hw.at_ tH) (by omega) (by omega) (by omega) TO;have rI:(jl L d.R ids[i] (ids.drop (i+1)).isEmpty).1.1=true->(jl L d.R ids[i] (ids.drop (i+1)).isEmpty).1.2=true->(jl L d.R ids[i] (ids.drop (i+1)).isEmpty).2≠[]:=by
   unfold jl;simp only;split
   ·intro h;cases h
   split
   ·intro _ h;cases h
   intro _ _;simp
  refine Cg (QN lp dp ⟨L,base,size,none⟩ d ids[i] (ids.drop (i+1)).isEmpty TN (by omega) cL hB (hw.at_ tH) (by omega)) λw hS=>?_;generalize hLG:jl L d.R ids[i] (ids.drop (i+1)).isEmpty=y at *
  obtain⟨⟨is,ok⟩,L2⟩:=y;simp only at hS lr k1 k2 rI ⊢;cases ok with
  | false=>
   refine zq ?_;rw[zzd rfl]at lr
   rw[lr];exact⟨_,⟨by decide,rfl,rfl⟩,aR hS⟩
  | true=>
   refine zp ?_;rw[zzb (by decide)]at lr
   have uS:∀{w:Ζ},(¬vG (if i=0 then none else ids[i-1]?) ids[i]=true)->SL W (.ob (dx lp dp ⟨L2,base,size,none⟩)::.ob (cw dp d)::.ob (bF iv 3 1 ids.length (ids.map (Value.int .i64)))::F) w ->
     ∃(wh:Bool) (i':Nat) (L:List dt),i'<=ids.length/\[Value.bool is,Γ ((i+1:Nat):Int)]=[.bool wh,Γ i']/\lU d.R ids none [] true=lU d.R (ids.drop i') (if i'=0 then none else ids[i'-1]?) L wh/\(∀s∈L,k_ s (N+100000))/\L.length<=i'/\(wh=true->0<i'->L≠[])/\SL W (.ob (dx lp dp ⟨L,base,size,none⟩)::.ob (cw dp d)::.ob (bF iv 3 1 ids.length (ids.map (Value.int .i64)))::F) w:=by
    intro w hp hS;refine⟨is,i+1,L2,by omega,rfl,?_,k1,by omega,λh _=>rI h rfl,hS⟩;rw[zzb hp]at lr
    rw[lr,zzb (by omega),Nat.add_sub_cancel,zzc hj]
   refine cA (λh2=>?_) (λh2=>?_)
   ·have tK:i-1<ids.length:=by omega
    have uK:=hi _ (zzh tK);refine Gp ?_;have e:((i:Nat):Int)-1=((i-1:Nat):Int):=by omega
    rw[e];have JN:(ids.map (Value.int .i64))[i-1]?=some (Γ (ids[i-1]'tK)):=by simp[tK]
    refine yg hS (v:=iv) (t:=3) Xh tK JN ?_;have UP:vG (if i=0 then none else ids[i-1]?) ids[i]=decide (ids[i]≠(ids[i-1]'tK)+1):=by
     rw[zzb (by omega),zzc tK];rfl
    refine cA (λh3=>?_) (λh3=>?_)
    ·rw[zzd (by rw[UP];simpa using h3)]at lr
     rw[lr];exact⟨_,⟨by decide,rfl,rfl⟩,aR hS⟩
    refine Gp ?_;exact⟨uS (by rw[UP];simpa using h3) (aR hS),by dsimp only;omega⟩
   refine Gp ?_;have vP:i=0:=by omega
   exact⟨uS (by rw[zzd vP];simp[vG]) (aR hS),by dsimp only;omega⟩
 have jZ:i=ids.length:=by omega
 rw[jZ,vv5]at lr
 rw[lr];simp only[lU];have T1:=HU (L:=L) (ids:=ids) (wh:=wh) cL;refine Cg (qo lp dp ⟨L,base,size,none⟩ d iv ids wh TN (by omega) cL (by omega) ed (λh dO=>hwh h (by rw[jZ];exact wwb.2 dO)) (by omega)) λw hS=>?_;simp only at hS ⊢;refine za (λh2=>?_) (λh2=>?_)
 ·rw[zzd h2];exact⟨_,⟨h2,rfl,rfl⟩,aR hS⟩
 rw[zzb h2];exact⟨_,⟨lp,rfl,rfl⟩,aR hS⟩
def QQ(dp:Nat)(d:DS)(base size:Int){N:Nat}(cL:d.Ok N)(hN:N<=1000000000)(hR:d.R.length<=100000)(ed:d.ops<=100000):
  SP 134 [Δ dp,Γ base,Γ size] [.ob (cw dp d)] (Cf dp (ff d base size)):=
 WL dp d base size cL (by omega) (ry.all cL.len base) hN hR ed
section
variable (lp dp:Nat) (g:da) {M:Nat} (hg:g.Ok M) (hM:M<=1000000000000)
include hg hM
def Yb:SP 125 [Δ lp] [.ob (dx lp dp g)] (cE (Γ (cO g.bI)) [.ob (dx lp dp g)]):=by
 intro W F w hS;obtain⟨sv,tv,xs,hx,hS⟩:=dx.iff.1 hS;obtain⟨h1,h2,_,_⟩:=hg.xs hx;refine yK (yf lp (eP sv tv dp g.base g.size) 206 sv xs rfl h1 (by omega) (by omega)) hS Xp ?_;rintro v post ⟨rfl,rfl⟩ w hS;try simp only[app]at hS
 rw[hx];exact⟨_,⟨rfl,rfl⟩,dx.iff.2 ⟨sv,tv,xs,hx,aR hS⟩⟩
def ZD:SP 126 [Δ lp] [.ob (dx lp dp g)] (cE (Γ (fk g.bI)) [.ob (dx lp dp g)]):=by
 intro W F w hS;obtain⟨sv,tv,xs,hx,hS⟩:=dx.iff.1 hS;obtain⟨h1,h2,_,_⟩:=hg.xs hx;refine yK (cAq lp (eP sv tv dp g.base g.size) 206 sv xs rfl (by omega)) hS Xp ?_;rintro v post ⟨rfl,rfl⟩ w hS;try simp only[app]at hS
 rw[hx];exact⟨_,⟨rfl,rfl⟩,dx.iff.2 ⟨sv,tv,xs,hx,aR hS⟩⟩
def Yl(n:Int)(hn : -9000000000000000000<=n/\n<=9000000000000000000):SP 123 [Δ lp,Γ n] [.ob (dx lp dp g)] (Eu [.ob (dx lp dp g)] (mZ g.bI n)):=by
 intro W F w hS;obtain⟨sv,tv,xs,hx,hS⟩:=dx.iff.1 hS;obtain⟨h1,h2,_,_⟩:=hg.xs hx;refine yK (QY lp (eP sv tv dp g.base g.size) 206 sv xs n rfl h1 (by omega) (by omega) hn) hS Xp ?_;intro r post hQ w hS;rw[hx]at hQ
 cases hr:mZ g.bI n with
 | none=>
  rw[hr]at hQ
  obtain⟨rfl,rfl⟩:=hQ;try simp only[app]at hS
  exact⟨_,⟨rfl,rfl⟩,dx.iff.2 ⟨sv,tv,xs,hx,aR hS⟩⟩
 | some b=>
  rw[hr]at hQ
  obtain⟨u,rfl,rfl⟩:=hQ;try simp only[app]at hS
  have hS:=(dx.iff (g:=g)).2 ⟨sv,tv,xs,hx,SL.cD hS (t:=.pt lp (eP sv tv dp g.base g.size) 206::eN sv xs::.ob (zh dY xs)::.ob (fh tv g.dE)::.ob (bF u 5 1 b.length (b.map dd))::F) Xi⟩;exact⟨_,⟨u,rfl,rfl⟩,aR hS⟩
end
def WK{d d':DS}{base size:Int}{N:Nat}(hw:ry d.R base N)(hR:d.R.length<=100000){g:da}(h:ff d base size=(d',.ok g)):ij g (N+100000):=by
 have hk:=(cDd hw hR h).1;unfold ff at h;split at h
 ·cases h
 split at h
 ·cases h
 split at h
 ·cases h
 rename_i L wh hl;obtain⟨k1,k2⟩:=VX _ _ [] _ trivial (by decide) hl;split at h
 ·cases h
 cases h;exact⟨hk,k1,k2,λx hx=>by cases hx⟩
def Ku{d d':DS}{base size:Int}{N:Nat}(cL:d.Ok N)(hR:d.R.length<=100000){g:da}(h:ff d base size=(d',.ok g)):ij g (N+100000):=WK (ry.all cL.len base) hR h
def Vo:∀(l:Α) (a N:Nat),a<=N->l.Pairwise (· < ·)->(∀x∈l,a<=x/\x<N)->l.length+a<=N
 | [],a,N,h,_,_=>by simpa using h
 | x::l,a,N,_,hp,hx=>by
  have h1:=hx x (.head _);obtain⟨nZ,p'⟩:=yyg.1 hp;have:=Vo l (x+1) N (by omega) p' λy hy=>⟨nZ y hy,(hx y (.tail _ hy)).2⟩;rw[zzj];omega
def DS.Ok.D4{s:DS}{N:Nat}(h:s.Ok N):s.R.length<=16384:=by
 have hs:(s.R.map λx=>x.id.toNat).Pairwise (· < ·):=by
  rw[ww4];refine List.Pairwise.imp_of_mem (λ{a b} ha hb dj=>?_) h.sorted;have h1:=h.ids a ha;have h2:=h.ids b hb;have dj:a.id<b.id:=dj;omega
 have:=Vo _ 0 16384 (by decide) hs λn hn=>by
  obtain⟨x,hx,rfl⟩:=zzx.1 hn;have:=h.ids x hx;omega
 simpa using this
abbrev iy(b:Nat):Ε:=Δ b
abbrev od(gp dp lp pp:Nat)(aw:Int)(rv:Ε):Ξ:=[iy gp,iy dp,iy lp,iy pp,Γ aw,rv]
def cZ(kp gp dp lp pp:Nat)(H:bw)(k:cV):zC:=jT λrv:Ε=>zH (iZ H rv k.reqs) [.pt kp (od gp dp lp pp k.aw rv) 78,.ob (gy gp k.ts),.ob (dx lp dp k.g),.ob (gJ pp k.plan),.ob (cw dp k.d)]
section
variable {W w:Ζ} {l F:Β} {kp gp dp lp pp:Nat} {H:bw} {k:cV}
def cZ.iff:SL W (.ob (cZ kp gp dp lp pp H k)::l) w↔∃rv,iZ H rv k.reqs/\SL W (.pt kp (od gp dp lp pp k.aw rv) 78::.ob (gy gp k.ts)::.ob (dx lp dp k.g)::.ob (gJ pp k.plan)::.ob (cw dp k.d)::l) w:=by
 unfold cZ;simp only[SL.ex,SL.fact,zzv,zzq]
def cZ.put(k:cV){rv:Ε}(hS:SL W l w)(hr:iZ H rv k.reqs)(p:gE [.pt kp (od gp dp lp pp k.aw rv) 78,.ob (gy gp k.ts),.ob (dx lp dp k.g),.ob (gJ pp k.plan),.ob (cw dp k.d)] l F):SL W (.ob (cZ kp gp dp lp pp H k)::F) w:=cZ.iff.2 ⟨rv,hr,hS.pick p⟩
def cZ.eX{g:da}{d:DS}{ts:List (List Cell)}{plan:List fZ}{aw:Int}{reqs:List Rq}{rv:Ε}(hS:SL W l w)(hr:iZ H rv reqs)(p:gE [.pt kp (od gp dp lp pp aw rv) 78,.ob (gy gp ts),.ob (dx lp dp g),.ob (gJ pp plan),.ob (cw dp d)] l F):SL W (.ob (cZ kp gp dp lp pp H ⟨g,d,ts,plan,aw,reqs⟩)::F) w:=cZ.iff.2 ⟨rv,hr,hS.pick p⟩
def cZ.mono{H':bw}(hh:H.le H')(h:SL W (.ob (cZ kp gp dp lp pp H k)::l) w):SL W (.ob (cZ kp gp dp lp pp H' k)::l) w:=by
 obtain⟨rv,hr,hS⟩:=cZ.iff.1 h;exact cZ.iff.2 ⟨rv,hr.mono hh,hS⟩
def cZ.gB{W w:Ζ}{l F:Β}{H H':bw}{kp gp dp lp pp:Nat}{k:cV}(hh:H.le H')(hS:SL W l w)(r:fq (.ob (cZ kp gp dp lp pp H k)) l F):SL W (.ob (cZ kp gp dp lp pp H' k)::F) w:=cZ.mono hh (hS.perm r.perm)
def cZ.open(hS:SL W l w)(r:fq (.ob (cZ kp gp dp lp pp H k)) l F):∃rv,iZ H rv k.reqs/\SL W (.pt kp (od gp dp lp pp k.aw rv) 78::.ob (gy gp k.ts)::.ob (dx lp dp k.g)::.ob (gJ pp k.plan)::.ob (cw dp k.d)::F) w:=cZ.iff.1 (hS.perm r.perm)
end
structure Ca(k:cV)(N m:Nat):Prop where
 g:ij k.g N
 d:k.d.Ok N
 le:N<=1000000000
 ops:k.d.ops<=80000
 pl:k.plan.length<=1024
 mX:∀f∈k.plan,jm f=true
 ts:k.ts.length<=8
 ok:sU k.ts
 room:small k.ts (4096*m)
 rq:k.reqs.length<=64
def Ay(o:Option (List Rq))(H:bw)(u:Ε):Prop:=match o with
 | none=>∃x,u= .tuple #[x,.bool false]
 | some L=>∃x,u= .tuple #[x,.bool true]/\iZ H x L
def Wo{L L':List Rq}{n:iC}(h:oR L n=some L'):L'.length<=64:=by
 unfold oR at h;split at h
 ·exact (EU h).1
 split at h
 ·rename_i L2 h2;split at h
  ·cases h;exact (Cu h2).1
  cases h
 cases h
def QI(H:bw)(v:Ε)(L:List Rq)(n:iC)(hv:iZ H v L)(hL:L.length<=64)(hn:lA n.id):
  SP 273 [v,agg (kT n)] [.mem H] (λu post=>∃H',H.le H'/\Ay (oR L n) H' u/\post=[.mem H']):=by
 refine Enzz λW F w hS=>?_;apply cPm;delta aI a_ aW ai;refine zu hS λb w hS=>?_;obtain⟨kind,id,table,weight,at_,dG,done⟩:=n;have hn:lA id:=hn;unfold kT at hS;unfold oR;refine cA (λhk=>?_) (λhk=>?_)
 ·rw[zzd hk];refine Gp ?_;refine Cc (ZP H v L id dG done hv (by omega) hn) ?_;clear hS;rintro u post ⟨H',hh,rfl,hq⟩ w hS;simp only;cases hc:mi L id dG done with
  | none=>
   rw[hc]at hq
   obtain rfl:=hq;(try simp only[app]at hS);refine Gp ?_
   exact⟨_,⟨H',hh,⟨_,rfl⟩,rfl⟩,aR hS⟩
  | some L'=>
   rw[hc]at hq
   obtain⟨x,rfl,hx⟩:=hq;(try simp only[app]at hS);refine Gp ?_
   exact⟨_,⟨H',hh,⟨_,rfl,hx⟩,rfl⟩,aR hS⟩
 rw[zzb hk];refine Gp ?_;refine Cc (Zq H v L table weight at_ hv (by omega)) ?_;clear hS;rintro u post ⟨H',hh,rfl,hq⟩ w hS;simp only;cases hc:pL L table weight at_ with
 | none=>
  rw[hc]at hq
  obtain rfl:=hq;refine Gn λw hS=>?_;exact⟨_,⟨H',hh,⟨_,rfl⟩,rfl⟩,aR hS⟩
 | some L'=>
  rw[hc]at hq
  obtain⟨x,rfl,hx⟩:=hq;refine Gn λw hS=>?_;refine zo hx ?_;refine Gp ?_;by_cases he:id=(L'.length:Int)
  ·rw[zzo he];exact⟨_,⟨H',hh,(by simp only;rw[zzd he];exact⟨_,rfl,hx⟩),rfl⟩,aR hS⟩
  rw[zz3 he];exact⟨_,⟨H',hh,(by simp only;rw[zzb he];exact⟨_,rfl⟩),rfl⟩,aR hS⟩
def bR2{n:Nat}{L:List Rq}{t:cJ}{i:Nat}(hi:i<t.ops.length)(h:(n:Int)<=t.ops[i].table):gf n L t=none:=by
 unfold gf;rw[zzb];rintro ⟨_,h2⟩;unfold sZ at h2;rw[zz5]at h2
 have:=zzp (h2 _ (zzh hi));omega
def cJj{n:Nat}{t:cJ}(h:∀j (hj:j<t.ops.length),t.ops[j].table<(n:Int)):sZ n t=true:=by
 unfold sZ;rw[zz5];intro o ho;obtain⟨j,hj,rfl⟩:=yyl ho;exact zzo (h j hj)
def cCg{L:List Rq}{l:List iC}{i:Nat}(h:i<l.length):ga L (l.drop i)=match oR L l[i] with|some L'=>ga L' (l.drop (i+1))|none=>none:=by
 rw[yyq h];rfl
structure B'(t:cJ):Prop where
 ids:∀n∈t.notes,lA n.id
 ops:t.ops.length<=140737488351232
 iX:t.notes.length<=140737488351232
def ZC(kp gp dp lp pp:Nat)(H:bw)(k:cV)(x:iK)(t:cJ)(hx:ik H x t)(hi:B' t)(lP:k.reqs.length<=64):
  SP 198 [iy kp,agg (eU x)] [.ob (cZ kp gp dp lp pp H k),.mem H] (λu post=>∃H',H.le H'/\Ay (gf k.ts.length k.reqs t) H' u/\post=[.ob (cZ kp gp dp lp pp H' k),.mem H']):=by
 refine Enzz λW F w hS=>?_;apply cNq;delta aI bW a_ aW cP ai cR bR;refine zu hS λxb w hS=>?_;obtain⟨rv,hr,hS⟩:=cZ.open (k:=k) hS Xr;unfold eU at hS;rw[hx.aw]at hS
 have vV:=hi.ops;have nC:=hi.iX;refine Gp ?_;refine zo hx.ops ?_;obtain⟨F2,uE⟩:∃F2,F2= .ob (dx lp dp k.g)::.ob (gJ pp k.plan)::.ob (cw dp k.d)::F:=⟨_,rfl⟩;have hS:=SL.cD hS (t:=.pt kp (od gp dp lp pp k.aw rv) 78::.ob (gy gp k.ts)::.pt xb [Γ t.aw,x.ov,x.nv] 240::.mem H::.ob (dx lp dp k.g)::.ob (gJ pp k.plan)::.ob (cw dp k.d)::F) Xi;rw[<- uE]at hS
 have gL:∀{w:Ζ} {H':bw} {u:Ε},H.le H'->Ay (gf k.ts.length k.reqs t) H' u->SL W (.pt kp (od gp dp lp pp k.aw rv) 78::.ob (gy gp k.ts)::.mem H'::F2) w->∃post,(∃H',H.le H'/\Ay (gf k.ts.length k.reqs t) H' u/\post=[.ob (cZ kp gp dp lp pp H' k),.mem H'])/\SL W (app post F) w:=λhh hq hS=>by
  rw[uE]at hS
  have hS:=cZ.put k hS (hr.mono hh) Xp;exact⟨_,⟨_,hh,hq,rfl⟩,aR hS⟩
 refine⟨λvs w=>∃i:Nat,vs=[Γ i]/\i<=t.ops.length/\(∀j (hj:j<t.ops.length),j<i->t.ops[j].table<(k.ts.length:Int))/\SL W (.pt kp (od gp dp lp pp k.aw rv) 78::.ob (gy gp k.ts)::.pt xb [Γ t.aw,x.ov,x.nv] 240::.mem H::F2) w,
  λvs _=>match vs with|[.int _ i]=>(t.ops.length-i).toNat|_=>0,⟨0,rfl,by omega,λj hj h=>by omega,hS⟩,?_⟩
 clear hS;rintro wD w ⟨i,eY,cG,eK,hS⟩;cases eY;refine cA (λh=>?_) (λh=>?_)
 ·have cG:i<t.ops.length:=by omega
  refine zF hS Xh xe hx.ops (x:=t.ops[i]) (by simp[cG]) cG ?_;refine Gm λb w hS=>?_;refine Cg (qW gp k.ts) λw hS=>?_;refine za (λh2=>?_) (λh2=>?_)
  ·refine gL (bw.le_refl H) ?_ (aR hS);rw[bR2 cG h2];exact⟨_,rfl⟩
  refine Gp ?_;refine⟨⟨i+1,rfl,by omega,λj hj jk=>?_,aR hS⟩,by dsimp only;omega⟩;by_cases e:j=i
  ·subst e;omega
  exact eK j hj (by omega)
 have v_:=cJj (n:=k.ts.length) (t:=t) λj hj=>eK j hj (by omega);clear eK;refine Gp ?_;refine zo hx.iX ?_;have uL:∀{o},ga k.reqs t.notes=o->eH t=true->gf k.ts.length k.reqs t=o:=λh hm=>by unfold gf;rw[zzd ⟨hm,v_⟩,h]
 have FI:ga k.reqs t.notes=none->gf k.ts.length k.reqs t=none:=λh=>by unfold gf;split;exact h;rfl
 refine⟨λvs w=>∃(i:Nat) (L:List Rq) (u:Ε) (H2:bw),vs=[u,Γ i]/\i<=t.notes.length/\L.length<=64/\ga k.reqs t.notes=ga L (t.notes.drop i)/\H.le H2/\iZ H2 u L/\SL W (.pt kp (od gp dp lp pp k.aw rv) 78::.ob (gy gp k.ts)::.pt xb [Γ t.aw,x.ov,x.nv] 240::.mem H2::F2) w,
  λvs _=>match vs with|[_,.int _ i]=>(t.notes.length-i).toNat|_=>0,⟨0,k.reqs,rv,H,rfl,by omega,lP,rfl,bw.le_refl H,hr,aR hS⟩,?_⟩
 clear hS;rintro u v35 w ⟨i,L,_,H2,eY,cG,hL,fC,fu,hu,hS⟩;cases eY;have oO:=hx.mono fu;refine cA (λh=>?_) (λh=>?_)
 ·have cG:i<t.notes.length:=by omega
  rw[cCg cG]at fC
  refine zF hS Xh xd oO.iX (x:=t.notes[i]) (by simp[cG]) cG ?_;have hid:=hi.ids _ (zzh cG);generalize t.notes[i]=n at *
  refine Gm λb w hS=>?_;refine Cc (QI H2 u L n hu hL hid) ?_;clear hS;rintro u post ⟨H3,fB,hq,rfl⟩ w hS;cases hc:oR L n with
  | none=>
   rw[hc]at hq fC
   obtain⟨x,rfl⟩:=hq;(try simp only[app]at hS);refine Gp ?_
   refine zq ?_;refine gL (bw.le_trans fu fB) ?_ (aR hS);rw[FI fC];exact⟨_,rfl⟩
  | some L'=>
   have rG:=Wo hc;rw[hc]at hq fC
   obtain⟨x,rfl,oN⟩:=hq;(try simp only[app]at hS);refine Gp ?_
   refine zp ?_;refine Gp ?_;exact⟨⟨i+1,L',x,H3,rfl,by omega,rG,fC,bw.le_trans fu fB,oN,aR hS⟩,by dsimp only;omega⟩
 have jZ:i=t.notes.length:=by omega
 subst jZ;rw[vv5]at fC
 refine zr hS Xh rfl ?_;have e:([Γ t.aw,x.ov,x.nv]:Ξ)=eU x:=by unfold eU;rw[hx.aw]
 rw[e];refine Cg (zZ H2 x t oO) λw hS=>?_;refine gL fu ?_ (aR hS);cases hm:eH t with
 | true=>rw[uL fC hm];exact⟨_,rfl,hu⟩
 | false=>rw[show gf k.ts.length k.reqs t=none by unfold gf;rw[hm];rfl];exact⟨_,rfl⟩
def qL(kp gp dp lp pp:Nat)(H:bw)(k:cV)(x:iK)(t:cJ)(L:List Rq)(lv:Ε)(hx:ik H x t)(hl:iZ H lv L)(hn:t.ops.length<=1000000)(hk:∀o∈t.ops,lA o.key):
  SP 199 [iy kp,agg (eU x),lv] [.ob (cZ kp gp dp lp pp H k),.mem H] (cE (.tuple #[]) [.ob (cZ kp gp dp lp pp H (k.AT t L)),.mem H]):=by
 refine Enzz λW F w hS=>?_;apply cNr;delta bW a_ c_ aW;refine zu hS λxb w hS=>?_;obtain⟨rv,hr,hS⟩:=cZ.open (k:=k) hS Xr;unfold eU at hS;rw[hx.aw]at hS
 have h1:=de.one hl;refine Gn λw hS=>?_;refine Cg (bWw H gp k.ts x.ov t.ops hx.ops hn hk) λw hS=>?_;have hS:SL W (.ob (cZ kp gp dp lp pp H (k.AT t L))::_) _:=cZ.eX hS hl Xp;exact cF hS
structure Ck(g:da)(d:DS)(f n:Int)(es:List Φ)(p:Φ):Prop where
 off:d.off=false
 dE:oX d f n es p false
 m2:∀a,a≠1->0<=a->∃g2 d2,dy g {d with arm:=a}=((g2,d2),0)/\gI g2 d2 f n es/\0<=d2.arm/\(a=0->d2.arm=0)/\d2.ops=d.ops+1/\g2.bI=g.bI/\g2.base=g.base/\g2.size=g.size
 m1:∃d2,dy g {d with arm:=1}=((g,d2),8)/\d2.R=d.R/\d2.off=true/\d2.ops=d.ops+1
def cJ6{g:da}{d:DS}{f n:Int}{es:List Φ}(h:gI g d f n es){p:Φ}(hp:p.length<=1048576)(hn:n+es.length<=100000)(ha:0<=d.arm){k:Int}(hk:0<=k):
  (∃d',gw g d p k=((g,d'),8)/\oX d' f n es p false/\d'.off=true/\d'.ops=d.ops+1/\d.arm=1) \/
  (∃g' d',gw g d p k=((g',d'),0)/\Ck g' d' f n es p/\0<=d'.arm/\(d.arm=0->d'.arm=0)/\d'.ops=d.ops+1/\g'.bI=g.bI/\g'.base=g.base/\g'.size=g.size):=by
 obtain⟨x,A,l0,pre,eg,hr⟩:=Gy h hp hn;have jc:=h.off;have hm:dy g d=((g,d),0):=by unfold dy;rw[h.dE]
 obtain⟨ki,f0,f1⟩:=hr.may h jc
 let t:=x.b.take (k.toNat % x.b.length)
 let d1:DS:={d.cK with R:=kP d.R x.file t}
 have dj:k.toNat % x.b.length<x.b.length:=vvj _ hr.pos;have hT:oX d1 f n es p false:=hr.dE hp (m:=k.toNat % x.b.length) (by omega) (λ_=>dj) (by rw[<- h.files]);by_cases h1:d.arm=1
 ·left;have e:d.cK.off=true:=by simp[DS.cK,h1]
  have e2:d.cK.err=8:=by unfold DS.err;rw[e];rfl
  refine⟨d1,?_,hT,e,by simp[DS.cK,d1],h1⟩;unfold gw;rw[zzb (by omega),jc,eg];simp only[hm];rw[zzb (by simp),append_eq ki,e2,zzd (by simp)]
 right;have e:d.cK.off=false:=by simp[DS.cK,h1]
 have e2:d.cK.err=0:=by unfold DS.err;rw[e];rfl
 have tD:=hr.app t;rw[<- h.files]at tD
 have nX:pF f (A.map eI++[⟨x.file,pre.length,pre++t⟩]):=hr.chain.te.snoc (by rw[zzn];exact hr.file);have jP:d1.R=A.map eI++[⟨x.file,pre.length,pre++t⟩]:=tD;have nz:∀a,DS.find {d1 with arm:=a} x.file=0:=λa=>by
  unfold DS.find;rw[zzb (by rw[(hr.may h (d':={d1 with arm:=a}) e).1];simp)];have hs:=nX.sorted;show (if iE PF.id d1.R x.file=true then (0:Int) else 5)=0;rw[jP,zzd (DH (x:=⟨x.file,pre.length,pre++t⟩) hs)]
 have sE:0<=d1.arm:=by show 0<=if 0<d.arm then d.arm-1 else d.arm;split<;>omega
 have A':∀a,(DS.cK {d1 with arm:=a}).off=decide (a=1):=λa=>rfl;refine⟨{g with dE:=some ⟨x.file,if x.fresh=true then 0 else lT g.bI,x.fresh⟩},d1,?_,⟨e,hT,λa mo tC=>?_,?_⟩,sE,λh0=>by simp[DS.cK,d1,h0],by simp[DS.cK,d1],rfl,rfl,rfl⟩
 ·exact cJx hk (by rw[jc];exact eg) hm (by rw[append_eq ki,e2])
 ·have xC:(DS.cK {d1 with arm:=a}).off=false:=by rw[A'];exact zz3 mo
  have C6:0<=(DS.cK {d1 with arm:=a}).arm/\(a=0->(DS.cK {d1 with arm:=a}).arm=0):=by
   show (0<=if 0<a then a-1 else a)/\(a=0->(if 0<a then a-1 else a)=0);split<;>omega
  unfold dy;simp only;cases uL:x.fresh with
  | true=>
   obtain⟨hA,p_⟩:=hr.fresh uL;have xV:DS.remove {d1 with arm:=a} x.file=({DS.cK {d1 with arm:=a} with R:=A.map eI},0):=by
    unfold DS.remove;rw[zzb (by simp[nz]),zzb (by simp[xC])];have:jN PF.id d1.R x.file=A.map eI:=by rw[jP,SR (x:=⟨x.file,pre.length,pre++t⟩) nX.sorted]
    exact yy1 (λR=>(({DS.cK {d1 with arm:=a} with R:=R},0):DS × Int)) this
   simp only[wwm,xV];refine⟨_,_,rfl,⟨h.chain,h.gG,by show A.map eI=_;rw[hA],h.nil,h.base,h.b0,h.b1,h.s0,h.s1,h.n1,h.fi,xC,rfl⟩,C6.1,C6.2,by simp[DS.cK],rfl,rfl,rfl⟩
  | false=>
   obtain⟨hA,f_⟩:=hr.oh uL;have hlen:gH d1.R x.file=(pre++t).length:=by
    unfold gH;rw[jP,CZ (x:=⟨x.file,pre.length,pre++t⟩) nX.sorted]
   have C8:DS.cut {d1 with arm:=a} x.file (pre.length:Nat)=({DS.cK {d1 with arm:=a} with R:=g.bI.map eI},0):=by
    unfold DS.cut;rw[zzb (by simp[nz]),zzb (by show ¬((pre.length:Int)<0\/gH d1.R x.file<pre.length);rw[hlen,zza];omega),zzb (by simp[xC])];have:ku d1.R x.file (jr pre.length)=g.bI.map eI:=by
     rw[jP,Li (x:=⟨x.file,pre.length,pre++t⟩) nX.sorted,hA];simp only[jr,ww3,Nat.min_self]
    rw[zzz];exact yy1 (λR=>(({DS.cK {d1 with arm:=a} with R:=R},0):DS × Int)) this
   simp only[xxf,wwd,f_,C8,wwm];refine⟨_,_,rfl,⟨h.chain,h.gG,rfl,h.nil,h.base,h.b0,h.b1,h.s0,h.s1,h.n1,h.fi,xC,rfl⟩,C6.1,C6.2,by simp[DS.cK],rfl,rfl,rfl⟩
 have xC:(DS.cK {d1 with arm:=1}).off=true:=rfl;unfold dy;simp only;cases uL:x.fresh with
 | true=>
  have xV:DS.remove {d1 with arm:=1} x.file=(DS.cK {d1 with arm:=1},8):=by
   unfold DS.remove;rw[zzb (by simp[nz]),zzd xC]
  simp only[wwm,xV];exact⟨_,rfl,rfl,rfl,by simp[DS.cK]⟩
 | false=>
  obtain⟨hA,f_⟩:=hr.oh uL;have hlen:gH d1.R x.file=(pre++t).length:=by
   unfold gH;rw[jP,CZ (x:=⟨x.file,pre.length,pre++t⟩) nX.sorted]
  have C8:DS.cut {d1 with arm:=1} x.file (pre.length:Nat)=(DS.cK {d1 with arm:=1},8):=by
   unfold DS.cut;rw[zzb (by simp[nz]),zzb (by show ¬((pre.length:Int)<0\/gH d1.R x.file<pre.length);rw[hlen,zza];omega),zzd xC]
  simp only[xxf,wwd,f_,C8];exact⟨_,rfl,rfl,rfl,by simp[DS.cK]⟩
def cJ8{g g1:da}{d d1:DS}{p:Φ}{k:Int}(hk:0<=k)(hm:dy g d=((g1,d1),0))(hs:g1.bI=g.bI)(hb:g1.base=g.base)(hz:g1.size=g.size)(ho:d.off=false)(vV:d1.off=false)(ht:g1.dE=none):gw g d p k=gw g1 d1 p k\/∃e,eW g1 false p= .error e:=by
 cases hx:eW g1 false p with
 | error e=>exact .inr ⟨e,rfl⟩
 | ok x=>
  left;have hp:eW g false p=eW g1 false p:=by
   unfold eW mO;rw[hs,hb,hz]
  have Dh:dy g1 d1=((g1,d1),0):=by unfold dy;rw[ht]
  unfold gw;rw[ho,vV,hp,hx];simp only[hm,Dh,hs,hb,hz];rw[zzb (show ¬k<0 by omega),zzb (show ¬k<0 by omega)]
def cJ7{g:da}{d d2:DS}{p:Φ}{k:Int}(hk:0<=k){x:il}(hx:eW g d.off p= .ok x)(hm:dy g d=((g,d2),8)):gw g d p k=((g,d2),8):=by
 unfold gw;rw[zzb (by omega),hx];simp only[hm];rw[zzd (by decide)]
def aWg{g:da}{d d2:DS}{p:Φ}{x:il}(hx:eW g d.off p= .ok x)(hm:dy g d=((g,d2),8)):fy g d p=((g,d2),(0,8)):=by
 unfold fy;rw[hx];simp only[hm];rw[zzd (by decide)]
def Gv{g g1:da}(hs:g1.bI=g.bI)(hb:g1.base=g.base)(hz:g1.size=g.size)(off:Bool)(p:Φ):eW g off p=eW g1 off p:=by
 unfold eW mO;rw[hs,hb,hz]
def St(g:da)(d:DS)(es:List Φ)(m:Option Φ):Prop:=
 (gI g d 8192 1 es/\g.base=8192)\/((∃p,Ck g d 8192 1 es p)/\g.base=8192)\/(d.off=true/\∃q w,oX d 8192 1 es q w/\(w=true->m=some q))
def St.append{g:da}{d:DS}{es:List Φ}{m:Option Φ}(h:St g d es m)(ha:0<=d.arm)(ho:d.off=false){p:Φ}(hp:p.length<=1048576)(hl:es.length<=1000):
  (∃g' d',fy g d p=((g',d'),((1+es.length:Int),0))/\gI g' d' 8192 1 (es++[p])/\g'.base=8192/\d'.ops<=d.ops+3/\(d.arm=0->d'.arm=0)) \/
  (∃g' d',fy g d p=((g',d'),(0,8))/\St g' d' es (some p)/\d'.off=true/\d'.ops<=d.ops+3/\d.arm≠0):=by
 have Dg:∀{g:da} {d:DS},gI g d 8192 1 es->g.base=8192->0<=d.arm->(∃g' d',fy g d p=((g',d'),((1+es.length:Int),0))/\gI g' d' 8192 1 (es++[p])/\g'.base=8192/\d'.ops<=d.ops+2/\(d.arm=0->d'.arm=0)) \/
   (∃g' d',fy g d p=((g',d'),(0,8))/\St g' d' es (some p)/\d'.off=true/\d'.ops<=d.ops+2/\d.arm≠0):=by
  intro g d h1 h2 ha;rcases aWf h1 hp (by omega) (by rw[h2];omega) ha with ⟨g',d',e,k1,k2,k3,k4,k5,_⟩|⟨d',e,k1,k2,k3,k4⟩
  ·exact .inl ⟨g',d',e,k1,by rw[k5,h2],by omega,k4⟩
  exact .inr ⟨g,d',e,.inr (.inr ⟨k2,p,true,k1,λ_=>rfl⟩),k2,k3,k4⟩
 rcases h with ⟨h1,h2⟩|⟨⟨q,h1⟩,h2⟩|⟨h1,_⟩
 ·rcases Dg h1 h2 ha with ⟨g',d',e,k1,k2,k3,k4⟩|⟨g',d',e,k1,k2,k3,k4⟩
  ·exact .inl ⟨g',d',e,k1,k2,by omega,k4⟩
  exact .inr ⟨g',d',e,k1,k2,by omega,k4⟩
 ·obtain⟨g0,d0,m0,l0,_,_,_,s0,b0,z0⟩:=h1.m2 0 (by decide) (by decide);obtain⟨x,_,_,_,eg,_⟩:=Gy l0 hp (by omega);rw[<- Gv s0 b0 z0]at eg
  by_cases mo:d.arm=1
  ·obtain⟨d2,e,r1,r2,r3⟩:=h1.m1;have e:dy g d=((g,d2),8):=by rw[<- e,<- mo]
   exact .inr ⟨g,d2,aWg (by rw[ho];exact eg) e,.inr (.inr ⟨r2,q,false,h1.dE.s4 r1,λh=>by cases h⟩),r2,by omega,by omega⟩
  obtain⟨g2,d2,e,l2,a2,a3,o2,s2,b2,z2⟩:=h1.m2 d.arm mo ha;have e:dy g d=((g2,d2),0):=e;have Jz:eW g2 false p= .ok x:=by rw[<- Gv s2 b2 z2];exact eg
  rw[aWh e s2 b2 z2 ho l2.off l2.dE Jz];rcases Dg l2 (by rw[b2,h2]) a2 with ⟨g',d',e,k1,k2,k3,k4⟩|⟨g',d',e,k1,k2,k3,k4⟩
  ·exact .inl ⟨g',d',e,k1,k2,by omega,λh=>k4 (a3 h)⟩
  exact .inr ⟨g',d',e,k1,k2,by omega,λh=>k4 (a3 h)⟩
 rw[ho]at h1;cases h1
def St.cJu{g:da}{d:DS}{es:List Φ}{m:Option Φ}(h:St g d es m)(ha:0<=d.arm)(ho:d.off=false){p:Φ}(hp:p.length<=1048576)(hl:es.length<=1000){k:Int}(hk:0<=k):
  ∃g' d' e,gw g d p k=((g',d'),e)/\St g' d' es none/\d'.ops<=d.ops+2/\((e=0/\d'.off=false/\(d.arm=0->d'.arm=0))\/(e=8/\d'.off=true/\d.arm≠0)):=by
 have Dg:∀{g:da} {d:DS},gI g d 8192 1 es->g.base=8192->0<=d.arm->∃g' d' e,gw g d p k=((g',d'),e)/\St g' d' es none/\d'.ops<=d.ops+1/\((e=0/\d'.off=false/\(d.arm=0->d'.arm=0))\/(e=8/\d'.off=true/\d.arm≠0)):=by
  intro g d h1 h2 ha;rcases cJ6 h1 hp (by omega) ha hk with ⟨d',e,k1,k2,k3,k4⟩|⟨g',d',e,k1,k2,k3,k4,k5,k6,k7⟩
  ·exact⟨g,d',8,e,.inr (.inr ⟨k2,p,false,k1,λh=>by cases h⟩),by omega,.inr ⟨rfl,k2,by omega⟩⟩
  exact⟨g',d',0,e,.inr (.inl ⟨⟨p,k1⟩,by rw[k6,h2]⟩),by omega,.inl ⟨rfl,k1.off,k3⟩⟩
 rcases h with ⟨h1,h2⟩|⟨⟨q,h1⟩,h2⟩|⟨h1,_⟩
 ·obtain⟨g',d',e,k1,k2,k3,k4⟩:=Dg h1 h2 ha;exact⟨g',d',e,k1,k2,by omega,k4⟩
 ·obtain⟨g0,d0,m0,l0,_,_,_,s0,b0,z0⟩:=h1.m2 0 (by decide) (by decide);obtain⟨x,_,_,_,eg,_⟩:=Gy l0 hp (by omega);rw[<- Gv s0 b0 z0]at eg
  by_cases mo:d.arm=1
  ·obtain⟨d2,e,r1,r2,r3⟩:=h1.m1;have e:dy g d=((g,d2),8):=by rw[<- e,<- mo]
   exact⟨g,d2,8,cJ7 hk (by rw[ho];exact eg) e,.inr (.inr ⟨r2,q,false,h1.dE.s4 r1,λh=>by cases h⟩),by omega,.inr ⟨rfl,r2,by omega⟩⟩
  obtain⟨g2,d2,e,l2,a2,a3,o2,s2,b2,z2⟩:=h1.m2 d.arm mo ha;have e:dy g d=((g2,d2),0):=e;have Jz:eW g2 false p= .ok x:=by rw[<- Gv s2 b2 z2];exact eg
  rcases cJ8 (p:=p) (k:=k) hk e s2 b2 z2 ho l2.off l2.dE with h3|⟨e',h3⟩
  ·rw[h3];obtain⟨g',d',e,k1,k2,k3,k4⟩:=Dg l2 (by rw[b2,h2]) a2;refine⟨g',d',e,k1,k2,by omega,?_⟩;rcases k4 with ⟨k5,k6,k7⟩|⟨k5,k6,k7⟩
   ·exact .inl ⟨k5,k6,λh=>k7 (a3 h)⟩
   exact .inr ⟨k5,k6,λh=>k7 (a3 h)⟩
  rw[Jz]at h3;cases h3
 rw[ho]at h1;cases h1
def St.open{g:da}{d:DS}{es:List Φ}{m:Option Φ}(h:St g d es m)(keep:Ω)(hl:es.length<=1000){size:Int}(s0:64<=size)(s1:size<=65536):
  ∃g2 d2 iV,ff (d.eO keep) 8192 size=(d2,.ok g2)/\gI g2 d2 8192 1 iV/\g2.base=8192/\d2.arm=0/\d2.ops<=d.ops+1/\(iV=es\/∃p,m=some p/\iV=es++[p]):=by
 have U2:∀{q w},oX d 8192 1 es q w->∃g2 d2 iV,ff (d.eO keep) 8192 size=(d2,.ok g2)/\gI g2 d2 8192 1 iV/\g2.base=8192/\d2.arm=0/\d2.ops<=d.ops+1/\(iV=es\/(w=true/\iV=es++[q])):=by
  intro q w hT;obtain⟨g2,d2,iV,h1,h2,h3,h4,h5,h6,h7⟩:=cKf hT keep (base:=8192) (size:=size) (by decide) (by decide) s0 s1 (by decide) (by omega) (by decide) (by omega) ⟨rfl,rfl⟩;exact⟨g2,d2,iV,h1,h2,h5,h3,h4,h7⟩
 rcases h with ⟨h1,h2⟩|⟨⟨q,h1⟩,h2⟩|⟨h1,q,w,h2,h3⟩
 ·have hR:(d.eO keep).R=g.bI.map eI:=by show e_ d.R keep=_;rw[h1.files,Sx]
  have hle:=h1.chain.sQ;rw[h1.gG]at hle
  have:=Kw (d:=d.eO keep) (base:=8192) (size:=size) h1.chain hR rfl (by decide) (by decide) s0 s1 (by decide) (by omega) (by decide) (by rw[h1.gG];omega);exact⟨_,_,es,this,⟨h1.chain,h1.gG,hR,λ_=>⟨rfl,rfl⟩,yyf _,(by decide:(0:Int)<=8192),(by decide:(8192:Int)<=12288),s0,s1,by decide,by show (8192:Int)+es.length+2<=8192+4096;omega,rfl,rfl⟩,rfl,rfl,Nat.le_succ _,.inl rfl⟩
 ·obtain⟨g2,d2,iV,k1,k2,k3,k4,k5,k6⟩:=U2 h1.dE;rcases k6 with k6|⟨k6,_⟩
  ·exact⟨g2,d2,iV,k1,k2,k3,k4,k5,.inl k6⟩
  cases k6
 obtain⟨g2,d2,iV,k1,k2,k3,k4,k5,k6⟩:=U2 h2;rcases k6 with k6|⟨k6,k7⟩
 ·exact⟨g2,d2,iV,k1,k2,k3,k4,k5,.inl k6⟩
 exact⟨g2,d2,iV,k1,k2,k3,k4,k5,.inr ⟨q,h3 k6,k7⟩⟩
def gI.st{g:da}{d:DS}{es:List Φ}(h:gI g d 8192 1 es)(hb:g.base=8192)(m:Option Φ):St g d es m:=.inl ⟨h,hb⟩
def i_.head{L:List dt}(h:i_ L)(hL:L≠[]):cO L=fk L+(cX L).length-1:=by
 induction L with
 | nil=>exact absurd rfl hL
 | cons s r ih=>
  cases r with
  | nil=>simp[cO,fk,cX,dt.next]
  | cons t r=>
   have h1:=ih h.2 (by simp);have h2:cO (s::t::r)=cO (t::r):=by simp only[cO,uuj]
   have h3:=h.1;rw[h2,h1,pR s (t::r),zza];simp only[dt.next]at h3;show fk (t::r)+_-1=s.first+_-1;have:fk (t::r)=t.first:=rfl;rw[this];omega
def i_.read:∀{L:List dt},i_ L->∀i:Nat,mZ L (fk L+i)=(cX L)[i]?
 | [],_,i=>by simp[mZ,cX]
 | [s],_,i=>by
  have e:fk [s]=s.first:=rfl;rw[e,mZ,pR];have he:cX []=([]:List Φ):=rfl;rw[he,zz2];by_cases h:i<s.l.length
  ·rw[zzd ⟨by omega,by show s.first+i<s.first+s.l.length;omega⟩];congr 1;omega
  rw[zzb (by rintro ⟨_,h2⟩;have h2:s.first+i<s.first+s.l.length:=h2;omega),yyt (by omega)];rfl
 | s::t::r,h,i=>by
  have e:fk (s::t::r)=s.first:=rfl;have e2:fk (t::r)=t.first:=rfl;have h1:=h.1;simp only[dt.next]at h1;rw[e,mZ,pR];by_cases hi:i<s.l.length
  ·rw[zzd ⟨by omega,by show s.first+i<s.first+s.l.length;omega⟩,zzm hi];congr 1;omega
  rw[zzb (by rintro ⟨_,h2⟩;have h2:s.first+i<s.first+s.l.length:=h2;omega),yyb (by omega)];have:=i_.read h.2 (i-s.l.length);rw[e2]at this
  rw[<- this];congr 1;omega
def runT(cU:Nat):List cJ->Tr->Option Tr
 | [],t=>some t
 | x::r,t=>match stepT cU t x with
  | some t'=>runT cU r t'
  | none=>none
def D5(cU:Nat):∀(xs:List cJ) (x:cJ) (t t1:Tr),runT cU xs t=some t1->runT cU (xs++[x]) t=stepT cU t1 x
 | [],x,t,t1,h=>by
  cases h;show (match stepT cU t x with|some t'=>runT cU [] t'|none=>none)=_;cases stepT cU t x<;>rfl
 | y::xs,x,t,t1,h=>by
  have h:(match stepT cU t y with|some t'=>runT cU xs t'|none=>none)=some t1:=h;show (match stepT cU t y with|some t'=>runT cU (xs++[x]) t'|none=>none)=_;cases hs:stepT cU t y with
  | none=>rw[hs]at h;cases h
  | some t'=>rw[hs]at h;exact D5 cU xs x t' t1 h
def Sc{x:cJ}(h:eH x=true):nV (gq x)= .ok x:=by
 obtain⟨b,e1,e2⟩:=SK h;unfold gq;rw[e1];exact e2
def Cx{x:cJ}(h:eH x=true):(gq x).length<=29+x.ops.length*71+x.notes.length*63/\(gq x).length<=306973:=by
 obtain⟨b,e1,_⟩:=SK h;have:=bIt h e1;obtain⟨h0,_⟩:=oQ.1 h;unfold gq;rw[e1];show b.length<=_/\b.length<=_;omega
def Xf(cU:Nat):∀(xs:List cJ) (t:Tr),(∀x∈xs,eH x=true)->tZ cU (xs.map gq) t=runT cU xs t
 | [],_,_=>rfl
 | x::xs,t,h=>by
  rw[zzr,tZ,Sc (h x (.head _))];show _=(match stepT cU t x with|some t'=>runT cU xs t'|none=>none);simp only;cases stepT cU t x with
  | none=>rfl
  | some t'=>exact Xf cU xs t' λy hy=>h y (.tail _ hy)
structure jf(cU:Nat)(k:cV)(xs:List cJ)(m:Option cJ):Prop where
 st:St k.g k.d (xs.map gq) (m.map gq)
 may:∀x∈xs,eH x=true
 run:runT cU xs (rV cU)=some k.tr
 len:k.ts.length=cU
 Lr:∀x,m=some x->eH x=true/\∃t,stepT cU k.tr x=some t
def jf.plan{cU:Nat}{k:cV}{xs:List cJ}{m:Option cJ}(h:jf cU k xs m)(p:List fZ):jf cU {k with plan:=p} xs m:=⟨h.st,h.may,h.run,h.len,h.Lr⟩
def K9{cU:Nat}{t:Tr}{x:cJ}{L:List Rq}(hf:gf cU t.2.1 x=some L)(hl:t.2.2<x.aw):stepT cU t x=some ((fF t.1 x.ops).1,L,x.aw):=by
 unfold stepT;rw[hf];simp only;rw[zzd hl]
def CU{n:Nat}{L L':List Rq}{x:cJ}(h:gf n L x=some L'):eH x=true/\sZ n x=true/\ga L x.notes=some L':=by
 unfold gf at h;split at h
 ·rename_i hc;exact⟨hc.1,hc.2,h⟩
 cases h
def cU5{cU:Nat}{k:cV}{xs:List cJ}{m:Option cJ}(h:jf cU k xs m)(ha:0<=k.d.arm)(ho:k.d.off=false)(hl:xs.length<=900){x:cJ}{L:List Rq}(hf:gf cU k.reqs x=some L)(dj:k.aw<x.aw):
  ((k.gD x L).2=0/\jf cU (k.gD x L).1 (xs++[x]) none/\(k.gD x L).1.tr=((fF k.ts x.ops).1,L,x.aw)/\(k.gD x L).1.plan=k.plan/\(k.gD x L).1.d.off=false/\(k.d.arm=0->(k.gD x L).1.d.arm=0)/\(k.gD x L).1.d.ops<=k.d.ops+3) \/
  ((k.gD x L).2=8/\jf cU (k.gD x L).1 xs (some x)/\(k.gD x L).1.tr=k.tr/\(k.gD x L).1.plan=k.plan/\(k.gD x L).1.d.off=true/\k.d.arm≠0/\(k.gD x L).1.d.ops<=k.d.ops+3):=by
 obtain⟨hm,ht,hn⟩:=CU hf;have hb:=(Cx hm).2;have hs:stepT cU k.tr x=some ((fF k.ts x.ops).1,L,x.aw):=K9 (t:=k.tr) hf dj;rcases h.st.append ha ho (p:=gq x) (by omega) (by rw[zzn];omega) with ⟨g',d',e,k1,k2,k3,k4⟩|⟨g',d',e,k1,k2,k3,k4⟩
 ·left;have hw:k.gD x L=(cV.AT {k with g:=g',d:=d'} x L,0):=by
   unfold cV.gD;simp only[e];rw[zzd trivial]
  rw[hw];refine⟨rfl,⟨?_,?_,?_,?_,λy hy=>by cases hy⟩,rfl,rfl,k1.off,k4,k3⟩
  ·rw[zzt];exact k1.st k2 _
  ·intro y hy;rcases zz6.1 hy with hy|hy
   ·exact h.may y hy
   rw[zz8.1 hy];exact hm
  ·rw[D5 cU xs x _ _ h.run,hs];rfl
  show (fF k.ts x.ops).1.length=cU;rw[KK,h.len]
 right;have hw:k.gD x L=({k with g:=g',d:=d'},8):=by
  unfold cV.gD;simp only[e];rw[zzb (by decide)]
 rw[hw];exact⟨rfl,⟨k1,h.may,h.run,h.len,λy hy=>by cases hy;exact⟨hm,_,hs⟩⟩,rfl,rfl,k2,k4,k3⟩
def cJ3{cU:Nat}{k:cV}{xs:List cJ}{m:Option cJ}(h:jf cU k xs m)(ha:0<=k.d.arm)(ho:k.d.off=false)(hl:xs.length<=900){x:cJ}(hm:eH x=true){n:Int}(hn:0<=n):
  jf cU (k.ks x n).1 xs none/\(k.ks x n).1.tr=k.tr/\(k.ks x n).1.plan=k.plan/\(k.ks x n).1.d.ops<=k.d.ops+2 /\
   (((k.ks x n).2=0/\(k.ks x n).1.d.off=false/\(k.d.arm=0->(k.ks x n).1.d.arm=0))\/((k.ks x n).2=8/\(k.ks x n).1.d.off=true/\k.d.arm≠0)):=by
 have hb:=(Cx hm).2;obtain⟨g',d',e,h1,h2,h3,h4⟩:=h.st.cJu ha ho (p:=gq x) (by omega) (by rw[zzn];omega) hn;have hw:k.ks x n=({k with g:=g',d:=d'},e):=by unfold cV.ks;simp only[h1]
 rw[hw];exact⟨⟨h2,h.may,h.run,h.len,λy hy=>by cases hy⟩,rfl,rfl,h3,h4⟩
def jf.open{cU:Nat}(t1:1<=cU)(t8:cU<=8){k:cV}{xs:List cJ}{m:Option cJ}(h:jf cU k xs m)(keep:Ω)(hl:xs.length<=900){size:Int}(s0:64<=size)(s1:size<=65536):
  ∃k' dq,kI (k.d.eO keep) cU size=(k'.d,.ok k')/\jf cU k' dq none/\k'.plan=[]/\k'.d.off=false/\k'.d.arm=0/\k'.d.ops<=k.d.ops+1/\gI k'.g k'.d 8192 1 (dq.map gq)/\(dq=xs\/∃x,m=some x/\dq=xs++[x]):=by
 obtain⟨g2,d2,iV,e,l2,b2,a2,o2,Je⟩:=h.st.open keep (by rw[zzn];omega) s0 s1;have hx:∃dq,iV=dq.map gq/\(∀x∈dq,eH x=true)/\(∃t,runT cU dq (rV cU)=some t/\t.1.length=cU)/\(dq=xs\/∃x,m=some x/\dq=xs++[x]):=by
  rcases Je with rfl|⟨p,hp,rfl⟩
  ·exact⟨xs,rfl,h.may,⟨_,h.run,h.len⟩,.inl rfl⟩
  cases m with
  | none=>cases hp
  | some x=>
   have hp:some (gq x)=some p:=hp;cases hp;obtain⟨w1,t,w2⟩:=h.Lr x rfl;refine⟨xs++[x],by simp,λy hy=>?_,⟨t,by rw[D5 cU xs x _ _ h.run,w2],?_⟩,.inr ⟨x,rfl,rfl⟩⟩
   ·rcases zz6.1 hy with hy|hy
    ·exact h.may y hy
    rw[zz8.1 hy];exact w1
   unfold stepT at w2;split at w2
   ·split at w2
    ·cases w2;show (fF k.ts x.ops).1.length=cU;rw[KK,h.len]
    cases w2
   cases w2
 obtain⟨dq,rfl,ki,⟨t,xW,ly⟩,hor⟩:=hx;refine⟨⟨g2,d2,t.1,[],t.2.2,t.2.1⟩,dq,?_,⟨l2.st b2 _,ki,xW,ly,λy hy=>by cases hy⟩,rfl,l2.off,a2,o2,l2,hor⟩;unfold kI;rw[zzb (by omega)];simp only[e];have rH:fk g2.bI=1:=by
  by_cases hL:g2.bI=[]
  ·rw[hL];rfl
  rw[l2.chain.low hL]
 rw[zzb (λhh=>hh.1 rH),l2.gG,zzz,Xf cU dq _ ki,xW]
def lC:List fZ->fZ × List fZ
 | []=>(⟨0,0⟩,[])
 | f::r=>(f,r)
def QE(p:Nat)(L:List fZ)(hL:L.length<=1024):SP 339 [iy p] [.ob (gJ p L)] (λv post=>∃q,v= .tuple #[agg (iU (lC L).1),.bool q]/\post=[.ob (gJ p (lC L).2)]):=by
 cases L with
 | nil=>exact (bWa p).mono λv post h=>⟨false,h.1,h.2⟩
 | cons f r=>exact (bR9 p f r (by rw[zzj]at hL;omega)).mono λv post h=>⟨true,h.1,h.2⟩
def cV.uk(k:cV)(x:cJ):cV × Int:=
 let r:=fy k.g k.d (gq x)
 ({k with g:=r.1.1,d:=r.1.2},r.2.2)
def G4(k:cV)(x:cJ)(L:List Rq):k.gD x L=if (k.uk x).2=0 then ((k.uk x).1.AT x L,0) else k.uk x:=by
 unfold cV.gD cV.uk;simp only
def cV.lI(k:cV)(x:cJ)(f:fZ):cV × Int:=if f.kind=2 then k.ks x f.keep else if k.aw<x.aw then k.uk x else (k,0)
def cV.sy(k:cV)(x:cJ)(f:fZ)(L:List Rq):cV × Int:=
 if (k.lI x f).2≠0 then k.lI x f else ((if k.aw<x.aw/\f.kind≠2 then (k.lI x f).1.AT x L else (k.lI x f).1),if f.kind≠0 then 9 else 0)
def cCn{L:List fZ}(h:∀f∈L,jm f=true):((lC L).1.kind=0/\L=[])\/(L≠[]/\((lC L).1.kind=1\/(lC L).1.kind=2\/(lC L).1.kind=3)):=by
 cases L with
 | nil=>exact .inl ⟨rfl,rfl⟩
 | cons f r=>
  have h1:=h f (.head _);unfold jm at h1;rw[zzw]at h1
  right;refine⟨by simp,?_⟩;show f.kind=1\/f.kind=2\/f.kind=3;omega
def cCm{L:List fZ}(h:∀f∈L,jm f=true):0<=(lC L).1.keep:=by
 cases L with
 | nil=>exact yyf _
 | cons f r=>
  have h1:=h f (.head _);unfold jm at h1;rw[zzw]at h1
  show 0<=f.keep;omega
def bwi{k:cV}{x:cJ}(h:eH x=false\/(k.aw<x.aw/\gf k.ts.length k.reqs x=none)):k.fX x=(k,1):=zzd h
def bwm{k:cV}{x:cJ}(h:¬(eH x=false\/(k.aw<x.aw/\gf k.ts.length k.reqs x=none)))(ho:k.d.off=true):k.fX x=(k,8):=by
 unfold cV.fX;rw[zzb h,zzd ho]
def bwh{k:cV}{x:cJ}(h:¬(eH x=false\/(k.aw<x.aw/\gf k.ts.length k.reqs x=none)))(ho:k.d.off=false)(hf:(lC k.plan).1.kind=1\/((lC k.plan).1.kind=2/\¬k.aw<x.aw)):k.fX x=({k with plan:=(lC k.plan).2},9):=by
 unfold cV.fX;rw[zzb h,zzb (by rw[ho];decide)];cases hp:k.plan with
 | nil=>rw[hp]at hf;rcases hf with hf|⟨hf,_⟩<;>cases hf
 | cons f r=>
  rw[hp]at hf
  have hf:f.kind=1\/(f.kind=2/\¬k.aw<x.aw):=hf;simp only;rw[zzb (by omega),zzb (by omega)];rfl
def bwj{k:cV}{x:cJ}(h:¬(eH x=false\/(k.aw<x.aw/\gf k.ts.length k.reqs x=none)))(ho:k.d.off=false)(hm:∀f∈k.plan,jm f=true)(hf:¬((lC k.plan).1.kind=1\/((lC k.plan).1.kind=2/\¬k.aw<x.aw))):
  k.fX x=cV.sy {k with plan:=(lC k.plan).2} x (lC k.plan).1 ((gf k.ts.length k.reqs x).getD []):=by
 have hn:=cCn hm;unfold cV.fX;rw[zzb h,zzb (by rw[ho];decide)];generalize (gf k.ts.length k.reqs x).getD []=L;cases hp:k.plan with
 | nil=>
  rw[hp]at hn hf
  have e:({k with plan:=(lC []).2}:cV)=k:=by rw[<- hp];cases k;simp only at hp;subst hp;rfl
  rw[e];show (if k.aw<x.aw then k.gD x L else (k,0))=_;by_cases hl:k.aw<x.aw
  ·by_cases h0:(k.uk x).2=0
   ·simp[cV.sy,cV.lI,G4,lC,hl,h0]
   simp[cV.sy,cV.lI,G4,lC,hl,h0]
  simp[cV.sy,cV.lI,lC,hl]
 | cons f r=>
  rw[hp]at hn hf
  have hf:¬(f.kind=1\/(f.kind=2/\¬k.aw<x.aw)):=hf;have hn:f.kind=2\/f.kind=3:=by
   rcases hn with ⟨_,h⟩|⟨_,h⟩
   ·cases h
   have h:f.kind=1\/f.kind=2\/f.kind=3:=h;omega
  show _=cV.sy {k with plan:=r} x f L;generalize p9:({k with plan:=r}:cV)=k';have rG:k'.aw=k.aw:=by rw[<- p9]
  simp only;rw[p9];rcases hn with hn|hn
  ·have hl:k.aw<x.aw:=by
    rcases Int.lt_or_le k.aw x.aw with h|h
    ·exact h
    exact absurd (.inr ⟨hn,by omega⟩) hf
   by_cases h0:(k'.ks x f.keep).2=0
   ·simp[cV.sy,cV.lI,hn,hl,rG,h0]
   simp[cV.sy,cV.lI,hn,hl,h0]
  by_cases hl:k.aw<x.aw
  ·by_cases h0:(k'.uk x).2=0
   ·simp[cV.sy,cV.lI,G4,hn,hl,rG,h0]
   simp[cV.sy,cV.lI,G4,hn,hl,rG,h0]
  simp[cV.sy,cV.lI,hn,hl,rG]
abbrev Au(kp gp dp lp pp:Nat)(H:bw)(y:cV × Int)(v:Ε)(post:Β):Prop:=v= Γ y.2/\∃H',H.le H'/\post=[.ob (cZ kp gp dp lp pp H' y.1),.mem H']
def Sd{t:cJ}(h:eH t=true):uw t= .ok (gq t):=by
 have h1:=(Is h).1;unfold gq;rw[h1]
def Y8(kp gp dp lp pp:Nat)(H:bw)(k:cV)(x:iK)(t:cJ)(hx:ik H x t)(hi:B' t)(xJ:∀o∈t.ops,lA o.key){N m:Nat}(hk:Ca k N m):
  SP 295 [iy kp,agg (eU x)] [.ob (cZ kp gp dp lp pp H k),.mem H] (Au kp gp dp lp pp H (k.fX t)):=by
 refine Enzz λW F w hS=>?_;apply cP9;delta aI bW a_ cP ai;refine zu hS λxb w hS=>?_;obtain⟨rv,hr,hS⟩:=cZ.open (k:=k) hS Xr;have ex:eU x=[Γ t.aw,x.ov,x.nv]:=by unfold eU;rw[hx.aw]
 rw[ex]at hS
 refine Gn λw hS=>?_;have hS:=cZ.put k hS hr Xp;rw[<- ex];rw[<- ex]at hS
 refine Cc (ZC kp gp dp lp pp H k x t hx hi hk.rq) ?_;clear hS;rintro u post ⟨H1,du,hq,rfl⟩ w hS;have hu:∃y,u= .tuple #[y,.bool (gf k.ts.length k.reqs t).isSome]/\∀L,gf k.ts.length k.reqs t=some L->iZ H1 y L:=by
  unfold Ay at hq;cases hc:gf k.ts.length k.reqs t with
  | none=>rw[hc]at hq;obtain⟨y,rfl⟩:=hq;exact⟨y,rfl,λL h=>by cases h⟩
  | some L=>rw[hc]at hq;obtain⟨y,rfl,hy⟩:=hq;exact⟨y,rfl,λL' h=>by cases h;exact hy⟩
 obtain⟨y,rfl,hy⟩:=hu;clear hq;have mU:=hx.mono du;(try simp only[app]at hS);refine Gp ?_
 have gL:∀{w:Ζ} {H':bw} {z:cV} {e:Int},H.le H'->k.fX t=(z,e)->SL W (.ob (cZ kp gp dp lp pp H' z)::.mem H'::F) w->∃post,Au kp gp dp lp pp H (k.fX t) (Γ e) post/\SL W (app post F) w:=λhh he hS=>by rw[he];exact⟨_,⟨rfl,_,hh,rfl⟩,hS⟩
 refine⟨λus w=>∃q:Bool,us=[.bool q]/\(q=true↔(eH t=false\/(k.aw<t.aw/\gf k.ts.length k.reqs t=none)))/\SL W (.ob (cZ kp gp dp lp pp H1 k)::.mem H1::.pt xb (eU x) 240::F) w,?_,?_⟩
 ·refine Gp ?_;refine Cg (zZ H1 x t mU) λw hS=>?_;refine zy (λhm=>?_) (λhm=>?_)
  ·exact⟨true,rfl,⟨λ_=>.inl hm,λ_=>rfl⟩,aR hS⟩
  refine za (λhl=>?_) (λhl=>?_)
  ·refine Gp ?_;refine⟨_,rfl,?_,aR hS⟩;rw[hm];cases gf k.ts.length k.reqs t with
   | none=>exact⟨λ_=>.inr ⟨hl,rfl⟩,λ_=>rfl⟩
   | some L=>exact⟨λh=>by (cases h),λh=>by rcases h with h|⟨_,h⟩<;>cases h⟩
  refine⟨false,rfl,⟨λh=>by (cases h),λh=>?_⟩,aR hS⟩;rcases h with h|h
  ·rw[hm]at h;cases h
  exact absurd h.1 hl
 clear hS;rintro v25 w ⟨q,cT,hq,hS⟩;cases cT;refine yU (λhqt=>gL du (bwi (hq.1 hqt)) (aR hS)) (λUQ=>?_);have Dm:¬(eH t=false\/(k.aw<t.aw/\gf k.ts.length k.reqs t=none)):=λh=>by rw[hq.2 h]at UQ;cases UQ
 have ki:eH t=true:=by
  cases hb:eH t with
  | true=>rfl
  | false=>exact absurd (.inl hb) Dm
 obtain⟨rv,hr,hS⟩:=cZ.open (k:=k) hS Xr;refine Gp ?_;refine Cg (zL dp k.d) λw hS=>?_;refine yU (λho=>?_) (λho=>?_)
 ·have hS:=cZ.put k hS hr Xp;exact gL du (bwm Dm ho) (aR hS)
 refine Gp ?_;refine Cc (QE pp k.plan hk.pl) ?_;clear hS;rintro _ post ⟨nq,rfl,rfl⟩ w hS;try simp only[app]at hS
 have Bl:=hk.mX;have Uo:=cCm Bl;have T6:=bwh Dm ho;have T7:=bwj Dm ho Bl;have Bk:(lC k.plan).2.length<=1024:=by
  have:=hk.pl;cases hp:k.plan with
  | nil=>exact zz4 _
  | cons f r=>rw[hp,zzj]at this;show r.length<=1024;omega
 generalize hf:(lC k.plan).1=f at *
 generalize (lC k.plan).2=pr at *
 refine Gp ?_;refine Gb λfb w hS=>?_;refine⟨λus w=>us=[]/\¬(f.kind=1\/(f.kind=2/\¬k.aw<t.aw))/\SL W (.pt kp (od gp dp lp pp k.aw rv) 78::.ob (gy gp k.ts)::.ob (dx lp dp k.g)::.ob (gJ pp pr)::.ob (cw dp k.d)::.pt fb (iU f) 33::.mem H1::.pt xb (eU x) 240::F) w,?_,?_⟩
 ·have h9:∀{w:Ζ},f.kind=1\/(f.kind=2/\¬k.aw<t.aw)->SL W (.ob (cw dp k.d)::.ob (gJ pp pr)::.pt kp (od gp dp lp pp k.aw rv) 78::.ob (gy gp k.ts)::.ob (dx lp dp k.g)::.mem H1::F) w->∃post,Au kp gp dp lp pp H (k.fX t) (Γ 9) post/\SL W (app post F) w:=λh hS=>by
   have hS:=cZ.eX (H:=H1) (reqs:=k.reqs) hS hr Xp;exact gL du (T6 h) hS
  refine Gp ?_;refine za (λh1=>h9 (.inl h1) (aR hS)) (λh1=>?_);refine Gp ?_;refine za (λh2=>?_) (λh2=>⟨rfl,by omega,aR hS⟩);refine Gp ?_;refine zy (λhl=>h9 (.inr ⟨h2,yy2 hl⟩) (aR hS)) (λhl=>⟨rfl,λh=>?_,aR hS⟩);rcases h with h|⟨_,h⟩
  ·exact h1 h
  exact h (zzp hl)
 clear hS;rintro w ⟨-,hnf,hS⟩;have lN:=T7 hnf;clear T6 T7;refine Gp ?_;refine Cc (YX H1 x t mU) ?_;clear hS;rintro r post JB w hS;unfold B6 at JB;rw[Sd ki]at JB
 obtain⟨bv,rfl,rfl⟩:=JB;have p5:=(Cx ki).2;(try simp only[app]at hS);refine Gp ?_
 generalize p9:({k with plan:=pr}:cV)=k' at lN;have xF:k'.g=k.g/\k'.d=k.d/\k'.ts=k.ts/\k'.aw=k.aw/\k'.reqs=k.reqs/\k'.plan=pr:=by rw[<- p9];exact⟨rfl,rfl,rfl,rfl,rfl,rfl⟩
 obtain⟨g1,g2,g3,g4,g5,g6⟩:=xF;have hW:(k'.lI t f).1.ts=k.ts/\(k'.lI t f).1.aw=k.aw/\(k'.lI t f).1.reqs=k.reqs/\(k'.lI t f).1.plan=pr:=by
  unfold cV.lI;split
  ·unfold cV.ks;exact⟨g3,g4,g5,g6⟩
  split
  ·unfold cV.uk;exact⟨g3,g4,g5,g6⟩
  exact⟨g3,g4,g5,g6⟩
 refine⟨λus w=>us=[Γ (k'.lI t f).2]/\SL W (.ob (cZ kp gp dp lp pp H1 (k'.lI t f).1)::.pt fb (iU f) 33::.mem H1::.pt xb (eU x) 240::F) w,?_,?_⟩
 ·have sI:=hk.g.ok;have C':=hk.d;have hle:=hk.le;have fj:=hk.ops;refine Gp ?_;refine Χ ?_;unfold cV.lI;refine cA (λh2=>?_) (λh2=>?_)
  ·rw[zzd h2];refine Gn λw hS=>?_;refine Cg (cJ5 (.ob (bF bv 5 1 (gq t).length ((gq t).map dd))) lp dp k.g k.d bv (gq t) f.keep dX.own (by omega) sI (by omega) C' (by omega) (by omega)) λw hS=>?_;unfold cV.ks;rw[g1,g2];have hS:=cZ.eX (H:=H1) (reqs:=k.reqs) hS hr Xp;refine⟨rfl,?_⟩;rw[<- p9];exact aR hS
  rw[zzb h2,g4];refine za (λhl=>?_) (λhl=>?_)
  ·rw[zzd hl];refine Gp ?_;refine Cg (Zl (.ob (bF bv 5 1 (gq t).length ((gq t).map dd))) lp dp k.g k.d bv (gq t) dX.own (by omega) sI (by omega) C' (by omega) (by omega)) λw hS=>?_;unfold cV.uk;simp only;rw[g1,g2];have hS:=cZ.eX (H:=H1) (reqs:=k.reqs) hS hr Xp;refine⟨rfl,?_⟩;rw[<- p9];exact aR hS
  rw[zzb hl];have hS:=cZ.eX (H:=H1) (reqs:=k.reqs) hS hr Xp;refine⟨rfl,?_⟩;rw[<- p9];exact aR hS
 clear hS;rintro v11 w ⟨cT,hS⟩;cases cT;unfold cV.sy at lN;obtain⟨w1,w2,w3,w4⟩:=hW;generalize k'.lI t f=z at *
 obtain⟨z,e⟩:=z;simp only at *
 refine cA (λhe=>?_) (λhe=>?_)
 ·rw[zzd he]at lN
  exact gL du lN (aR hS)
 rw[zzb he,g4]at lN
 have gV:∀{w:Ζ} {z':cV},k.fX t=(z',if f.kind≠0 then 9 else 0)->SL W (.ob (cZ kp gp dp lp pp H1 z')::.pt fb (iU f) 33::.mem H1::F) w->df (.bool (decide (f.kind≠0))) (∃post,Au kp gp dp lp pp H (k.fX t) (Γ 9) post/\SL W (app post F) w) (∃post,Au kp gp dp lp pp H (k.fX t) (Γ 0) post/\SL W (app post F) w):=λhc hS=>by
  refine za (λh0=>?_) (λh0=>?_)
  ·rw[zzd h0]at hc;exact gL du hc (aR hS)
  rw[zzb h0]at hc;exact gL du hc (aR hS)
 refine za (λhl=>?_) (λhl=>?_)
 ·refine cA (λh2=>?_) (λh2=>?_)
  ·rw[zzd ⟨hl,h2⟩]at lN
   obtain⟨L,hL⟩:∃L,gf k.ts.length k.reqs t=some L:=by
    cases hc:gf k.ts.length k.reqs t with
    | none=>exact absurd (.inr ⟨hl,hc⟩) Dm
    | some L=>exact⟨L,rfl⟩
   rw[hL,xxj]at lN
   have rI:=hi.ops;have vU:=(oQ.1 ki).1.2.2.1;refine Gp ?_;refine Cg (qL kp gp dp lp pp H1 z x t L y mU (hy L hL) (by omega) xJ) λw hS=>?_;exact gV lN (aR hS)
  rw[zzb (λh=>h2 h.2)]at lN
  refine Gp ?_;exact gV lN (aR hS)
 rw[zzb (λh=>hl h.1)]at lN
 refine Gp ?_;exact gV lN (aR hS)
def R4{L:List dt}(h:i_ L):cO L-fk L+1=((cX L).length:Int):=by
 by_cases hL:L=[]
 ·subst hL;rfl
 rw[h.head hL];omega
def V0{L:List dt}{N:Nat}(h:∀s∈L,k_ s N):1<=fk L/\fk L<=1099511627776:=by
 cases L with
 | nil=>exact⟨yyf _,by show (1:Int)<=_;decide⟩
 | cons s r=>exact⟨(h s (.head _)).n0,(h s (.head _)).n1⟩
def Yd(kp gp dp lp pp:Nat)(H:bw)(k:cV):SP 70 [iy kp] [.ob (cZ kp gp dp lp pp H k)] (cE (iy pp) [.ob (cZ kp gp dp lp pp H k)]):=by
 refine Enzz λW F w hS=>?_;apply ai9;delta bW;obtain⟨rv,hr,hS⟩:=cZ.iff.1 hS;refine Gp ?_;exact⟨_,⟨rfl,rfl⟩,cZ.iff.2 ⟨rv,hr,hS⟩⟩
def yM(kp gp dp lp pp:Nat)(H:bw)(k:cV):SP 56 [iy kp] [.ob (cZ kp gp dp lp pp H k)] (cE (Γ k.aw) [.ob (cZ kp gp dp lp pp H k)]):=by
 refine Enzz λW F w hS=>?_;apply cTf;delta bW;obtain⟨rv,hr,hS⟩:=cZ.iff.1 hS;refine Gp ?_;exact⟨_,⟨rfl,rfl⟩,cZ.iff.2 ⟨rv,hr,hS⟩⟩
def y7(kp gp dp lp pp:Nat)(H:bw)(k:cV){N:Nat}(hg:ij k.g N)(hN:N<=1000000000000):SP 196 [iy kp] [.ob (cZ kp gp dp lp pp H k)] (cE (Γ ((cX k.g.bI).length:Int)) [.ob (cZ kp gp dp lp pp H k)]):=by
 refine Enzz λW F w hS=>?_;apply cNo;delta bW aW b_ ai;obtain⟨rv,hr,hS⟩:=cZ.iff.1 hS;have h1:=sH hg.ok.bI;have h2:=V0 hg.ok.bI;have h3:=R4 hg.seq;refine Gn λw hS=>?_;refine Cg (Yb lp dp k.g hg.ok hN) λw hS=>?_;refine Cg (ZD lp dp k.g hg.ok hN) λw hS=>?_;rw[h3];have hS:=cZ.put k hS hr Xp;exact cF hS
def yI(kp gp dp lp pp:Nat)(H:bw)(k:cV)(hq:k.reqs.length<=64):SP 23 [iy kp] [.ob (cZ kp gp dp lp pp H k),.mem H] (λv post=>post=[.ob (bF v 86 7 k.reqs.length (k.reqs.map gF).flatten),.ob (cZ kp gp dp lp pp H k),.mem H]):=by
 refine Enzz λW F w hS=>?_;apply cOp;delta bW;obtain⟨rv,hr,hS⟩:=cZ.iff.1 hS;refine Gp ?_;refine Cc (ya H rv k.reqs hr (by omega)) ?_;clear hS;rintro u post rfl w hS;try simp only[app]at hS
 have hS:=cZ.put (H:=H) k hS hr Xp;exact⟨_,rfl,aR hS⟩
def QM(kp gp dp lp pp:Nat)(H:bw)(k:cV)(hq:k.reqs.length<=64):SP 23 [iy kp] [.ob (cZ kp gp dp lp pp H k),.mem H] (λv post=>∃H',H.le H'/\iZ H' v k.reqs/\post=[.ob (cZ kp gp dp lp pp H' k),.mem H']):=by
 intro W F w hS;refine zB.mono (yI kp gp dp lp pp H k hq W F w hS) ?_;rintro u w ⟨post,rfl,hS⟩;try simp only[app]at hS
 obtain⟨H',hh,hR,hS⟩:=zw (H:=H) (v:=u) (n:=k.reqs.length) (sz:=7) (t:=86) (cells:=(k.reqs.map gF).flatten) hS Xp;have hS:=cZ.gB hh hS Xr;exact⟨_,⟨H',hh,hR,rfl⟩,aR hS⟩
def cV.at(k:cV)(t:Tr):cV:={k with ts:=t.1,reqs:=t.2.1,aw:=t.2.2}
def Kc{t:cJ}(h:eH t=true):B' t/\∀o∈t.ops,lA o.key:=by
 obtain⟨⟨_,_,h1,h2⟩,h3,h4⟩:=oQ.1 h;refine⟨⟨λn hn=>?_,by omega,by omega⟩,λo ho=>?_⟩
 ·have:=h4 n hn;unfold jx at this;rw[zzw]at this
  unfold lA;omega
 have:=h3 o ho;unfold kY at this;rw[zzw]at this
 unfold lA;omega
def SJ{b:Φ}{t:cJ}(h:nV b= .ok t):eH t=true:=by
 unfold nV at h;split at h
 ·cases h
 split at h
 ·rename_i x hx;cases h;unfold AQ at hx;simp only at hx;split at hx
  ·rename_i hc;cases hx;exact hc.2.2
  cases hx
 cases h
def cC1{ts:List (List Cell)}(h:sU ts){t:cJ}(hm:eH t=true):sU (fF ts t.ops).1:=cC0 h (Kc hm).2
def cH2{ts:List (List Cell)}{m:Nat}(h:small ts (4096*(m+1))){t:cJ}(hm:eH t=true):small (fF ts t.ops).1 (4096*m):=
 cH1 (XS h (by have:=(oQ.1 hm).1.2.2.1;omega))
def cV.lY(k:cV):Option Tr:=if fk k.g.bI≠1/\0<(cX k.g.bI).length then none else tZ k.ts.length (cX k.g.bI) k.tr
structure wM(t:Tr)(n m:Nat):Prop where
 len:t.1.length=n
 ok:sU t.1
 room:small t.1 (4096*m)
 rq:t.2.1.length<=64
def Wp{L L':List Rq}:∀{l:List iC},ga L l=some L'->L.length<=64->L'.length<=64
 | [],h,hl=>by cases h;exact hl
 | n::l,h,hl=>by
  unfold ga at h;cases hn:oR L n with
  | none=>rw[hn]at h;cases h
  | some L2=>rw[hn]at h;exact Wp h (Wo hn)
def wM.step{t t':Tr}{n m:Nat}(h:wM t n (m+1)){x:cJ}(hs:stepT n t x=some t'):wM t' n m:=by
 unfold stepT at hs;cases hf:gf n t.2.1 x with
 | none=>rw[hf]at hs;cases hs
 | some L=>
  rw[hf]at hs
  simp only at hs;split at hs
  ·cases hs;obtain⟨hm,_,hn⟩:=CU hf;exact⟨by show (fF _ _).1.length=n;rw[KK,h.len],cC1 h.ok hm,cH2 h.room hm,Wp hn h.rq⟩
  cases hs
def QL(kp gp dp lp pp:Nat)(H:bw)(k:cV){N m:Nat}(hg:ij k.g N)(hN:N<=1000000000000)(ht:wM k.tr k.ts.length m)(hm:(cX k.g.bI).length<=m)(vU:m<=100000):
  SP 139 [iy kp] [.ob (cZ kp gp dp lp pp H k),.mem H] (λv post=>∃H',H.le H'/\match k.lY with
   | none=>v= .bool false/\post=[.ob (cw dp k.d),.mem H']
   | some t=>v= .bool true/\post=[.ob (cZ kp gp dp lp pp H' (k.at t)),.mem H']):=by
 refine Enzz λW F w hS=>?_;apply cL3;delta aI bW a_ b_ cP cz ai bR;have h2:=V0 hg.ok.bI;have hF:∀{w:Ζ} {H':bw} {t:Tr},k.lY=none->H.le H'->SL W (.ob (cZ kp gp dp lp pp H' (k.at t))::.mem H'::F) w->∃post,(∃H',H.le H'/\match k.lY with
   | none=>(.bool false:Ε)= .bool false/\post=[.ob (cw dp k.d),.mem H']
   | some t=>(.bool false:Ε)= .bool true/\post=[.ob (cZ kp gp dp lp pp H' (k.at t)),.mem H'])/\SL W (app post F) w:=λhr hh hS=>by
  rw[hr];obtain⟨rv,UU,hS⟩:=cZ.iff.1 hS;exact⟨[.ob (cw dp k.d),.mem _],⟨_,hh,rfl,rfl⟩,SL.cD (show SL W (_::_::_::_::.ob (cw dp k.d)::_) _ from hS) Xi⟩
 refine⟨λus w=>us=[]/\¬(fk k.g.bI≠1/\0<(cX k.g.bI).length)/\SL W (.ob (cZ kp gp dp lp pp H k)::.mem H::F) w,?_,?_⟩
 ·obtain⟨rv,hr,hS⟩:=cZ.iff.1 hS;refine Gp ?_;refine Cg (ZD lp dp k.g hg.ok hN) λw hS=>?_;have hS:=cZ.put k hS hr Xp;refine za (λh1=>?_) (λh1=>?_)
  ·refine Cg (y7 kp gp dp lp pp H k hg hN) λw hS=>?_;refine za (λh3=>?_) (λh3=>?_)
   ·exact hF (t:=k.tr) (by unfold cV.lY;rw[zzd ⟨h1,by omega⟩]) (bw.le_refl H) hS
   exact⟨rfl,λh=>by omega,aR hS⟩
  exact⟨rfl,λh=>h1 h.1,aR hS⟩
 clear hS;rintro w ⟨-,rH,hS⟩;have hK:k.lY=tZ k.ts.length (cX k.g.bI) k.tr:=by unfold cV.lY;rw[zzb rH]
 refine⟨λus w=>∃(i:Nat) (t:Tr) (H2:bw),us=[Γ ((i+1:Nat):Int)]/\i<=(cX k.g.bI).length/\k.lY=tZ k.ts.length ((cX k.g.bI).drop i) t/\wM t k.ts.length (m-i)/\H.le H2/\SL W (.ob (cZ kp gp dp lp pp H2 (k.at t))::.mem H2::F) w,
  λus _=>match us with|[.int _ i]=>((cX k.g.bI).length+1-i).toNat|_=>0,⟨0,k.tr,H,rfl,zz4 _,hK,ht,bw.le_refl H,hS⟩,?_⟩
 clear hS;rintro v3 w ⟨i,t,H2,cT,hi,dQ,hT,fu,hS⟩;cases cT;refine Cc (y7 kp gp dp lp pp H2 (k.at t) hg hN) ?_;clear hS;rintro _ post ⟨rfl,rfl⟩ w hS;try simp only[app]at hS
 rw[show (cX (k.at t).g.bI).length=(cX k.g.bI).length from rfl];refine cA (λh=>?_) (λh=>?_)
 ·have cG:i<(cX k.g.bI).length:=by omega
  have vS:fk k.g.bI=1:=by
   rcases Int.lt_trichotomy (fk k.g.bI) 1 with h|h|h
   ·omega
   ·exact h
   exact absurd ⟨by omega,by omega⟩ rH
  have Du:=hg.seq.read i;rw[vS,zzc cG]at Du
  rw[yyq cG]at dQ
  generalize hbb:(cX k.g.bI)[i]=bs at *
  have dQ:k.lY=match nV bs with
   | .ok x=>match stepT k.ts.length t x with
    | some t'=>tZ k.ts.length ((cX k.g.bI).drop (i+1)) t'
    | none=>none
   | .error _=>none:=dQ
  obtain⟨rv,hr,hS⟩:=cZ.iff.1 hS;refine Gp ?_;refine Cc (Yl lp dp (k.at t).g hg.ok hN ((i+1:Nat):Int) (by omega)) ?_;clear hS;rintro r post hq w hS;have hq:Eu [.ob (dx lp dp (k.at t).g)] (mZ k.g.bI ((i+1:Nat):Int)) r post:=hq;rw[show ((i+1:Nat):Int)=1+(i:Int) by omega,Du]at hq
  obtain⟨u,rfl,rfl⟩:=hq;try simp only[app]at hS
  have hS:=cZ.put (k.at t) hS hr Xp;refine Gp ?_;refine Cc (YW (.ob (bF u 5 1 bs.length (bs.map dd))) H2 u bs dX.own) ?_;clear hS;rintro r post hq w hS;unfold wF at hq;cases hd:nV bs with
  | error e=>
   rw[hd]at hq dQ
   obtain⟨dO,H3,fB,rfl,rfl⟩:=hq;try simp only[app]at hS
   have hS:=cZ.mono fB (Has.front (c:=.ob (cZ kp gp dp lp pp H2 (k.at t))) hS Xr);refine Gm λb w hS=>?_;refine Cc (ZC kp gp dp lp pp H3 (k.at t) ⟨0,Θ,Θ⟩ ⟨0,[],[]⟩ ⟨rfl,de.nil _ _,de.nil _ _⟩ ⟨by simp,by simp,by simp⟩ hT.rq) ?_;clear hS;rintro u2 post ⟨H4,nm,lu,rfl⟩ w hS;have hu:∃y b,u2= .tuple #[y,.bool b]:=by
    unfold Ay at lu;split at lu
    ·obtain⟨y,e⟩:=lu;exact⟨y,_,e⟩
    obtain⟨y,e,_⟩:=lu;exact⟨y,_,e⟩
   obtain⟨y,qb,rfl⟩:=hu;refine Gn λw hS=>?_;refine za (λ_=>?_) (λh=>absurd dO h);exact hF dQ (bw.le_trans fu (bw.le_trans fB nm)) (aR hS)
  | ok x=>
   rw[hd]at hq dQ
   obtain⟨xv,H3,fB,rfl,hx,rfl⟩:=hq;obtain⟨Ji,xJ⟩:=Kc (SJ hd);have Bv:=(oQ.1 (SJ hd)).1.2.2.1;have F4:eU xv=[Γ x.aw,xv.ov,xv.nv]:=by unfold eU;rw[hx.aw]
   try simp only[app]at hS
   have hS:=cZ.mono fB (Has.front (c:=.ob (cZ kp gp dp lp pp H2 (k.at t))) hS Xr);have h1:=mL hx;refine Gp ?_;refine zE hS λxb w hS=>?_;refine zt hS Xu rfl rfl h1 λw hS=>?_;refine zr hS Xh rfl ?_;refine Cc (ZC kp gp dp lp pp H3 (k.at t) xv x hx Ji hT.rq) ?_;clear hS;rintro u2 post ⟨H4,nm,lu,rfl⟩ w hS;have IK:=bw.le_trans fu (bw.le_trans fB nm);have p7:gf (k.at t).ts.length (k.at t).reqs x=gf k.ts.length t.2.1 x:=by rw[show (k.at t).ts.length=k.ts.length from hT.len];rfl
   rw[p7]at lu
   simp only at dQ;unfold stepT at dQ;cases hc:gf k.ts.length t.2.1 x with
   | none=>
    rw[hc]at lu dQ
    obtain⟨y,rfl⟩:=lu;refine Gn λw hS=>?_;refine Χ ?_;refine Gp ?_;refine zq ?_;exact hF dQ IK (aR hS)
   | some L=>
    rw[hc]at lu dQ
    obtain⟨y,rfl,hy⟩:=lu;refine Gn λw hS=>?_;refine Χ ?_;refine Gp ?_;refine zp ?_;obtain⟨KU,uT,hS⟩:=cZ.open (k:=k.at t) hS Xr;rw[F4]at hS
    refine Gp ?_;have hS:=cZ.put (k.at t) hS uT Xp;rw[show (k.at t).aw=t.2.2 from rfl];refine za (λh5=>?_) (λh5=>?_)
    ·simp only at dQ;rw[zzb (by omega)]at dQ
     exact hF dQ IK (aR hS)
    simp only at dQ;rw[zzd (by omega)]at dQ
    rw[<- F4]at hS
    refine zr hS Xh rfl ?_;refine Cg (qL kp gp dp lp pp H4 (k.at t) xv x L y (hx.mono nm) hy (by omega) xJ) λw hS=>?_;have gg:stepT k.ts.length t x=some ((fF t.1 x.ops).1,L,x.aw):=K9 hc (by omega);have hT':wM ((fF t.1 x.ops).1,L,x.aw) k.ts.length (m-(i+1)):=by
     have:m-i=(m-(i+1))+1:=by omega
     rw[this]at hT
     exact hT.step gg
    have hS:SL W (.ob (cZ kp gp dp lp pp H4 (k.at ((fF t.1 x.ops).1,L,x.aw)))::_) _:=hS;exact⟨⟨i+1,((fF t.1 x.ops).1,L,x.aw),H4,rfl,by omega,dQ,hT',IK,aR hS⟩,by dsimp only;omega⟩
 have jZ:i=(cX k.g.bI).length:=by omega
 subst jZ;rw[vv5]at dQ
 have dQ:k.lY=some t:=dQ;rw[dQ];exact⟨_,⟨H2,fu,rfl,rfl⟩,aR hS⟩
def LJ(dp:Nat)(H:bw)(y:DS × Except Int cV)(r:Ε)(post:Β):Prop:=match y.2 with
 | .error e=>e≠0/\∃H',H.le H'/\r= .tuple #[.pointer none,Γ e]/\post=[.ob (cw dp y.1),.mem H']
 | .ok k=>∃(kp gp lp pp:Nat) (H':bw),H.le H'/\r= .tuple #[iy kp,Γ 0]/\post=[.ob (cZ kp gp dp lp pp H' k),.mem H']
def XT(n m:Nat)(hm:4096*m<=1000000):small (List.replicate n []) (4096*m):=λC hC=>by
 rw[vvm hC];simpa using hm
def WC(n:Nat):sU (List.replicate n []):=λC hC=>by
 rw[vvm hC];exact⟨.nil,by simp⟩
def QJ(H:bw)(dp:Nat)(d:DS)(cU size:Int){N:Nat}(cL:d.Ok N)(hN:N<=100000000)(ed:d.ops<=90000)(hn:∀d' g,ff d 8192 size=(d',.ok g)->(cX g.bI).length<=200):
  SP 93 [iy dp,Γ cU,Γ size] [.ob (cw dp d),.mem H] (LJ dp H (kI d cU size)):=by
 refine Enzz λW F w hS=>?_;apply cUh;delta aI cP ai cY bR;have hR:=cL.D4;by_cases ht:cU<1\/8<cU
 ·have e:kI d cU size=(d,.error 1):=by unfold kI;rw[zzd ht]
  rw[e];refine Cg (bWo cU ht) λw hS=>?_;refine Υ ?_;exact⟨_,⟨by decide,H,bw.le_refl H,rfl,rfl⟩,aR hS⟩
 obtain⟨n,rfl⟩:∃n:Nat,cU=n:=⟨cU.toNat,by omega⟩;refine Cc (bWp n (by omega) (by omega)) ?_;clear hS;rintro _ post ⟨gp,rfl,rfl⟩ w hS;(try simp only[app]at hS);refine Gp ?_
 refine Χ ?_;refine Cc (QQ dp d 8192 size cL (by omega) (by omega) (by omega)) ?_;clear hS;rintro r post hq w hS;unfold kI;rw[zzb ht];unfold Cf at hq;cases tN:ff d 8192 size with
 | mk d' o=>
  rw[tN]at hq
  cases o with
  | error e=>
   obtain⟨he,rfl,rfl⟩:=hq;(try simp only[app]at hS);refine Gp ?_
   refine za (λ_=>?_) (λh=>absurd he h);exact⟨_,⟨he,H,bw.le_refl H,rfl,rfl⟩,aR hS⟩
  | ok g=>
   obtain⟨lp,rfl,rfl⟩:=hq;(try simp only[app]at hS);refine Gp ?_
   refine Χ ?_;refine Cc (bR8) ?_;clear hS;rintro _ post ⟨pp,rfl,rfl⟩ w hS;(try simp only[app]at hS);refine Gp ?_
   refine zu hS λkp w hS=>?_;have sI:=Ku cL (by omega) tN;have hS:SL W (.ob (cZ kp gp dp lp pp H ⟨g,d',List.replicate n [],[],0,[]⟩)::_) _:=cZ.eX (rv:=Θ) hS (de.nil H 7) Xp;have Bf:(List.replicate n ([]:List Cell)).length=n:=xxn;refine Cc (QL kp gp dp lp pp H ⟨g,d',List.replicate n [],[],0,[]⟩ sI (by omega) ⟨rfl,WC n,XT n 200 (by decide),by simp[cV.tr]⟩ (hn d' g tN) (by omega)) ?_;clear hS;rintro v post ⟨H1,du,hm⟩ w hS;have p5:=R4 sI.seq;have e:(cV.mk g d' (List.replicate n []) [] 0 []).lY=if fk g.bI≠1/\fk g.bI<=cO g.bI then none else tZ (Int.toNat (n:Int)) (cX g.bI) (rV (Int.toNat (n:Int))):=by
    unfold cV.lY;simp only[Bf];rw[zzz];by_cases hc:fk g.bI≠1/\fk g.bI<=cO g.bI
    ·rw[zzd hc,zzd ⟨hc.1,by omega⟩]
    rw[zzb hc,zzb (λh=>hc ⟨h.1,by omega⟩)];rfl
   rw[e]at hm
   simp only;by_cases hc:fk g.bI≠1/\fk g.bI<=cO g.bI
   ·rw[zzd hc]at hm ⊢
    obtain⟨rfl,rfl⟩:=hm;(try simp only[app]at hS);refine Gp ?_
    refine zq ?_;exact⟨_,⟨by decide,H1,du,rfl,rfl⟩,aR hS⟩
   rw[zzb hc]at hm ⊢
   cases FZ:tZ (Int.toNat (n:Int)) (cX g.bI) (rV (Int.toNat (n:Int))) with
   | none=>
    rw[FZ]at hm
    obtain⟨rfl,rfl⟩:=hm;(try simp only[app]at hS);refine Gp ?_
    refine zq ?_;exact⟨_,⟨by decide,H1,du,rfl,rfl⟩,aR hS⟩
   | some t=>
    rw[FZ]at hm
    obtain⟨rfl,rfl⟩:=hm;(try simp only[app]at hS);refine Gp ?_
    refine zp ?_;have hS:SL W (.ob (cZ kp gp dp lp pp H1 ⟨g,d',t.1,[],t.2.2,t.2.1⟩)::_) _:=hS;exact⟨_,⟨kp,gp,lp,pp,H1,du,rfl,rfl⟩,aR hS⟩
structure TX(t:Tr)(n m:Nat):Prop where
 k:wM t n m
 l0:0<=t.2.2
 l1:t.2.2<=1099511627776
 rq:gm t.2.1
def Wq{L L':List Rq}:∀{l:List iC},ga L l=some L'->gm L->gm L'
 | [],h,hl=>by cases h;exact hl
 | n::l,h,hl=>by
  unfold ga at h;cases hn:oR L n with
  | none=>rw[hn]at h;cases h
  | some L2=>
   rw[hn]at h
   refine Wq h ?_;unfold oR at hn;split at hn
   ·exact EU hn
   split at hn
   ·rename_i L3 h3;split at hn
    ·cases hn;exact Cu h3
    cases hn
   cases hn
def TX.step{t t':Tr}{n m:Nat}(h:TX t n (m+1)){x:cJ}(hs:stepT n t x=some t'):TX t' n m:=by
 have hk:=h.k.step hs;unfold stepT at hs;cases hf:gf n t.2.1 x with
 | none=>rw[hf]at hs;cases hs
 | some L=>
  rw[hf]at hs
  simp only at hs;split at hs
  ·cases hs;obtain⟨hm,_,hn⟩:=CU hf;have h1:=(oQ.1 hm).1;exact⟨hk,by show 0<=x.aw;omega,by show x.aw<=_;omega,Wq hn h.rq⟩
  cases hs
def TX.run{n:Nat}:∀(xs:List cJ) (t t':Tr) (m:Nat),TX t n (m+xs.length)->runT n xs t=some t'->TX t' n m
 | [],t,t',m,h,hr=>by cases hr;exact h
 | x::xs,t,t',m,h,hr=>by
  have hr:(match stepT n t x with|some t'=>runT n xs t'|none=>none)=some t':=hr;cases hs:stepT n t x with
  | none=>rw[hs]at hr;cases hr
  | some t1=>
   rw[hs]at hr
   rw[zzj,show m+(xs.length+1)=(m+xs.length)+1 by omega]at h
   exact TX.run xs t1 t' m (h.step hs) hr
def cA7:gm []:=⟨by simp,λi h=>by simp at h⟩
def TX.zero(n m:Nat)(hm:4096*m<=1000000):TX (rV n) n m:=⟨⟨xxn,WC n,XT n m hm,by simp[rV]⟩,by show (0:Int)<=0;decide,by show (0:Int)<=_;decide,cA7⟩
structure Hf(n:Nat)(k:cV)(j:Nat)(xs:List cJ)(m:Option cJ):Prop where
 s:jf n k xs m
 len:xs.length<=j
 g:ij k.g (1000000*(j+1))
 d:k.d.Ok (1000000*(j+1))
 ops:k.d.ops<=10*(j+1)
 pl:k.plan.length<=j
 mX:∀f∈k.plan,jm f=true
 keep:∀f∈k.plan,f.keep<=9223372036854775807
def bwk(k:cV)(x:cJ):((k.fX x).1.g=k.g/\(k.fX x).1.d=k.d)\/(eH x=true/\(((k.fX x).1.g=(fy k.g k.d (gq x)).1.1/\(k.fX x).1.d=(fy k.g k.d (gq x)).1.2)\/∃n,(k.fX x).1.g=(gw k.g k.d (gq x) n).1.1/\(k.fX x).1.d=(gw k.g k.d (gq x) n).1.2)):=by
 unfold cV.fX;split
 ·exact .inl ⟨rfl,rfl⟩
 rename_i hn;have hm:eH x=true:=by
  cases hb:eH x with
  | true=>rfl
  | false=>exact absurd (.inl hb) hn
 have hw:∀(k':cV) (L:List Rq),k'.g=k.g->k'.d=k.d->(k'.gD x L).1.g=(fy k.g k.d (gq x)).1.1/\(k'.gD x L).1.d=(fy k.g k.d (gq x)).1.2:=λk' L h1 h2=>by
  unfold cV.gD;simp only;rw[h1,h2];split<;>exact⟨rfl,rfl⟩
 split
 ·exact .inl ⟨rfl,rfl⟩
 simp only;split
 ·split
  ·exact .inr ⟨hm,.inl (hw _ _ rfl rfl)⟩
  exact .inl ⟨rfl,rfl⟩
 split
 ·split
  ·exact .inr ⟨hm,.inl (hw _ _ rfl rfl)⟩
  exact .inl ⟨rfl,rfl⟩
 split
 ·exact .inr ⟨hm,.inr ⟨_,rfl,rfl⟩⟩
 exact .inl ⟨rfl,rfl⟩
def Hf.first{n:Nat}(n1:1<=n)(n8:n<=8){size:Int}(s0:64<=size)(s1:size<=65536):∃k,kI gU ((n:Nat):Int) size=(k.d,.ok k)/\Hf n k 0 [] none/\k.plan=[]/\k.d=gU/\k.aw=0/\(∀d' g,ff gU 8192 size=(d',.ok g)->(cX g.bI).length<=200):=by
 have tN:ff gU 8192 size=(gU,.ok ⟨[],8192,size,none⟩):=by
  unfold ff;rw[zzb (by omega)];rfl
 have hl:gI ⟨[],8192,size,none⟩ gU 8192 1 []:=⟨trivial,rfl,rfl,λ_=>⟨rfl,rfl⟩,yyf _,by show (0:Int)<=8192;decide,by show (8192:Int)<=12288;decide,s0,s1,by decide,by show (8192:Int)+(0:Nat)+2<=8192+4096;decide,rfl,rfl⟩;refine⟨⟨⟨[],8192,size,none⟩,gU,(rV n).1,[],0,[]⟩,?_,⟨⟨hl.st rfl _,by simp,rfl,xxn,λx hx=>by cases hx⟩,zzi _,⟨⟨by simp,by show (0:Int)<=8192;decide,by show (8192:Int)<=12288;decide,s0,s1,by simp⟩,trivial,by show (0:Int)<=_;decide,λx hx=>by cases hx⟩,D6 _,by show gU.ops<=_;decide,by simp,by simp,by simp⟩,rfl,rfl,rfl,λd' g hg=>?_⟩
 ·unfold kI;rw[zzb (by omega),zzz];simp only[tN];rfl
 rw[tN]at hg
 cases hg;simp[cX]

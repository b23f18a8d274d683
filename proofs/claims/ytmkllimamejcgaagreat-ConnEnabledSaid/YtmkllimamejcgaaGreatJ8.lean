/- Part of the proof. -/
import Derived.Test.YtmkllimamejcgaaGreatJ7
import Derived.ProofKit
import Derived.OpenShut
import Derived.SizedLaws
import Derived.Deep.Slices
import Derived.JoinedCond
import Derived.Test.YtmkllimamejcgaaGreatQVcM
import Derived.Test.YtmkllimamejcgaaGreatQVcG
import Derived.Test.YtmkllimamejcgaaGreatQVcL
namespace Go.Proofs.YtmkllimamejcgaaGreat
set_option linter.all false
open Go.RowKit Go.ChangeShapes Go.WideShapes Go.ChangeAt
def vv7:=@List.all_append
def ww4:=@List.getElem_append_right
def ww0:=@List.drop_drop
def uun:=@Nat.div_lt_iff_lt_mul
def vv8:=@Nat.div_add_mod
def xx2:=@Option.some.inj
def wwv:=@List.flatten_singleton
def vvk:=@Tryz.underlying153
def uur:=@Tryz.zeroValue93
def uu5:=@Option.isSome_none
def uu6:=@Option.isSome_some
def vvl:=@Bool.false_eq_true
def uue:=@List.mem_replicate
def xxf:=@List.length_replicate
def uuo:=@List.set_getElem_self
def uul:=@List.getLast?_map
def xxy:=@List.getLast?_eq_getElem?
def vvz:=@List.filter_cons
def xx3:=@List.mem_filter
def vv0:=@List.drop_length
def En:ml Unit:=.plain 0 (λ_=>[]) (λ_=>rfl) (λ_ u hu=>by cases hu)
def oH{α β:Type}(S:ml α)(T:ml β):ml (α × β) where
 n:=S.n+T.n
 rd:=λw M x cs=>∃c1 c2,cs=c1++c2/\S.rd w M x.1 c1/\T.rd w M x.2 c2
 len:=λ⟨c1,c2,h,h1,h2⟩=>by rw[h,zza,S.len h1,T.len h2]
 one:=λ⟨c1,c2,h,h1,h2⟩ u hu=>by
  subst h;rcases zz0.1 hu with hu|hu
  ·exact S.one h1 u hu
  exact T.one h2 u hu
 keep:=λ⟨c1,c2,h,h1,h2⟩ hf hM=>⟨c1,c2,h,S.keep h1 hf hM,T.keep h2 hf hM⟩
def ml.via{α β:Type}(T:ml α)(f:β->α):ml β where
 n:=T.n
 rd:=λw M y cs=>T.rd w M (f y) cs
 len:=λh=>T.len h
 one:=λh=>T.one h
 keep:=λh=>T.keep h
def Small{H:Type}(P:Program)(t:Ε)(d:DataW H):Prop:=(d.weights P t).all (·<=reachBytes)=true
def rZ{α:Type}(P:Program)(t:Ε)(T:ml α)(ok:α->Prop):Prop:=
 P.cellsOf t=T.n/\∀{H:Type} (enc:Ε × Ω->H) (w:Α) (sp:Nat->Bool) (hd:Bool) (fuel:Nat) (cs:Γ) (x:DataW H × List MemPlace),
  DataW.trod enc P w 0 sp hd fuel t cs=some x->Small P t x.1->∃a,T.rd w o7 a cs/\ok a
def Iq(k:IntKind)(n:Int):Prop:=(Lit.int k n).wf=true
def F6{n:Int}(h:Iq .i64 n): -9223372036854775808<=n/\n<=9223372036854775807:=by
 simpa [Iq,Lit.wf,IntKind.min,IntKind.max,IntKind.signed,IntKind.bits] using h
def zA{P:Program}{t:Ε}{k:IntKind}(ht:P.underlying t=some (.int k))(hc:P.cellsOf t=1):rZ P t (p4 k) (Iq k):=
 ⟨hc,λenc w sp hd fuel cs x h _=>by
  obtain⟨n,rfl,rfl,hw⟩:=DataW.trod_int ht h;exact⟨n,rfl,hw⟩⟩
def QB{P:Program}{t:Ε}(ht:P.underlying t=some .bool)(hc:P.cellsOf t=1):rZ P t aFh (λ_=>True):=
 ⟨hc,λenc w sp hd fuel cs x h _=>by
  obtain⟨n,rfl,rfl⟩:=DataW.trod_bool ht h;exact⟨n,rfl,trivial⟩⟩
def fwz(s:Β):Prop:=s.size<=140737488351232
def YF{P:Program}{t:Ε}(ht:P.underlying t=some .string)(hc:P.cellsOf t=1):rZ P t GB fwz:=
 ⟨hc,λenc w sp hd fuel cs x h hs=>by
  obtain⟨n,rfl,rfl,hw⟩:=DataW.trod_string ht h;refine⟨n,rfl,?_⟩;simp[Small,DataW.weights,reachBytes]at hs
  exact (zzl hs:n.size<=140737488351232)⟩
def fwy{α:Type}(b:Nat)(ok:α->Prop)(xs:List α):Prop:=xs.length*b<=140737488351232/\∀x∈xs,ok x
def aIg{H:Type}{P:Program}{e:Ε}{n:Nat}:∀{l:List (DataW H)},(DataW.weightsAll P e l).all (·<=n)=true->∀d∈l,(d.weights P e).all (·<=n)=true
 | [],_,_,h=>by cases h
 | x::r,h,d,hd=>by
  simp only[DataW.weightsAll,vv7,zz9]at h;rcases zz7.1 hd with rfl|hd
  ·exact h.1
  exact aIg h.2 d hd
def TJ{α:Type}{p:Nat->α->Prop}:∀(n:Nat),(∀i,i<n->∃y,p i y)->∃ys:List α,ys.length=n/\∀i (h:i<ys.length),p i ys[i]
 | 0,_=>⟨[],rfl,λi h=>by simp at h⟩
 | n+1,h=>by
  obtain⟨ys,hl,hy⟩:=TJ n (λi hi=>h i (by omega));obtain⟨y,hy'⟩:=h n (by omega);refine⟨ys++[y],by simp[hl],λi hi=>?_⟩;by_cases iw:i<ys.length
  ·rw[wwk iw];exact hy i iw
  have:i=n:=by simp at hi;omega
  subst this;rw[ww4 (by omega)];simpa [hl] using hy'
def Mq{α:Type}{P:Program}{t e:Ε}{T:ml α}{ok:α->Prop}{b:Nat}(h:rZ P e T ok)(ht:P.underlying t=some (.slice e))(hc:P.cellsOf t=1)(hb:P.bytesOf e=b)(Cu:0<T.n):rZ P t (Jb T) (fwy b ok):=by
 refine⟨hc,λenc w sp hd fuel cs x hx hs=>?_⟩;rcases Go.Deep.open_slice ht hx with ⟨rfl,rfl⟩|⟨a,len,cap,m,n,D,Pl,rfl,_,hl,hm,A6,rfl,AZ⟩
 ·exact⟨[],⟨_,rfl,pM.nil T w o7⟩,by simp,λx hx=>by cases hx⟩
 have hle:len<=m:=by rw[A6];split<;>omega
 simp only[Small,DataW.weights,ht,hb,List.all_cons,vv7,zz9,zzx,zzs,List.length_range]at hs;have dIa:∀i,i<len->∃y:α,ok y/\∃uC,T.rd w o7 y uC/\At w o7 a.block (a.off+i*T.n) uC/\a=⟨a.block,a.off,none⟩:=λi hi=>by
  obtain⟨uC,h1,h2⟩:=AZ i (by omega);obtain⟨y,hy,eW⟩:=h.2 enc w sp hd n uC _ h2 (aIg hs.2.1 _ (zzy.2 ⟨i,by simpa using hi,rfl⟩));obtain⟨_,hlen,HI⟩:=World.cells?_some h1;have uU:a.spot=none:=by
   have h0:=HI 0 (by rw[h.1];exact Cu);rw[zzd (by rw[hlen,h.1];exact Cu)]at h0
   cases uU:a.spot with
   | none=>rfl
   | some q=>
    exfalso;by_cases A1:i*P.cellsOf e=0
    ·simp[Addr.add,A1,World.cell?,uU]at h0
     split at h0<;>cases h0
    have h00:=AZ 0 (by omega);obtain⟨cs0,AW,_⟩:=h00;obtain⟨_,dI2,dFx⟩:=World.cells?_some AW;have Hr:=dFx 0 (by rw[h.1];exact Cu);rw[zzd (by rw[dI2,h.1];exact Cu)]at Hr
    simp[Addr.add,World.cell?,uU]at Hr
    split at Hr<;>cases Hr
  obtain⟨ab,ao,asp⟩:=a;simp only at uU;subst uU;refine⟨y,eW,uC,hy,⟨λ_ x=>x,λj u hu=>?_⟩,rfl⟩;have hj:=(zzh.1 hu).1;have:=HI j (by omega);rw[yyb,yyb,hu,h.1]at this
  exact this
 obtain⟨ys,Il,hy⟩:=TJ len dIa;subst Il;refine⟨ys,⟨_,rfl,some a,cap,rfl,hl,λi hi=>?_⟩,?_,λx hx=>?_⟩
 ·obtain⟨_,uC,h1,h2,h3⟩:=hy i hi;exact⟨a.block,a.off,uC,yyu some h3,h1,h2⟩
 ·have:=hs.1;simp only[reachBytes]at this;rw[yyy]at this
  omega
 obtain⟨i,hi,rfl⟩:=yyi hx;exact (hy i hi).1
def GP{α:Type}(P:Program)(fs:List Field)(o:Nat)(T:ml α)(ok:α->Prop):Prop:=
 ∀{H:Type} (enc:Ε × Ω->H) (w:Α) (sp:Nat->Bool) (hd:Bool) (n:Nat) (cs:Γ) (xs:List (DataW H × List MemPlace)),xs.length=fs.length ->
  (∀(i:Nat) (f:Field),fs[i]?=some f->DataW.trod enc P w 0 sp hd n f.type ((cs.drop f.offset).take (P.cellsOf f.type))=xs[i]?) ->
  (DataW.weightsEach P (fs.map (·.type)) (xs.map (·.1))).all (·<=reachBytes)=true->cs.length=o+T.n->∃a,T.rd w o7 a (cs.drop o)/\ok a
def Hk(P:Program)(o:Nat):GP P [] o En (λ_=>True):=λenc w sp hd n cs xs _ _ _ hl=>⟨(),by
 show cs.drop o=[];rw[List.drop_eq_nil_iff];have:En.n=0:=rfl;omega,trivial⟩
def pd{α β:Type}{P:Program}{f:Field}{fs:List Field}{o:Nat}{S:ml α}{T:ml β}{XR:α->Prop}{XS:β->Prop}(h1:rZ P f.type S XR)(ho:f.offset=o)(h2:GP P fs (o+S.n) T XS):
  GP P (f::fs) o (oH S T) (λx=>XR x.1/\XS x.2):=λenc w sp hd n cs xs hl hx hs hc=>by
 match xs,hl with
 | y::ys,hl=>
  have Vm:(oH S T).n=S.n+T.n:=rfl;simp only[zzn,DataW.weightsEach,vv7,zz9]at hs;have e0:=hx 0 f rfl;rw[ho,h1.1]at e0
  obtain⟨a,ha,dWe⟩:=h1.2 enc w sp hd n _ y e0 hs.1;obtain⟨b,hb,dWf⟩:=h2 enc w sp hd n cs ys (by simpa using hl) (λi g hg=>by simpa using hx (i+1) g (by simpa using hg)) hs.2 (by omega);refine⟨(a,b),⟨_,_,?_,ha,hb⟩,dWe,dWf⟩;rw[<- ww0];exact (yyl _ _).symm
def yp{α:Type}{P:Program}{t:Ε}{fs:Array Field}{T:ml α}{ok:α->Prop}(ht:P.underlying t=some (.struct fs))(hc:P.cellsOf t=T.n)(h:GP P fs.toList 0 T ok):rZ P t T ok:=
 ⟨hc,λenc w sp hd fuel cs x hx hs=>by
  obtain⟨xs,n,_,rfl,hl,hlen,hf⟩:=DataW.trod_struct ht hx;simp only[Small,DataW.weights,ht]at hs;obtain⟨a,ha,eW⟩:=h enc w sp hd n cs xs (by simpa using hlen) (λi f hi=>hf i f (by simpa using hi)) hs (by omega);exact⟨a,by simpa using ha,eW⟩⟩
def yY{α β:Type}{P:Program}{t:Ε}{T:ml α}{ok:α->Prop}(f:β->α)(g:α->β)(hg:∀a,f (g a)=a)(h:rZ P t T ok):rZ P t (T.via f) (λb=>ok (f b)):=
 ⟨h.1,λenc w sp hd fuel cs x hx hs=>by
  obtain⟨a,ha,eW⟩:=h.2 enc w sp hd fuel cs x hx hs;exact⟨g a,by show T.rd w o7 (f (g a)) cs;rw[hg];exact ha,by show ok (f (g a));rw[hg];exact eW⟩⟩
def Zj{α:Type}{P:Program}{t:Ε}{T:ml α}{ok XQ:α->Prop}(h:rZ P t T ok)(hi:∀a,ok a->XQ a):rZ P t T XQ:=
 ⟨h.1,λenc w sp hd fuel cs x hx hs=>let ⟨a,ha,eW⟩:=h.2 enc w sp hd fuel cs x hx hs;⟨a,ha,hi a eW⟩⟩
def aFv{H:Type}{enc:Ε × Ω->H}{P:Program}(hl:laidOutB P=true){W W':Α}(hb:Below W.heap.size W W'):∀{ts:List Ε} {vs:Γ} {ds:List (DataW H)} {ps:List MemPlace},
  (∀t∈ts,P.readableRec t=true/\t<P.types.size)->DataW.TrodAll enc P W 0 (λ_=>true) true ts vs ds ps->(∀x∈ps,x.block<W.heap.size)->DataW.TrodAll enc P W' 0 (λb=>decide (b<W.heap.size)) true ts vs ds ps
 | [],_,_,_,_,h,_=>by
  obtain⟨rfl,rfl,rfl⟩:=trodAll_nil h;exact trodAll_mk0
 | t::ts,_,_,_,hr,h,iw=>by
  obtain⟨v,vs1,d,ds1,a,b,rfl,rfl,rfl,h1,h2⟩:=trodAll_cons h;exact⟨a,b,Below.trod hl (hr t (by simp)).1 (hr t (by simp)).2 h1 hb (λx hx=>iw x (by simp[hx])),aFv hl hb (λt ht=>hr t (by simp[ht])) h2 (λx hx=>iw x (by simp[hx])),rfl⟩
def igx{H:Type}{enc:Ε × Ω->H}{P:Program}{f:Func}{s:ChangeSpec}{tb:Ε}(hl:laidOutB P=true)(hr:∀t∈f.params.toList,P.readableRec t=true/\t<P.types.size)
  (Wj:s.vars=[]) (FU:f.resultTypes = #[tb]) (hb:P.underlying tb=some .bool) (HR:∀ds:List (DataW H),ds.length=f.params.size->(s.fn H ds).results=[.lit (.bool true)]/\(s.fn H ds).args=ds/\(s.fn H ds).vars=[])
  {W W':Α} {args:Array Ω} {ds gs:List (DataW H)} {before:List MemPlace} (hW:DataW.Whole enc P f.params.toList s.vars false W args.toList ds gs before) (Ve:Below W.heap.size W W') :
  s.post enc P f false true false false W args (.bool true) W':=by
 have iw:=hW.lt;have HB:=hW;obtain⟨p,q,hA,hV,rfl,hfz,_⟩:=hW;rw[Wj]at hV
 obtain⟨rfl,rfl⟩:=trodVars_none hV;have hlen:∀{ts:List Ε} {vs:Γ} {ds:List (DataW H)} {ps:List MemPlace} {w:Α} {base:Nat} {sp:Nat->Bool} {hd:Bool},DataW.TrodAll enc P w base sp hd ts vs ds ps->ds.length=ts.length:=by
  intro ts;induction ts with
  | nil=>intro vs ds ps w base sp hd h;obtain⟨rfl,rfl,rfl⟩:=trodAll_nil h;rfl
  | cons t ts ih=>intro vs ds ps w base sp hd h;obtain⟨v,vs1,d,ds1,a,b,rfl,rfl,rfl,_,h2⟩:=trodAll_cons h;simp[ih h2]
 obtain⟨e1,e2,e3⟩:=HR ds (by simpa using hlen hA);refine⟨ds,[],p++[],[],p,[],HB,?_,?_,?_,Ve.frame _,λh=>by cases h⟩
 ·rw[zzw,e1,FU];exact trodAll_mk1 (shut_bool hb true)
 ·rw[zzw,e2];exact aFv hl Ve hr hA (λx hx=>iw x (by simp[hx]))
 rw[zzw,e3,Wj];rfl
def WL:Option TypeDesc->Bool
 | some .bool|some (.int _)|some .string|some (.slice _)=>true
 | _=>false
def cIl{P:Program}{w:Α}{r:Reach}{b0:Nat}{t:Ε}{v:Ω}(hf:WL (P.underlying t)=true)(tz:Value.okWide P w r b0 t v):v.cells.toList=[v]:=by
 unfold Value.okWide at tz;cases hu:P.underlying t with
 | none=>rw[hu]at hf;cases hf
 | some d=>
  rw[hu]at hf tz
  cases d<;>first|(cases hf;done)|(unfold Cell.okWide Cell.ok at tz;rw[hu]at tz;cases v<;>first|rfl|(exfalso;simp_all))
def ic6{α:Type}{P:Program}{t:Ε}{T:ml α}{ok:α->Prop}{H:Type}{enc:Ε × Ω->H}{W:Α}{r:Reach}{b0:Nat}{v:Ω}{d:DataW H}{ps:List MemPlace}{sp:Nat->Bool}{hd:Bool}
  (h:rZ P t T ok) (hf:WL (P.underlying t)=true) (tz:Value.okWide P W r b0 t v) (h0:DataW.Trod enc P W 0 sp hd t v d ps) (hs:Small P t d):∃a,T.rd W o7 a [v]/\ok a:=by
 obtain⟨fuel,hx⟩:=h0;rw[cIl hf tz]at hx
 exact h.2 enc W sp hd fuel [v] _ hx hs
def ic5{α:Type}{P:Program}{t:Ε}{fs:Array Field}{T:ml α}{ok:α->Prop}{H:Type}{enc:Ε × Ω->H}{W:Α}{r:Reach}{b0:Nat}{v:Ω}{d:DataW H}{ps:List MemPlace}{sp:Nat->Bool}{hd:Bool}
  (h:rZ P t T ok) (ht:P.underlying t=some (.struct fs)) (tz:Value.okWide P W r b0 t v) (h0:DataW.Trod enc P W 0 sp hd t v d ps) (hs:Small P t d):∃a cs,v= .agg cs/\T.rd W o7 a cs.toList/\ok a:=by
 obtain⟨fuel,hx⟩:=h0;unfold Value.okWide at tz;rw[ht]at tz
 obtain⟨cs,rfl,_⟩:=tz;obtain⟨a,h1,h2⟩:=h.2 enc W sp hd fuel _ _ hx hs;exact⟨a,cs,rfl,h1,h2⟩
open Go.RowKit
def Jo(P:Program)(f:FuncId)(args:Γ)(w:Α):Prop:=zQ P f args w λv w'=>v= .bool true/\Below w.heap.size w w'
def qv{P:Program}{f:FuncId}{args:Γ}{w:Α}(h:Spec P f args [.mem (bw.of w)] λv post=>v= .bool true/\∃H l,(bw.of w).le H/\post= .mem H::l):Jo P f args w:=by
 refine (h w [] w (SL.init w)).mono ?_;rintro v w' ⟨post,⟨rfl,H,l,hH,rfl⟩,hS⟩;exact⟨rfl,hS.below (.hd) hH⟩
def Jo.calls{P:Program}{f:FuncId}{args:Γ}{w:Α}(h:Jo P f args w):Calls P f args.toArray w λe w'=>e= .returned (.bool true)/\Below w.heap.size w w':=
 Calls.mono h λe w' ⟨v,he,hv,hb⟩=>⟨by rw[he,hv],hb⟩
def pM.flat{α:Type}{T:ml α}{enc:α->Γ}{w:Α}{xs:List α}{v:Ω}(h:pM T w o7 xs v)(he:∀{M x cs},T.rd w M x cs->cs=enc x)(hn:∀x,(enc x).length=T.n):
  iD (bw.of w) T.n v xs.length (xs.map enc).flatten:=by
 obtain⟨a,cap,rfl,hc,hx⟩:=h.out;have hlen:(xs.map enc).flatten.length=xs.length*T.n:=by
  rw[Kq (n:=T.n) _ (λx hx=>by obtain⟨y,_,rfl⟩:=zzy.1 hx;exact hn y),zzs]
 refine⟨hlen,a,cap,rfl,hc,?_⟩;rcases yy8 xs.length with h0|h0
 ·exact .inl h0
 right;obtain⟨b,off,_,rfl,_,_⟩:=hx 0 h0;refine⟨b,off,rfl,λj u hu=>?_⟩;have hj:=(zzh.1 hu).1;rcases yy8 T.n with hz|hz
 ·rw[hlen,hz]at hj;omega
 have hi:j / T.n<xs.length:=by rw[hlen]at hj;exact (uun hz).2 hj
 obtain⟨b',fwq,cs,uM,hr,mh⟩:=hx (j / T.n) hi;simp at uM;obtain⟨rfl,rfl⟩:=uM;have nP:=he hr;subst nP;have Cp:j % T.n<(enc xs[j / T.n]).length:=by rw[hn];exact vvh _ hz
 have hg:=Ho (n:=T.n) (xs.map enc) (λx hx=>by obtain⟨y,_,rfl⟩:=zzy.1 hx;exact hn y) (j / T.n) (j % T.n) (by simpa using hi) ((enc xs[j / T.n])[j % T.n]'Cp) (by simp[zzd Cp]);have KX:j / T.n*T.n+j % T.n=j:=by rw[Nat.mul_comm];exact vv8 j T.n
 rw[KX]at hg
 rw[hu]at hg
 have Ly:u=(enc xs[j / T.n])[j % T.n]:=xx2 hg;have:=mh.2 (j % T.n) u (by rw[Ly];exact zzd Cp);rw[show off+j / T.n*T.n+j % T.n=off+j by omega]at this
 unfold World.cell? at this;unfold bw.cell bw.of;simp only at this ⊢;split at this
 ·rename_i c t f rj;rw[rj];simpa using this
 cases this
def Ko{α:Type}{enc:α->Γ}{n:Nat}{xs:List α}(hn:∀x,(enc x).length=n){j i:Nat}(hj:j<xs.length){u:Ω}(hu:(enc xs[j])[i]?=some u):((xs.map enc).flatten)[j*n+i]?=some u:=
 Ho (n:=n) (xs.map enc) (λx hx=>by obtain⟨y,_,rfl⟩:=zzy.1 hx;exact hn y) j i (by simpa using hj) u (by simpa using hu)
set_option maxRecDepth 100000
structure vO(X:Η)(sz:Nat)(v:Ω)(n:Nat)(cs:Γ):Prop where
 sl:∀{W w:Α} {l:Ψ},SL W l w->Has X l->∃a c,v= .slice a n c/\n<=c
 src:∀{W w:Α} {l:Ψ},SL W l w->Has X l->oZ w sz v n cs
def vO.own{v:Ω}{t:Ε}{sz n:Nat}{cs:Γ}:vO (.ob (bR v t sz n cs)) sz v n cs:=
 ⟨λh m=>by
  obtain⟨l2,r⟩:=m.rem;rcases bR.open (h.perm r.perm) with ⟨⟨a',rfl⟩,rfl,_,_⟩|⟨b',G8,rest,rfl,hc,_⟩
  ·exact⟨a',0,rfl,zzi _⟩
  exact⟨_,_,rfl,hc⟩,λh m=>sC h m⟩
def vO.pt{p n sz:Nat}{t:Ε}{cs:Γ}(h:cs.length=n*sz):vO (.pt p cs t) sz (.slice (some ⟨p,0,none⟩) n n) n cs:=
 ⟨λ_ _=>⟨_,_,rfl,zzi _⟩,λhS m=>oG hS m h⟩
section
variable {W w:Α} {l:Ψ} {X:Η} {v:Ω} {sz n:Nat} {cs:Γ}
def QO{K:Ω->Prop}(hS:SL W l w)(m:Has X l)(hb:vO X sz v n cs)(k:K (.int .i64 n)):zd v K:=by
 obtain⟨a,c,rfl,_⟩:=hb.sl hS m;exact yc k
def fWp{α:Type}{enc:α->Γ}{xs:List α}{j:Nat}{kk:IntKind}{K:Ω->Prop}(hS:SL W l w)(m:Has X l)(hb:vO X sz v n (xs.map enc).flatten)(he:∀x,(enc x).length=sz)(kV:0<sz)(hx:xs.length=n)(hj:j<n)
  (hK:K (.agg (enc (xs[j]'(by omega))).toArray)):zl sz v (.int kk (j:Int)) λp=>ze sz p w K:=by
 obtain⟨a,c,rfl,hc⟩:=hb.sl hS m;have hs:=hb.src hS m;have hlen:(xs.map enc).flatten.length=n*sz:=by
  rw[<- hx];clear hx hs hb hK hj hc;induction xs with
  | nil=>simp
  | cons x xs ih=>simp[he,ih,yyy];omega
 cases a with
 | none=>
  have e:(xs.map enc).flatten=[]:=hs.2;have e2:(enc (xs[j]'(by omega))).length=0:=by
   rw[e]at hlen
   simp only[yyo]at hlen;rw[he];rcases yy8 sz with h|h
   ·exact h
   have:0<n*sz:=Nat.mul_pos (by omega) h;omega
  rw[he]at e2;omega
 | some p=>
  refine⟨p,_,c,kk,j,rfl,rfl,hj,?_⟩;refine⟨_,enc (xs[j]'(by omega)),rfl,he _,λi u hu=>?_,hK⟩;rw[Td];refine hs.2.2 (j*sz+i) u ?_;exact Ko he (by omega) hu
end
def vK(X:Η)(l:List iL)(u:Ω)(post:Ψ):Prop:=match tj l with
 | .error e=>u= .tuple #[.slice none 0 0,.int .i64 e]/\post=[X]
 | .ok b=>∃v,u= .tuple #[v,.int .i64 0]/\post=[.ob (bR v 5 1 b.length (b.map ic)),X]
def vK.er{X:Η}{l:List iL}{e:Int}(h:tj l= .error e):vK X l (.tuple #[.slice none 0 0,.int .i64 e]) [X]:=by
 unfold vK;rw[h];exact⟨rfl,rfl⟩
def vK.ok{X:Η}{l:List iL}{b:Δ}(h:tj l= .ok b)(v:Ω):vK X l (.tuple #[v,.int .i64 0]) [.ob (bR v 5 1 b.length (b.map ic)),X]:=by
 unfold vK;rw[h];exact⟨v,rfl,rfl⟩
def b_w{x:iL}(h:tH x=true):(kq x).length<=5000:=by
 unfold kq;unfold tH at h;by_cases h1:x.kind=1
 ·rw[zzc h1];simp[pW]
 rw[zzb h1]at h ⊢
 by_cases h2:x.kind=2
 ·rw[zzc h2]at h
  have h3:x.s.size<=4096:=by
   rw[zz9]at h
   exact zzl h.2
  have:x.s.data.toList.length=x.s.size:=rfl;simp only[zzj,zza,pW];omega
 rw[zzb h2]at h;cases h
def Uu:∀{l:List iL},l.all tH=true->(l.map kq).flatten.length<=l.length*5000
 | [],_=>by simp
 | x::l,h=>by
  rw[List.all_cons,zz9]at h
  have h1:=b_w h.1;have h2:=Uu h.2;simp only[zzn,zz4,zza,zzj];omega
def yB(X:Η)(v:Ω)(xs:List iL)(hx:vO X 3 v xs.length (xs.map lq).flatten)(hN:xs.length<=140737488355328):SP 218 [v] [X] (vK X xs):=by
 refine Enzz λW F w hS=>?_;apply gWe;delta Pm aI a_ aR gi ai gI bI;refine QO hS .hd hx ?_;refine cF (λh=>?_) (λh=>?_)
 ·exact⟨_,.er (by unfold tj;rw[zzc (by omega)]),hS⟩
 refine QO hS .hd hx ?_;refine zW ?_;rw[wrap_u64 (by omega) (by omega)];have hS:=bR.nil (t:=5) (sz:=1) hS;have hS:SL W (.ob (bR (.slice none 0 0) 5 1 ([]:Δ).length (([]:Δ).map ic))::X::F) w:=hS;refine Cc (Zv [] (.slice none 0 0) xs.length 2 (by omega) (by simp)) ?_;clear hS;rintro Jf post rfl w hS;(try simp only[app]at hS);rw[zzp]at hS
 refine QO hS Xh hx ?_;have hb:∀i,i<=xs.length->(xs.take i).all tH=true->(jS xs.length 2++((xs.take i).map kq).flatten).length<=200000000:=λi hi ha=>by
  have:=Uu ha;rw[zza,pW];rw[zzf]at this
  omega
 refine⟨λvs w=>∃(i:Nat) (u:Ω),i<=xs.length/\vs=[u,.int .i64 i]/\(xs.take i).all tH=true/\SL W (.ob (bR u 5 1 (jS xs.length 2++((xs.take i).map kq).flatten).length ((jS xs.length 2++((xs.take i).map kq).flatten).map ic))::X::F) w,λvs _=>match vs with
  | [_,.int _ i]=>xs.length-i.toNat
  | _=>0,⟨0,Jf,by omega,rfl,rfl,(by simpa using hS)⟩,?_⟩
 clear hS;rintro u1 u2 w1 ⟨i,u,hi,hv,ha,hS⟩;cases hv;have hbi:=hb i hi ha;refine cF (λh=>?_) (λh=>?_)
 ·have hi:i<xs.length:=by omega
  refine fWp hS Xh hx Fa (by omega) rfl hi ?_;have LF:xs[i]∈xs:=zzg hi;have vu:xs.take (i+1)=xs.take i++[xs[i]]:=by rw[wwr];simp[hi]
  generalize xs[i]=x at *
  unfold lq;refine Gm λb w hS=>?_;refine Cc (qF x) ?_;clear hS;rintro v post ⟨rfl,rfl⟩ w hS;(try simp only[app]at hS);refine zZ ?_;cases hr:tH x with
  | false=>
   refine zq ?_;refine⟨[X],.er ?_,aW hS⟩;unfold tj;rw[zzb (by omega),zzb];intro h;have:=zz5.1 h x LF;rw[hr]at this;cases this
  | true=>
   refine zp ?_;have B9:(xs.take (i+1)).all tH=true:=by rw[vu,vv7,ha];simp[hr]
   have wg:=hb (i+1) (by omega) B9;have pz:((xs.take (i+1)).map kq).flatten=((xs.take i).map kq).flatten++kq x:=by rw[vu];simp
   rw[pz]at wg
   rw[zza,zza]at wg
   have hk:x.kind=1\/x.kind=2:=by
    unfold tH at hr;by_cases h1:x.kind=1
    ·exact .inl h1
    rw[zzb h1]at hr
    by_cases h2:x.kind=2
    ·exact .inr h2
    rw[zzb h2]at hr;cases hr
   generalize hc:jS xs.length 2++((xs.take i).map kq).flatten=c at *
   have sj:c.length+(kq x).length<=200000000:=by rw[<- hc,zza];omega
   refine Gp ?_;refine zW ?_;rw[wrap_u8];refine zL (cells:=[ic (lX x.kind)]) hS rfl ?_;clear hS;intro p w hS;refine zI (m:=1) (cs:=[ic (lX x.kind)]) hS Xr (oG hS .hd rfl) rfl rfl (by intro v hv;simp only[zz3]at hv;subst hv;rfl) (by omega) (by omega) ?_;clear hS;intro u' w hS;refine Gp ?_;have hS:SL W (.ob (bR u' 5 1 (c++[lX x.kind]).length ((c++[lX x.kind]).map ic))::.pt b [.int .i64 x.kind,.int .i64 x.n,.string x.s] 327::X::F) w:=by
    simp only[zza,zzj,yyo,zzt,zzn,yy4];exact aW hS
   refine za (λh1=>?_) (λh1=>?_)
   ·refine Gp ?_;refine zW ?_;have eu:IntKind.u64.wrap x.n=Bo x.n:=rfl;rw[eu];refine Cc (Zv (c++[lX x.kind]) u' (Bo x.n) 8 (by omega) (by simp;omega)) ?_;clear hS;rintro v36 post rfl w hS;(try simp only[app]at hS);refine Gp ?_;refine⟨⟨i+1,v36,by omega,rfl,B9,?_⟩,?_⟩
    ·have e:jS xs.length 2++((xs.take (i+1)).map kq).flatten=c++[lX x.kind]++jS (Bo x.n) 8:=by
      rw[pz,<- zzk,hc];have:kq x=lX x.kind::jS (Bo x.n) 8:=by unfold kq;rw[zzc h1]
      rw[this];simp
     rw[e];exact aW hS
    simp only[zzv];omega
   have kV:x.s.size<=4096:=by
    unfold tH at hr;rw[zzb h1,zzc (by omega),zz9]at hr
    exact zzl hr.2
   have Vw:kq x=lX x.kind::(jS x.s.size 2++x.s.data.toList):=by unfold kq;rw[zzb h1]
   refine Gn λw hS=>?_;refine zW ?_;rw[wrap_u64 (by omega) (by omega)];refine Gp ?_;refine Cc (Zv (c++[lX x.kind]) u' x.s.size 2 (by omega) (by simp;omega)) ?_;clear hS;rintro v42 post rfl w hS;(try simp only[app]at hS);refine Gp ?_;have Lv:x.s.data.toList.length=x.s.size:=rfl;have AZ:(kq x).length=1+(2+x.s.size):=by rw[Vw];simp only[zzj,zza,pW];omega
   refine zI (m:=x.s.size) (cs:=x.s.data.toList.map ic) hS Xr gie (by simp) rfl (Ay _) (by simp only[zza,zzj,yyo,pW];omega) (by simp only[zza,zzj,yyo,pW];omega) ?_;clear hS;intro v45 w hS;refine Gp ?_;refine⟨⟨i+1,v45,by omega,rfl,B9,?_⟩,?_⟩
   ·have e:jS xs.length 2++((xs.take (i+1)).map kq).flatten=(c++[lX x.kind]++jS x.s.size 2)++x.s.data.toList:=by
     rw[pz,<- zzk,hc,Vw];simp
    rw[e];generalize c++[lX x.kind]++jS x.s.size 2=A at *
    rw[zza,zzt,Lv];exact aW hS
   simp only[zzv];omega
 obtain rfl:i=xs.length:=by omega
 rw[zz1]at hS ha
 exact⟨_,.ok (by unfold tj;rw[zzb (by omega),zzc ha]) u1,hS⟩
abbrev s7:=Ω × Δ
def lN(x:s7):zB:=bR x.1 5 1 x.2.length (x.2.map ic)
def lD(es:List s7):Γ:=es.map Prod.fst
def tN(es:List s7):List (Δ):=es.map Prod.snd
def aWe(X:Η)(q:Δ)(r:Ω)(post:Ψ):Prop:=∃(u:Ω) (es:List s7),tN es=(nu q).1/\r= .tuple #[u,.int .i64 ((nu q).2:Nat)]/\post=[.ob (bR u 205 1 es.length (lD es)),.ob (zg lN es),X]
def f_m(X:Η)(v:Ω)(q:Δ)(hq:iV X v q)(hN:q.length<=10000000000):SP 322 [v] [X] (aWe X q):=by
 refine Enzz λW F w hS=>?_;apply h_n;delta RG aI ai bI;have hS:=bR.nil (t:=205) (sz:=1) (zg.nil (A:=lN) hS);refine⟨λvs w=>∃(u:Ω) (es:List s7) (at_:Nat),vs=[u,.int .i64 at_]/\at_<=q.length/\es.length*8<=at_/\tN es++(nu (q.drop at_)).1=(nu q).1/\at_+(nu (q.drop at_)).2=(nu q).2 /\
   SL W (.ob (bR u 205 1 es.length (lD es))::.ob (zg lN es)::X::F) w,λvs _=>match vs with
  | [_,.int _ i]=>q.length-i.toNat
  | _=>0,⟨_,[],0,rfl,zz8 _,zzi _,rfl,by simp,hS⟩,?_⟩
 clear hS;rintro u1 u2 w1 ⟨u,es,i,hv,hi,h8,h1,h2,hS⟩;cases hv;refine awk hS Xh hq hi ?_;intro v12 iW;refine Cc (YN X v12 (q.drop i) iW (by rw[zzq];omega)) ?_;clear hS;intro Jf post hQ w hS;unfold xI at hQ;cases ht:lY (q.drop i) with
 | error e=>
  rw[ht]at hQ
  obtain⟨rfl,rfl⟩:=hQ;(try simp only[app]at hS);refine Gp ?_
  have he:=aFm ht;rw[Gy ht]at h1 h2
  refine za (λ_=>?_) (λh=>by omega);refine⟨_,⟨u1,es,by simpa using h1,?_,rfl⟩,aW hS⟩;rw[<- h2];rfl
 | ok x=>
  obtain⟨p,n⟩:=x;rw[ht]at hQ
  obtain⟨y,rfl,rfl⟩:=hQ;(try simp only[app]at hS);refine Gp ?_
  have hl:=GD ht;rw[I6 ht]at h1 h2
  rw[zzq]at hl
  refine za (λh=>absurd rfl h) (λ_=>?_);have xq:=hS.vB .hd;obtain⟨ay,cy,ey,_⟩:=bR.at hS .hd;subst ey;refine zL (cells:=[.slice ay p.length cy]) hS rfl ?_;clear hS;intro b w hS;refine zI (m:=1) (cs:=[.slice ay p.length cy]) hS Xr (oG hS .hd rfl) rfl rfl (by intro v hv;simp only[zz3]at hv;subst hv;rfl) (by omega) (by omega) ?_;clear hS;intro u' w hS;have hS:=zg.snoc (A:=lN) (xs:=es) (x:=(.slice ay p.length cy,p)) (SL.cR hS (t:=.ob (zg lN es)::.ob (bR (.slice ay p.length cy) 5 1 p.length (p.map ic))::.ob (bR u' 205 1 (es.length+1) (lD es++[.slice ay p.length cy]))::X::F) Xi);refine Zy (a:=i) (b:=n) (by omega) ?_;refine⟨⟨u',es++[(.slice ay p.length cy,p)],i+n,rfl,by omega,by simp;omega,?_,?_,?_⟩,?_⟩
  ·rw[<- h1,<- ww0];simp[tN]
  ·rw[<- h2,<- ww0];simp only;omega
  ·rw[show (es++[((Value.slice ay p.length cy,p):s7)]).length=es.length+1 by simp,show lD (es++[((Value.slice ay p.length cy,p):s7)])=lD es++[.slice ay p.length cy] by simp[lD]];exact aW hS
  simp only[zzv];omega
def b_x{n:Nat}(h:n<=1099511627776):tj [⟨1,n,⟨#[]⟩⟩]= .ok (iT n):=by
 have e:Bo (n:Int)=(n:Int):=by unfold Bo;omega
 unfold tj;rw[zzb (by simp),zzc (by simp[tH])];show Except.ok (jS ((1:Nat):Int) 2++(kq ⟨1,n,⟨#[]⟩⟩++[]))=_;unfold kq;rw[zzc rfl,e];show Except.ok ([lX ((1:Int).fdiv (2 ^ (8*1))),lX ((1:Int).fdiv (2 ^ (8*0)))]++(lX 1::jS n 8++[]))=_;rw[zzw];rfl
def Jl(n:Int)(r:Ω)(post:Ψ):Prop:=if n<1\/1099511627776<n then r= .tuple #[.slice none 0 0,.int .i64 1]/\post=[] else ∃u,r= .tuple #[u,.int .i64 0]/\post=[.ob (bR u 5 1 (ij (iT n.toNat)).length ((ij (iT n.toNat)).map ic))]
def Y4(n:Int):SP 333 [.int .i64 n] [] (Jl n):=by
 refine Enzz λW F w hS=>?_;apply h_z;delta RT aI ai gI bI;unfold Jl;refine cF (λh=>?_) (λh=>?_)
 ·exact⟨[],by rw[zzc (.inl h)];exact⟨rfl,rfl⟩,hS⟩
 refine cF (λh2=>?_) (λh2=>?_)
 ·exact⟨[],by rw[zzc (.inr h2)];exact⟨rfl,rfl⟩,hS⟩
 obtain⟨k,rfl⟩:=xx8 (show 0<=n by omega);have hx:=b_x (n:=k) (by omega);refine yT (cells:=lq ⟨1,k,⟨#[]⟩⟩) rfl ?_;refine zL (cells:=lq ⟨1,k,⟨#[]⟩⟩) hS rfl ?_;clear hS;intro p w hS;refine Cc (yB (.pt p (lq ⟨1,k,⟨#[]⟩⟩) 327) _ [⟨1,k,⟨#[]⟩⟩] (vO.pt rfl) (by simp)) ?_;clear hS;intro v post hQ w hS;unfold vK at hQ;rw[hx]at hQ
 obtain⟨u,rfl,rfl⟩:=hQ;(try simp only[app]at hS);refine Gp ?_
 refine za (λh=>absurd rfl h) (λ_=>?_);refine Cc (Z7 (.ob (bR u 5 1 (iT k).length ((iT k).map ic))) u (iT k) iV.own (by rw[DC];omega)) ?_;clear hS;intro v post hQ w hS;unfold wN at hQ;rw[zzb (by rw[DC];omega)]at hQ
 obtain⟨y,rfl,rfl⟩:=hQ;(try simp only[app]at hS);refine Gp ?_
 refine⟨[.ob (bR y 5 1 (ij (iT k)).length ((ij (iT k)).map ic))],?_,aW hS⟩;rw[zzb (by omega)];exact⟨y,rfl,rfl⟩
abbrev Nx(rp:Nat)(lv:Ω)(n f:Int)(es:List s7):Ψ:=[.pt rp [lv,.int .i64 n,.int .i64 f] 441,.ob (bR lv 205 1 es.length (lD es)),.ob (zg lN es)]
def uO(es:List s7):Option Int:=match es with
 | []=>none
 | e::_=>tY e.2
def Yf(rp:Nat)(lv:Ω)(n f:Int)(es:List s7):SP 323 [.pointer (some ⟨rp,0,none⟩)] (Nx rp lv n f es) (e_ (.bool (uO es).isSome) (Nx rp lv n ((uO es).getD f) es)):=by
 refine Enzz λW F w hS=>?_;apply h_o;delta RH aI a_ ia b_ cW ai;refine Gp ?_;refine zt hS (t:=205) (sz:=1) (n:=es.length) (cells:=lD es) Xh ?_;refine cF (λh=>?_) (λh=>?_)
 ·have:es=[]:=zzo (by omega);subst this;exact⟨_,⟨rfl,rfl⟩,hS⟩
 obtain⟨e,es,rfl⟩:∃e mM,es=e::mM:=by
  cases es with
  | nil=>simp at h
  | cons e mM=>exact⟨e,mM,rfl⟩
 refine Gp ?_;refine yg (j:=0) hS (t:=205) (n:=(e::es).length) (cells:=lD (e::es)) Xh (by simp) (u:=e.1) rfl ?_;have hS:=zg.take (t:=0) (x:=e) (SL.cR hS (t:=.ob (zg lN (e::es))::.pt rp [lv,.int .i64 n,.int .i64 f] 441::.ob (bR lv 205 1 (e::es).length (lD (e::es)))::F) Xi) rfl;have sh:∀{w:Α} {k:Int},SL W (.ob (lN e)::.ob (zg lN ((e::es).eraseIdx 0))::.pt rp [lv,.int .i64 n,.int .i64 k] 441::.ob (bR lv 205 1 (e::es).length (lD (e::es)))::F) w ->
   SL W (.pt rp [lv,.int .i64 n,.int .i64 k] 441::.ob (bR lv 205 1 (e::es).length (lD (e::es)))::.ob (zg lN (e::es))::F) w:=λ{w k} h=>by
  have h2:SL W (.ob (zg lN (e::es))::.pt rp [lv,.int .i64 n,.int .i64 k] 441::.ob (bR lv 205 1 (e::es).length (lD (e::es)))::F) w:=zg.put h (by simp);exact SL.cR h2 Xi
 have hR:iV (.ob (lN e)) e.1 e.2:=iV.own;refine Cc (yA (.ob (lN e)) e.1 e.2 hR) ?_;clear hS;intro v post hQ w hS;unfold Bq at hQ;have hh:uO (e::es)=tY e.2:=rfl;rw[hh];unfold tY;cases hd:nL e.2 with
 | error k=>
  rw[hd]at hQ
  obtain⟨rfl,rfl⟩:=hQ;(try simp only[app]at hS);refine Gp ?_
  have hk:k≠0:=by
   intro hk;rw[J']at hd
   split at hd
   ·cases hd
   rename_i h0;cases hd;exact h0 hk
  refine za (λ_=>?_) (λh=>absurd hk h);exact⟨_,⟨rfl,rfl⟩,sh hS⟩
 | ok l=>
  rw[hd]at hQ
  obtain⟨y,rfl,rfl⟩:=hQ;(try simp only[app]at hS);refine Gp ?_
  refine za (λh=>absurd rfl h) (λ_=>?_);refine zt hS (t:=327) (sz:=3) (n:=l.length) (cells:=(l.map lq).flatten) Xh ?_;refine cF (λh1=>?_) (λh1=>?_)
  ·have:HK l=none:=by
    match l,h1 with
    | [],_=>rfl
    | [x],h1=>simp at h1
    | _::_::_,_=>rfl
   simp only[this];exact⟨_,⟨rfl,rfl⟩,sh (k:=f) (aW hS)⟩
  obtain⟨x,rfl⟩:∃x,l=[x]:=List.length_eq_one_iff.1 (by omega);have hx:HK [x]=if x.kind=1/\1<=x.n/\x.n<=1099511627776 then some x.n else none:=rfl
  simp only[hx];refine yq (j:=0) (i:=0) (x:=x) (xs:=[x]) hS (t:=327) (sz:=3) (n:=1) Xh Fa rfl (by omega) (u:=.int .i64 x.kind) rfl ?_;refine cF (λh2=>?_) (λh2=>?_)
  ·rw[zzb (by omega)];exact⟨_,⟨rfl,rfl⟩,sh (k:=f) (aW hS)⟩
  refine yq (j:=0) (i:=1) (x:=x) (xs:=[x]) hS (t:=327) (sz:=3) (n:=1) Xh Fa rfl (by omega) (u:=.int .i64 x.n) rfl ?_;refine cF (λh3=>?_) (λh3=>?_)
  ·rw[zzb (by omega)];exact⟨_,⟨rfl,rfl⟩,sh (k:=f) (aW hS)⟩
  refine yq (j:=0) (i:=1) (x:=x) (xs:=[x]) hS (t:=327) (sz:=3) (n:=1) Xh Fa rfl (by omega) (u:=.int .i64 x.n) rfl ?_;refine cF (λh4=>?_) (λh4=>?_)
  ·rw[zzb (by omega)];exact⟨_,⟨rfl,rfl⟩,sh (k:=f) (aW hS)⟩
  rw[zzc ⟨by omega,by omega,by omega⟩];refine yq (j:=0) (i:=1) (x:=x) (xs:=[x]) hS (t:=327) (sz:=3) (n:=1) Xh Fa rfl (by omega) (u:=.int .i64 x.n) rfl ?_;refine Gn λw hS=>?_;exact⟨_,⟨rfl,rfl⟩,sh (k:=x.n) (aW hS)⟩
def GV(X:Η)(q:Δ)(r:Ω)(post:Ψ):Prop:=match mF q with
 | none=>r= .tuple #[.int .i64 0,.slice none 0 0,.int .i64 0,.int .i64 3]/\post=[X]
 | some (f,l,n)=>∃(u:Ω) (es:List s7),tN es=l/\r= .tuple #[.int .i64 f,u,.int .i64 (n:Nat),.int .i64 0]/\post=[.ob (iB u 205 1 es.length (lD es)),.ob (zg lN es),X]
def fRk(es:List s7)(n:Nat):Option (Int × List (Δ) × Nat):=match es with
 | []=>none
 | e::mM=>(tY e.2).map λk=>(k,tN mM,n)
def fRn{q:Δ}{es:List s7}(he:tN es=(nu q).1):mF q=fRk es (nu q).2:=by
 unfold mF;rw[<- he];cases es with
 | nil=>rfl
 | cons e es=>rfl
def Y5(X:Η)(v:Ω)(q:Δ)(hq:iV X v q)(hN:q.length<=10000000000):SP 270 [v] [X] (GV X q):=by
 refine Enzz λW F w hS=>?_;apply g_f;delta PZ bW aR b_ gi ai bI;refine Cc (f_m X v q hq hN) ?_;clear hS;rintro r post ⟨u,es,he,rfl,rfl⟩ w hS;(try simp only[app]at hS);have xq:=hS.vB .hd;obtain⟨au,cu,eu,_⟩:=bR.at hS .hd;subst eu;refine Gp ?_;refine⟨_,rfl,zD hS ?_⟩;clear hS;intro rp w hS;have hS:SL W (.pt rp [.slice au es.length cu,.int .i64 ((nu q).2:Nat),.int .i64 0] 441::.ob (bR (.slice au es.length cu) 205 1 es.length (lD es))::.ob (zg lN es)::X::F) w:=hS;refine Cc (Yf rp (.slice au es.length cu) ((nu q).2:Nat) 0 es) ?_;clear hS;rintro v post ⟨rfl,rfl⟩ w hS;(try simp only[app]at hS);refine zZ ?_;have hr:=fRn he;cases hd:uO es with
 | none=>
  refine zq ?_;refine⟨[X],?_,aW hS⟩;unfold GV;have:mF q=none:=by
   rw[hr];cases es with
   | nil=>rfl
   | cons e es=>have hd:tY e.2=none:=hd;show (tY e.2).map _=none;rw[hd];rfl
  rw[this];exact⟨rfl,rfl⟩
 | some k=>
  refine zp ?_;cases es with
  | nil=>cases hd
  | cons e es=>
   have hd:tY e.2=some k:=hd;have hr:mF q=some (k,tN es,(nu q).2):=by
    rw[hr];show (tY e.2).map _=_;rw[hd];rfl
   rw[show (uO (e::es)).getD 0=k by show (tY e.2).getD 0=k;rw[hd];rfl]at hS
   refine Gn λw hS=>?_;have hS:=zg.take (t:=0) (x:=e) (SL.cR hS (t:=.ob (zg lN (e::es))::.pt rp [.slice au (e::es).length cu,.int .i64 ((nu q).2:Nat),.int .i64 k] 441::.ob (bR (.slice au (e::es).length cu) 205 1 (e::es).length (lD (e::es)))::X::F) Xi) rfl;have hS:=iB.of (SL.cR hS (t:=.ob (bR (.slice au (e::es).length cu) 205 1 (e::es).length (lD (e::es)))::.pt rp [.slice au (e::es).length cu,.int .i64 ((nu q).2:Nat),.int .i64 k] 441::.ob (zg lN ((e::es).eraseIdx 0))::X::F) Xi);refine Yc (k:=1) hS (by simp) ?_;clear hS;intro y hS;have e1:(e::es).length-1=es.length:=by simp
   have e2:(lD (e::es)).drop (1*1)=lD es:=rfl;have e3:(e::es).eraseIdx 0=es:=rfl;rw[e1,e2,e3]at hS
   refine Gp ?_;refine⟨[.ob (iB y 205 1 es.length (lD es)),.ob (zg lN es),X],?_,aW hS⟩;unfold GV;rw[hr];exact⟨y,es,rfl,rfl,rfl⟩
section
variable {W w:Α} {l:Ψ} {X:Η} {v:Ω} {sz n:Nat}
end
abbrev oK(u:Ω)(L:List iL):Η:=.ob (bR u 327 3 L.length (L.map lq).flatten)
def cF5(L:List iL):∀v∈(L.map lq).flatten,v.oneCell'=true:=xC Ut L
def ya{W w:Α}{l F:Ψ}{x y:Ω}{L M:List iL}{K:Ω->Α->Prop}(hS:SL W l w)(hr:lg (oK x L) l F)(mr:oZ w 3 y M.length (M.map lq).flatten)(hb:L.length+M.length<=1000000)
  (h:∀v' w',SL W (oK v' (L++M)::F) w'->K v' w'):zx 3 32 [.int .i64 0,.int .i64 0,.string ⟨#[]⟩] 327 x y w K:=
 zI hS hr mr (tR Ki M) rfl (cF5 M) (by omega) (by omega) λv' w' hS=>h v' w' (by
  have e:((L++M).map lq).flatten=(L.map lq).flatten++(M.map lq).flatten:=by simp
  show SL W (.ob (bR v' 327 3 (L++M).length ((L++M).map lq).flatten)::F) w';rw[e,zza];exact hS)
def I_{W w:Α}{l:Ψ}{b:Nat}{x:iL}(hS:SL W l w)(m:Has (.pt b (lq x) 327) l):oZ w 3 (.slice (some ⟨b,0,none⟩) 1 1) [x].length ([x].map lq).flatten:=by
 simpa using oG (m:=1) (sz:=3) (cap:=1) hS m rfl
section
variable (b:Nat) (x1 x2 x3 x4 x5 x6 x7:Int) (t:Ε)
def It:SP 215 [.slice (some ⟨b,0,none⟩) 1 1] [.pt b [.int .i64 x1] t] (λu post=>post=[oK u [iF x1]]):=yG b [x1] t (by simp)
def WJ:SP 215 [.slice (some ⟨b,0,none⟩) 2 2] [.pt b [.int .i64 x1,.int .i64 x2] t] (λu post=>post=[oK u [iF x1,iF x2]]):=yG b [x1,x2] t (by simp)
def WK:SP 215 [.slice (some ⟨b,0,none⟩) 4 4] [.pt b [.int .i64 x1,.int .i64 x2,.int .i64 x3,.int .i64 x4] t] (λu post=>post=[oK u [iF x1,iF x2,iF x3,iF x4]]):=yG b [x1,x2,x3,x4] t (by simp)
def eFs:SP 215 [.slice (some ⟨b,0,none⟩) 7 7] [.pt b [.int .i64 x1,.int .i64 x2,.int .i64 x3,.int .i64 x4,.int .i64 x5,.int .i64 x6,.int .i64 x7] t] (λu post=>post=[oK u [iF x1,iF x2,iF x3,iF x4,iF x5,iF x6,iF x7]]):=yG b [x1,x2,x3,x4,x5,x6,x7] t (by simp)
end
def EA(H:bw)(t:eF)(u:Ω)(post:Ψ):Prop:=match xS t with
 | .error e=>u= .tuple #[.slice none 0 0,.int .i64 e]/\post=[.mem H]
 | .ok b=>∃v,u= .tuple #[v,.int .i64 0]/\post=[.ob (bR v 5 1 b.length (b.map ic)),.mem H]
def uF(t:eF)(i:Nat):List iL:=[iF t.aw,iF t.ops.length]++((t.ops.take i).map uI).flatten
def vl(t:eF)(i:Nat):List iL:=uF t t.ops.length++[iF t.notes.length]++((t.notes.take i).map uH).flatten
def cFv{t:eF}{i:Nat}(h:i<t.ops.length):uF t (i+1)=uF t i++uI t.ops[i]:=by
 unfold uF;rw[zze h,zzt,yys,xx4,wwv,zzk]
def cFy{t:eF}{i:Nat}(h:i<t.notes.length):vl t (i+1)=vl t i++uH t.notes[i]:=by
 unfold vl;rw[zze h,zzt,yys,xx4,wwv,<- zzk]
def cFw(t:eF):vl t t.notes.length=px t:=by
 unfold vl uF px;simp
def Fg{α β:Type}{f:α->List β}{n:Nat}(hn:∀x,(f x).length=n)(xs:List α):((xs.map f).flatten).length=xs.length*n:=by
 induction xs with
 | nil=>simp
 | cons x xs ih=>simp[hn,ih,yyy];omega
def UC(t:eF)(i:Nat):(uF t i).length<=2+5*i:=by
 unfold uF;rw[zza,Fg (n:=5) (λ_=>rfl),zzf];simp;omega
def cFx(t:eF)(i:Nat):(vl t i).length<=3+5*t.ops.length+7*i:=by
 have:=UC t t.ops.length;unfold vl;rw[zza,zza,Fg (n:=7) (λ_=>rfl),zzf];simp;omega
def YH(H:bw)(x:mA)(t:eF)(hx:ma H x t):SP 227 [agg (jP x)] [.mem H] (EA H t):=by
 refine Enzz λW F w hS=>?_;apply gWn;delta Pv aI a_ aR gi ai gI bI;refine zw hS λxb w hS=>?_;refine Gp ?_;refine Cg (zY H x t hx) λw hS=>?_;refine zu (λh=>?_) (λhm=>?_)
 ·exact⟨[.mem H],by unfold EA xS;rw[h];exact⟨rfl,rfl⟩,aW hS⟩
 have hb:=(tC.1 hm).1;unfold jP at hS;rw[hx.aw]at hS
 refine Gp ?_;refine zo hx.ops ?_;refine Gm λb w hS=>?_;refine Cc (WJ b t.aw t.ops.length 2) ?_;clear hS;rintro u post rfl w hS;(try simp only[app]at hS);refine Gp ?_
 refine zo hx.ops ?_;have hS:SL W (oK u (uF t 0)::_) _:=hS;refine⟨λvs w=>∃(i:Nat) (u:Ω),vs=[u,.int .i64 i]/\i<=t.ops.length/\SL W (oK u (uF t i)::.pt xb [.int .i64 t.aw,x.ov,x.nv] 214::.mem H::F) w,
  λvs _=>match vs with|[_,.int _ i]=>(t.ops.length-i).toNat|_=>0,⟨0,_,rfl,by omega,aW hS⟩,?_⟩
 clear hS;rintro u v3 w ⟨i,_,jR,hi,hS⟩;cases jR;have wa:=UC t i;refine cF (λh=>?_) (λh=>?_)
 ·have d_:i<t.ops.length:=by omega
  have hs:=cFv d_;refine zE hS Xh BV hx.ops (x:=t.ops[i]) (by simp[d_]) d_ ?_;generalize t.ops[i]=o at *
  obtain⟨ol,ot,ok,og,ov⟩:=o;refine Gm λb w hS=>?_;unfold nN at hS;refine Cg (Zx og) λw hS=>?_;refine Gm λb w hS=>?_;refine Cc (WK b ol ot ok (l4 og) 2) ?_;clear hS;rintro u2 post rfl w hS;try simp only[app]at hS
  refine ya (L:=uF t i) hS Xr (sC hS Xh) (by simp;omega) λu3 w hS=>?_;refine Gp ?_;refine Cg (yN ov) λw hS=>?_;refine Gm λb w hS=>?_;refine ya (M:=[tF ov]) hS Xr (I_ hS Xh) (by simp;omega) λu4 w hS=>?_;refine Gp ?_;refine⟨⟨i+1,_,rfl,by omega,?_⟩,by dsimp only;omega⟩;rw[hs];simp only[zzk]at hS;have hS:SL W (oK _ (uF t i++uI ⟨ol,ot,ok,og,ov⟩)::_) _:=hS;exact aW hS
 have nX:i=t.ops.length:=by omega
 subst nX;refine Gp ?_;refine zo hx.mO ?_;refine Gm λb w hS=>?_;refine Cc (It b t.notes.length 2) ?_;clear hS;rintro u2 post rfl w hS;try simp only[app]at hS
 refine ya (L:=uF t t.ops.length) hS Xr (sC hS Xh) (by simp;omega) λu3 w hS=>?_;refine Gp ?_;refine zo hx.mO ?_;refine⟨λvs w=>∃(i:Nat) (u:Ω),vs=[u,.int .i64 i]/\i<=t.notes.length/\SL W (oK u (vl t i)::.pt xb [.int .i64 t.aw,x.ov,x.nv] 214::.mem H::F) w,
  λvs _=>match vs with|[_,.int _ i]=>(t.notes.length-i).toNat|_=>0,⟨0,u3,rfl,by omega,?_⟩,?_⟩
 ·rw[show vl t 0=uF t t.ops.length++[iF t.notes.length] by unfold vl;simp];exact aW hS
 clear hS;rintro u v3 w ⟨i,_,jR,hi,hS⟩;cases jR;have Hy:=cFx t i;refine cF (λh=>?_) (λh=>?_)
 ·have d_:i<t.notes.length:=by omega
  have hs:=cFy d_;refine zE hS Xh BT hx.mO (x:=t.notes[i]) (by simp[d_]) d_ ?_;generalize t.notes[i]=o at *
  obtain⟨n1,n2,n3,n4,n5,n6,n7⟩:=o;refine Gm λb w hS=>?_;unfold pc at hS;refine Cg (Zx n7) λw hS=>?_;refine Gm λb w hS=>?_;refine Cc (eFs b n1 n2 n3 n4 n5 n6 (l4 n7) 2) ?_;clear hS;rintro u2 post rfl w hS;try simp only[app]at hS
  refine ya (L:=vl t i) hS Xr (sC hS Xh) (by simp;omega) λu3 w hS=>?_;refine Gp ?_;refine⟨⟨i+1,_,rfl,by omega,?_⟩,by dsimp only;omega⟩;rw[hs];have hS:SL W (oK _ (vl t i++uH ⟨n1,n2,n3,n4,n5,n6,n7⟩)::_) _:=hS;exact aW hS
 have nX:i=t.notes.length:=by omega
 subst nX;rw[cFw]at hS Hy
 refine Cc (yB (oK u (px t)) u (px t) vO.own (by omega)) ?_;clear hS;rintro r post hq w hS;try simp only[app]at hS
 unfold vK at hq;unfold EA xS;rw[hm,zzc rfl];cases he:tj (px t) with
 | error e=>
  rw[he]at hq
  obtain⟨rfl,rfl⟩:=hq;(try simp only[app]at hS);refine Gp ?_
  exact dW hS
 | ok bs=>
  rw[he]at hq
  obtain⟨v,rfl,rfl⟩:=hq;(try simp only[app]at hS);refine Gp ?_
  exact⟨_,⟨v,rfl,rfl⟩,aW hS⟩
section
variable (a b c d e f g:iL)
end
def uG(c:jB):List iL:=[iF c.table,iF c.key,iF (l4 c.gone),tF c.val]
section
variable {α β γ:Type}
def xE(p:ig->α × ig)(f:α->ig->β × ig)(r:ig):(α × β) × ig:=(((p r).1,(f (p r).1 (p r).2).1),(f (p r).1 (p r).2).2)
def CM(g:α->β)(p:ig->α × ig)(r:ig):β × ig:=(g (p r).1,(p r).2)
end
def Ej{m:Int}(hm:0<=m)(r:ig):0<=(iJ m r).1/\(iJ m r).1<=m:=by
 unfold iJ;split
 ·exact⟨yyc _,hm⟩
 omega
def eWt{α:Type}(one:ig->α × ig){i:Nat}{r:ig}(h:i=0\/r.bad=true):mU one i r=([],r):=by
 cases i with
 | zero=>rfl
 | succ i=>unfold mU;rw[zzc (by rcases h with h|h;cases h;exact h)]
def eWs{α:Type}(one:ig->α × ig){i:Nat}{r:ig}(h:r.bad=false):mU one (i+1) r=((one r).1::(mU one i (one r).2).1,(mU one i (one r).2).2):=by
 conv=>lhs;unfold mU
 rw[zzb (by rw[h];decide)]
structure ur{α:Type}(one:ig->α × ig)(n:Nat)(r0:ig)(xs:List α)(k:Nat)(r:ig):Prop where
 eq:mU one n r0=(xs++(mU one k r).1,(mU one k r).2)
 le:xs.length+k<=n
def ur.start{α:Type}(one:ig->α × ig)(n:Nat)(r:ig):ur one n r [] n r:=⟨rfl,by simp⟩
def ur.step{α:Type}{one:ig->α × ig}{n:Nat}{r0:ig}{xs:List α}{k:Nat}{r:ig}(h:ur one n r0 xs (k+1) r)(hb:r.bad=false):ur one n r0 (xs++[(one r).1]) k (one r).2:=
 ⟨by rw[h.eq,eWs one hb];simp,by have:=h.le;rw[zza,zz6];omega⟩
def ur.stop{α:Type}{one:ig->α × ig}{n:Nat}{r0:ig}{xs:List α}{k:Nat}{r:ig}(h:ur one n r0 xs k r)(hb:k=0\/r.bad=true):mU one n r0=(xs,r):=by
 rw[h.eq,eWt one hb,zzw]
def fFy(rp:Nat)(r:ig):SP 273 [.pointer (some ⟨rp,0,none⟩)] [.ob (j9 rp r)] (e_ (agg (nN (s4 r).1)) [.ob (j9 rp (s4 r).2)]):=by
 refine Enzz λW F w hS=>?_;apply g_i;delta P2 ai gI;refine Gm λb w hS=>?_;refine Cg (zP rp r) λw hS=>?_;refine Cg (zy rp (kr r).2 8) λw hS=>?_;refine Cg (zP rp _) λw hS=>?_;refine Cg (y9 rp _) λw hS=>?_;refine Cg (yC rp _) λw hS=>?_;simp only[s4];exact dW hS
def QG(rp:Nat)(r:ig):SP 274 [.pointer (some ⟨rp,0,none⟩)] [.ob (j9 rp r)] (e_ (agg (pc (uf r).1)) [.ob (j9 rp (uf r).2)]):=by
 refine Enzz λW F w hS=>?_;apply g_j;delta P3 ai;refine Gm λb w hS=>?_;refine Cg (zy rp r 2) λw hS=>?_;refine Cg (zy rp _ 64) λw hS=>?_;refine Cg (zy rp _ 8) λw hS=>?_;refine Cg (zy rp _ 8) λw hS=>?_;refine Cg (zP rp _) λw hS=>?_;refine Cg (zP rp _) λw hS=>?_;refine Cg (y9 rp _) λw hS=>?_;simp only[uf];exact dW hS
def Bp(X:Η)(H:bw)(b:Δ)(u:Ω)(post:Ψ):Prop:=match sQ b with
 | .error e=>e≠0/\∃H',H.le H'/\u= .tuple #[agg (jP ⟨0,.slice none 0 0,.slice none 0 0⟩),.int .i64 e]/\post=[X,.mem H']
 | .ok t=>∃x H',H.le H'/\u= .tuple #[agg (jP x),.int .i64 0]/\ma H' x t/\post=[X,.mem H']
def bRh{b:Δ}{e:Int}(h:nL b= .error e):sQ b= .error e:=by unfold sQ;rw[h]
def bRj{b:Δ}{l:List iL}(h:nL b= .ok l)(h2:¬((sZ ⟨l,false⟩).2.bad=false/\(sZ ⟨l,false⟩).2.l=[]/\jE (sZ ⟨l,false⟩).1=true)):sQ b= .error 3:=by
 unfold sQ Dg;rw[h];simp only;rw[zzb h2]
def bRi{b:Δ}{l:List iL}(h:nL b= .ok l)(h2:(sZ ⟨l,false⟩).2.bad=false/\(sZ ⟨l,false⟩).2.l=[]/\jE (sZ ⟨l,false⟩).1=true):sQ b= .ok (sZ ⟨l,false⟩).1:=by
 unfold sQ Dg;rw[h];simp only;rw[zzc h2]
def J_{b:Δ}{e:Int}(h:nL b= .error e):e≠0:=by
 rw[J']at h
 split at h
 ·cases h
 rename_i h2;cases h;exact h2
abbrev sK(v:Ω)(l:List lA):Η:=.ob (bR v 390 5 l.length (l.map nN).flatten)
abbrev sJ(v:Ω)(l:List mn):Η:=.ob (bR v 393 7 l.length (l.map pc).flatten)
structure Jn(l:List iL)(aw:Int)(r1:ig):Prop where
 aw:(sZ ⟨l,false⟩).1.aw=aw
 ops:(sZ ⟨l,false⟩).1.ops=(mU s4 (iJ 4096 r1).1.toNat (iJ 4096 r1).2).1
 mO:∀r2,(mU s4 (iJ 4096 r1).1.toNat (iJ 4096 r1).2).2=r2->(sZ ⟨l,false⟩).1.notes=(mU uf (iJ 256 r2).1.toNat (iJ 256 r2).2).1/\(sZ ⟨l,false⟩).2=(mU uf (iJ 256 r2).1.toNat (iJ 256 r2).2).2
def Jn.is(l:List iL):Jn l (kr ⟨l,false⟩).1 (kr ⟨l,false⟩).2:=⟨rfl,rfl,λr2 h=>by subst h;exact⟨rfl,rfl⟩⟩
def YG(X:Η)(H:bw)(v:Ω)(bs:Δ)(hv:iV X v bs):SP 201 [v] [X,.mem H] (Bp X H bs):=by
 refine Enzz λW F w hS=>?_;apply gRx;delta O5 aI aR gi ai gI bI;refine Gb λzb w hS=>?_;refine Cc (yA X v bs hv) ?_;clear hS;rintro r post hq w hS;unfold Bq at hq;cases hd:nL bs with
 | error e=>
  rw[hd]at hq
  obtain⟨rfl,rfl⟩:=hq;have he:=J_ hd;(try simp only[app]at hS);refine Gp ?_
  refine za (λ_=>?_) (λh=>absurd he h);refine Gn λw hS=>?_;exact⟨[X,.mem H],by unfold Bp;rw[bRh hd];exact⟨he,H,bw.le_refl H,rfl,rfl⟩,aW hS⟩
 | ok l=>
  rw[hd]at hq
  obtain⟨lv,rfl,rfl⟩:=hq;(try simp only[app]at hS);refine Gp ?_
  refine za (λh=>absurd rfl h) (λ_=>?_);refine Cc (Za lv l) ?_;clear hS;rintro _ post ⟨rp,rfl,rfl⟩ w hS;try simp only[app]at hS
  refine Cc (zP rp ⟨l,false⟩) ?_;clear hS;rintro v1 post ⟨rfl,rfl⟩ w hS;try simp only[app]at hS
  have hI:=Jn.is l;generalize (kr ⟨l,false⟩).1=aw at *
  generalize (kr ⟨l,false⟩).2=r1 at *
  have su:=Ej (m:=4096) (by decide) r1;refine Gp ?_;refine Gb λxb w hS=>?_;have hS:SL W (sK (.slice none 0 0) []::_) _:=bR.nil hS;have hS:SL W (sJ (.slice none 0 0) []::_) _:=bR.nil hS;refine⟨λus w=>us=[]/\∃ov,SL W (sK ov (mU s4 (iJ 4096 r1).1.toNat (iJ 4096 r1).2).1::.ob (j9 rp (mU s4 (iJ 4096 r1).1.toNat (iJ 4096 r1).2).2)::sJ (.slice none 0 0) []::.pt xb [.int .i64 aw,ov,.slice none 0 0] 214::.pt zb [.int .i64 0,.slice none 0 0,.slice none 0 0] 214::X::.mem H::F) w,?_,?_⟩
  ·refine Cc (zy rp r1 4096) ?_;clear hS;rintro v1 post ⟨rfl,rfl⟩ w hS;try simp only[app]at hS
   generalize (iJ 4096 r1).1=n1 at *
   generalize (iJ 4096 r1).2=r2 at *
   refine⟨λus w=>∃(k:Nat) (ops:List lA) (r:ig) (ov:Ω),us=[.int .i64 k]/\ur s4 n1.toNat r2 ops k r/\SL W (sK ov ops::.ob (j9 rp r)::sJ (.slice none 0 0) []::.pt xb [.int .i64 aw,ov,.slice none 0 0] 214::.pt zb [.int .i64 0,.slice none 0 0,.slice none 0 0] 214::X::.mem H::F) w,
    λus _=>match us with|[.int _ i]=>i.toNat|_=>0,⟨n1.toNat,[],r2,.slice none 0 0,by rw[show ((n1.toNat:Nat):Int)=n1 by omega],ur.start _ _ _,aW hS⟩,?_⟩
   clear hS;rintro v8 w ⟨k,ops,r,ov,gW,hM,hS⟩;cases gW;have hle:=hM.le;refine cF (λh=>?_) (λh=>?_)
   ·refine Cg (y7 rp r) λw hS=>?_;refine zu (λhb=>?_) (λhb=>?_)
    ·obtain⟨k,rfl⟩:∃j,k=j+1:=⟨k-1,by omega⟩;have hM:=hM.step hb;refine Gn λw hS=>?_;refine Cg (fFy rp r) λw hS=>?_;refine Gm λb w hS=>?_;refine yu (n:=ops.length) (xs:=ops) (y:=(s4 r).1) (enc:=nN) hS Xr Xh BV (λx=>E8 x) rfl (by omega) (by omega) λu w hS=>?_;have h1:=bR.one hS;refine Gn λw hS=>?_;refine⟨⟨k,_,_,u,by rw[show ((k+1:Nat):Int)-1=(k:Int) by omega],hM,?_⟩,by dsimp only;omega⟩;have hS:=hS.u7 (x:=(s4 r).1);exact aW hS
    refine⟨rfl,ov,?_⟩;rw[hM.stop (.inr hb)];exact aW hS
   refine⟨rfl,ov,?_⟩;rw[hM.stop (.inl (by omega))];exact aW hS
  clear hS;rintro w ⟨_,ov,hS⟩;have iY:=hI.ops;obtain⟨dWc,iP⟩:=hI.mO _ rfl;generalize (mU s4 (iJ 4096 r1).1.toNat (iJ 4096 r1).2).1=ops at *
  generalize (mU s4 (iJ 4096 r1).1.toNat (iJ 4096 r1).2).2=r3 at *
  have Cq:=Ej (m:=256) (by decide) r3;refine⟨λus w=>us=[]/\∃nv,SL W (sJ nv (mU uf (iJ 256 r3).1.toNat (iJ 256 r3).2).1::.ob (j9 rp (mU uf (iJ 256 r3).1.toNat (iJ 256 r3).2).2)::sK ov ops::.pt xb [.int .i64 aw,ov,nv] 214::.pt zb [.int .i64 0,.slice none 0 0,.slice none 0 0] 214::X::.mem H::F) w,?_,?_⟩
  ·refine Cc (zy rp r3 256) ?_;clear hS;rintro v1 post ⟨rfl,rfl⟩ w hS;try simp only[app]at hS
   generalize (iJ 256 r3).1=n1 at *
   generalize (iJ 256 r3).2=r2 at *
   refine⟨λus w=>∃(k:Nat) (mO:List mn) (r:ig) (nv:Ω),us=[.int .i64 k]/\ur uf n1.toNat r2 mO k r/\SL W (sJ nv mO::.ob (j9 rp r)::sK ov ops::.pt xb [.int .i64 aw,ov,nv] 214::.pt zb [.int .i64 0,.slice none 0 0,.slice none 0 0] 214::X::.mem H::F) w,
    λus _=>match us with|[.int _ i]=>i.toNat|_=>0,⟨n1.toNat,[],r2,.slice none 0 0,by rw[show ((n1.toNat:Nat):Int)=n1 by omega],ur.start _ _ _,aW hS⟩,?_⟩
   clear hS;rintro v8 w ⟨k,mO,r,nv,gW,hM,hS⟩;cases gW;have hle:=hM.le;refine cF (λh=>?_) (λh=>?_)
   ·refine Cg (y7 rp r) λw hS=>?_;refine zu (λhb=>?_) (λhb=>?_)
    ·obtain⟨k,rfl⟩:∃j,k=j+1:=⟨k-1,by omega⟩;have hM:=hM.step hb;refine Gn λw hS=>?_;refine Cg (QG rp r) λw hS=>?_;refine Gm λb w hS=>?_;refine yu (n:=mO.length) (xs:=mO) (y:=(uf r).1) (enc:=pc) hS Xr Xh BT Kf rfl (by omega) (by omega) λu w hS=>?_;have h1:=bR.one hS;refine Gn λw hS=>?_;refine⟨⟨k,_,_,u,by rw[show ((k+1:Nat):Int)-1=(k:Int) by omega],hM,?_⟩,by dsimp only;omega⟩;have hS:=hS.u7 (x:=(uf r).1);exact aW hS
    refine⟨rfl,nv,?_⟩;rw[hM.stop (.inr hb)];exact aW hS
   refine⟨rfl,nv,?_⟩;rw[hM.stop (.inl (by omega))];exact aW hS
  clear hS;rintro w ⟨_,nv,hS⟩;rw[<- dWc,<- iP,<- iY]at hS
  have oT:=hI.aw;generalize ht:(sZ ⟨l,false⟩).1=t at *
  generalize hr:(sZ ⟨l,false⟩).2=r at *
  obtain⟨H1,iA,hO,hS⟩:=bR.freeze (SL.cR hS (t:=.mem H::sK ov t.ops::sJ nv t.notes::.ob (j9 rp r)::.pt xb [.int .i64 aw,ov,nv] 214::.pt zb [.int .i64 0,.slice none 0 0,.slice none 0 0] 214::X::F) Xi);obtain⟨H2,iW,hN,hS⟩:=bR.freeze hS;have hx:ma H2 ⟨aw,ov,nv⟩ t:=⟨oT.symm,hO.mono iW,hN⟩;have kG:=bw.le_trans iA iW;refine Cg (y6 rp r) λw hS=>?_;have ko:¬(r.bad=false/\r.l=[]/\jE t=true)->∀{w:Α},SL W (X::.mem H2::F) w->∃post,Bp X H bs (.tuple #[agg (jP ⟨0,.slice none 0 0,.slice none 0 0⟩),.int .i64 3]) post/\SL W (app post F) w:=λh w hS=>⟨[X,.mem H2],by unfold Bp;rw[bRj hd (by rw[ht,hr];exact h)];exact⟨by decide,H2,kG,rfl,rfl⟩,hS⟩;refine zu (λhb=>?_) (λhb=>?_)
  ·have hb:=yyz hb;refine Gn λw hS=>?_;exact ko (λh=>hb ⟨h.1,h.2.1⟩) (aW hS)
  have hb:=zzl hb;refine Gp ?_;refine Cg (zY H2 ⟨aw,ov,nv⟩ t hx) λw hS=>?_;refine zu (λhm=>?_) (λhm=>?_)
  ·refine Gn λw hS=>?_;exact ko (λh=>by rw[h.2.2]at hm;cases hm) (aW hS)
  have h1:=rK hx;refine zC hS Xh rfl ?_;refine zr hS Xu rfl rfl h1 λw hS=>?_;refine Gp ?_;exact⟨[X,.mem H2],by unfold Bp;rw[bRi hd (by rw[ht,hr];exact⟨hb.1,hb.2,hm⟩),ht];exact⟨⟨aw,ov,nv⟩,H2,kG,rfl,hx,rfl⟩,aW hS⟩
def nG(x:Nat × List Cell):zB:=nT λm:List (Int × Cell)=>zG (p8 m x.2) [.ob (jH KI uA x.1 m)]
def nG.iff{W w:Α}{x:Nat × List Cell}{l:Ψ}:SL W (.ob (nG x)::l) w↔∃m,p8 m x.2/\SL W (.ob (jH KI uA x.1 m)::l) w:=by
 unfold nG;simp only[SL.ex,SL.fact,zzu,zzp]
abbrev oW(b:Nat):Ω:=.map (some b)
def lF(r:Nat)(ts:List (List Cell)):zB:=nT λx:Nat × Nat × Γ × Φ=>zG (x.2.2.2.length=ts.length/\ts.length<=8/\wD ts)
 [.pt r [.slice (some ⟨x.1,0,none⟩) ts.length x.2.1] 148,.pt x.1 (x.2.2.2.map oW++x.2.2.1) 153,.ob (zg nG (x.2.2.2.zip ts))]
def lF.iff{W w:Α}{r:Nat}{ts:List (List Cell)}{l:Ψ}:SL W (.ob (lF r ts)::l) w↔∃(bv cap:Nat) (rest:Γ) (bs:Φ),(bs.length=ts.length/\ts.length<=8/\wD ts) /\
  SL W (.pt r [.slice (some ⟨bv,0,none⟩) ts.length cap] 148::.pt bv (bs.map oW++rest) 153::.ob (zg nG (bs.zip ts))::l) w:=by
 unfold lF;simp only[SL.ex,SL.fact,zzu,zzp];constructor
 ·rintro ⟨⟨bv,cap,rest,bs⟩,h1,h2⟩;exact⟨bv,cap,rest,bs,h1,h2⟩
 rintro ⟨bv,cap,rest,bs,h1,h2⟩;exact⟨⟨bv,cap,rest,bs⟩,h1,h2⟩
def aIm:∀(bs:Φ) (ts:List (List Cell)) (t:Nat) (b:Nat) (C:List Cell),bs[t]?=some b->(bs.zip ts).set t (b,C)=bs.zip (ts.set t C)
 | [],ts,t,b,C,h=>by simp at h
 | x::bs,[],t,b,C,h=>by simp
 | x::bs,y::ts,0,b,C,h=>by simp at h;subst h;simp
 | x::bs,y::ts,t+1,b,C,h=>by simp;exact aIm bs ts t b C (by simpa using h)
def C8.open{W w:Α}{bs:Φ}{ts:List (List Cell)}{l:Ψ}{t:Nat}(ht:t<ts.length)(hb:t<bs.length)(h:SL W (.ob (zg nG (bs.zip ts))::l) w):
  ∃m,p8 m ts[t]/\SL W (.ob (jH KI uA bs[t] m)::.ob (zg nG ((bs.zip ts).eraseIdx t))::l) w:=
 nG.iff.1 (zg.take h (x:=(bs[t],ts[t])) (by simp[List.getElem?_zip_eq_some,hb,ht]))
def C8.close{W w:Α}{bs:Φ}{ts:List (List Cell)}{l:Ψ}{t:Nat}{C:List Cell}{m:List (Int × Cell)}(ht:t<ts.length)(hb:t<bs.length)(hm:p8 m C)
  (h:SL W (.ob (jH KI uA bs[t] m)::.ob (zg nG ((bs.zip ts).eraseIdx t))::l) w):SL W (.ob (zg nG (bs.zip (ts.set t C)))::l) w:=by
 have h1:SL W (.ob (nG (bs[t],C))::.ob (zg nG ((bs.zip ts).eraseIdx t))::l) w:=nG.iff.2 ⟨m,hm,h⟩;have h2:=zg.put h1 (by simp;omega)
 rwa [aIm bs ts t bs[t] C (by simp[hb])]at h2
def qn(a:Option Addr)(n cap:Nat)(t:Int):SP 81 [.slice a n cap,.int .i64 t] [] (e_ (.bool (decide (0<=t/\t<n))) []):=by
 refine Enzz λW F w hS=>?_;apply ibs;delta SX aI cW ai;refine cF (λh=>?_) (λh=>?_)
 ·refine Gp ?_;have:(decide (t<(n:Int)))=decide (0<=t/\t<n):=by simp[h]
  rw[this];(exact dW hS)
 have:(decide (0<=t/\t<(n:Int)))=false:=by simp;omega
 rw[this];(exact dW hS)
def Qr(bv cap:Nat)(rest:Γ)(bs:Φ)(ts:List (List Cell))(o:lA)(hb:bs.length=ts.length):
  SP 329 [.slice (some ⟨bv,0,none⟩) ts.length cap,agg (nN o)] [.pt bv (bs.map oW++rest) 153,.ob (zg nG (bs.zip ts))]
   (e_ (.bool (pY ts o).2) [.pt bv (bs.map oW++rest) 153,.ob (zg nG (bs.zip (pY ts o).1))]):=by
 refine Enzz λW F w hS=>?_;apply h_u;delta RN aI a_ aR gi cW ai gI;obtain⟨aw,table,key,gone,val⟩:=o;refine⟨_,rfl,zD hS ?_⟩;clear hS;intro p w hS;simp only[nN]at hS;refine Gp ?_;refine Cg (qn (some ⟨bv,0,none⟩) ts.length cap table) λw hS=>?_;refine zu (λhe=>?_) (λhe=>?_)
 ·have hp:pY ts ⟨aw,table,key,gone,val⟩=(ts,false):=by
   simp only[yy7]at he;unfold pY;by_cases h0:table<0
   ·simp[h0]
   have:ts[table.toNat]?=none:=yyr (by omega);simp[h0,this]
  rw[hp];(exact dW hS)
 have rj:=zzl he;obtain⟨t,rfl⟩:∃t:Nat,table=t:=⟨table.toNat,by omega⟩;have ht:t<ts.length:=by omega
 have xu:t<bs.length:=by omega
 have Ca:(bs.map oW++rest)[0+t*1]?=some (oW bs[t]):=by simp[zzr,xu]
 obtain⟨m,hm,hS⟩:=C8.open ht xu (SL.cR hS (t:=.ob (zg nG (bs.zip ts))::.pt p [.int .i64 aw,.int .i64 t,.int .i64 key,.bool gone,.string val] 390::.pt bv (bs.map oW++rest) 153::F) Xi);refine⟨λvs w=>vs=[]/\(∀c,vm ts[t] key=some c->¬aw<c.aw)/\SL W (.ob (jH KI uA bs[t] m)::.ob (zg nG ((bs.zip ts).eraseIdx t))::.pt p [.int .i64 aw,.int .i64 t,.int .i64 key,.bool gone,.string val] 390::.pt bv (bs.map oW++rest) 153::F) w,?_,?_⟩
 ·refine yw hS ?_;clear hS;intro w hS;refine Gp ?_;refine zF ht (zV hS Xh Ca ?_);refine Gp ?_;refine YY (z:=agg (oR ⟨0,0,false,⟨#[]⟩⟩)) hS Xh (ue .i64) vvk yyx uur ?_;rw[hm.get];cases hg:vm ts[t] key with
  | none=>
   simp only[vvo,wwy,uu5];refine Gm λb w hS=>?_;refine zV hS Xh Ca (YZ ?_);refine Gp ?_;refine YY (z:=agg (oR ⟨0,0,false,⟨#[]⟩⟩)) hS Xh (ue .i64) vvk yyx uur ?_;rw[hm.get,hg];simp only[vvo,wwy,uu5];refine⟨trivial,?_⟩;simp only[oR];refine Gn λw hS=>?_;exact⟨by simp,λc hc=>(by cases hc),(by exact aW hS)⟩
  | some c=>
   simp only[yyf,xxc,uu6];refine Gm λb w hS=>?_;refine zV hS Xh Ca (YZ ?_);refine Gp ?_;refine YY (z:=agg (oR ⟨0,0,false,⟨#[]⟩⟩)) hS Xh (ue .i64) vvk yyx uur ?_;rw[hm.get,hg];simp only[yyf,xxc,uu6];refine⟨trivial,?_⟩;simp only[uA,oR];refine Gn λw hS=>?_;refine za (λhl=>?_) (λhl=>?_)
   ·have hp:vD ts[t] ⟨aw,t,key,gone,val⟩=(ts[t],false):=by unfold vD;simp only[hg,hl,ww7]
    rw[aii (t:=t) rfl ht,hp];have hS:=C8.close (l:=.pt bv (bs.map oW++rest) 153::F) ht xu hm (by exact aW hS);(exact dW hS)
   exact⟨by simp,λc' hc=>(by cases hc;exact hl),(by exact aW hS)⟩
 clear hS;rintro w ⟨-,xm,hS⟩;have hp:vD ts[t] ⟨aw,t,key,gone,val⟩=(ry ts[t] (cellOf ⟨aw,t,key,gone,val⟩),true):=by
  unfold vD;cases hg:vm ts[t] key with
  | none=>simp only
  | some c=>simp only[xm c hg,vvn]
 rw[aii (t:=t) rfl ht,hp];refine Gm λb w hS=>?_;refine⟨λvs w=>vs=[]/\SL W (.pt b (oR (cellOf ⟨aw,t,key,gone,val⟩)) 93::.ob (jH KI uA bs[t] m)::.ob (zg nG ((bs.zip ts).eraseIdx t))::.pt p [.int .i64 aw,.int .i64 t,.int .i64 key,.bool gone,.string val] 390::.pt bv (bs.map oW++rest) 153::F) w,?_,?_⟩
 ·refine Gp ?_;cases gone with
  | true=>
   refine zq ?_;refine Gn λw hS=>?_;simp only[cellOf,oR,ww7];exact aW hS
  | false=>
   refine zp ?_;refine⟨rfl,?_⟩;simp only[cellOf,oR,vvl,vvn];exact aW hS
 clear hS;rintro w ⟨-,hS⟩;refine yw hS ?_;clear hS;intro w hS;refine Gp ?_;refine zF ht (zV hS Xh Ca ?_);refine Gp ?_;refine qK (val:=uA) hS Xu (ue .i64) vvk yyx ?_;clear hS;intro u w hS;have Ae:p8 (lM m key (cellOf ⟨aw,t,key,gone,val⟩)) (ry ts[t] (cellOf ⟨aw,t,key,gone,val⟩)):=hm.put (cellOf ⟨aw,t,key,gone,val⟩);have hS:=C8.close (l:=.pt bv (bs.map oW++rest) 153::F) ht xu Ae (by exact aW hS);(exact dW hS)
def cWv(n:Int)(h:n<1\/8<n):SP 141 [.int .i64 n] [] (e_ (.tuple #[.pointer none,.int .i64 1]) []):=by
 refine Enzz λW F w hS=>?_;apply aF3;delta Jz aI bW ia ai h_ bI;refine cF (λh1=>?_) (λh1=>?_)
 ·(exact dW hS)
 refine Gp ?_;refine za (λh2=>?_) (λh2=>by omega);(exact dW hS)
def cWw(n:Nat)(h1:1<=n)(h2:n<=8):SP 141 [.int .i64 n] [] (λv post=>∃r:Nat,v= .tuple #[.pointer (some ⟨r,0,none⟩),.int .i64 0]/\post=[.ob (lF r (List.replicate n []))]):=by
 refine Enzz λW F w hS=>?_;apply aF3;delta Jz aI bW ia ai h_ bI;refine Gp ?_;refine za (λh=>by omega) (λ_=>?_);refine Gp ?_;refine za (λh=>by omega) (λ_=>?_);refine Gp ?_;refine⟨_,rfl,zD hS ?_⟩;clear hS;intro r w hS;have hS:=bR.nil (t:=153) (sz:=1) hS;have hS:=zg.nil (A:=nG) hS;refine⟨λvs w=>∃(k:Nat) (v:Ω) (bs:Φ),vs=[.int .i64 k]/\k<=n/\bs.length=k/\SL W (.ob (zg nG (bs.zip (List.replicate k [])))::.ob (bR v 153 1 k (bs.map oW))::.pt r [v] 148::F) w,λvs _=>match vs with|[.int _ k]=>(n-k).toNat|_=>0,⟨0,_,[],rfl,by omega,rfl,hS⟩,?_⟩;clear hS;rintro M6 w ⟨k,v,bs,jR,hk,HF,hS⟩;cases jR;refine cF (λh=>?_) (λh=>?_)
 ·refine Gp ?_;refine fWx (key:=KI) (val:=uA) (p:=λb w'=>zm (fR [.map none] 1) [(0,1,(.map (some b)))] 153 1 w' _) hS ?_;clear hS;intro b w hS;have hS:SL W (.ob (nG (b,[]))::_) w:=nG.iff.2 ⟨[],p8.nil,hS⟩;refine zL (cells:=[oW b]) hS (by simp[mq,fR,Value.cells]) ?_;clear hS;intro b2 w hS;refine zI (n:=k) (m:=1) (cells:=bs.map oW) hS Xr (oG (cs:=[oW b]) hS .hd rfl) rfl rfl (by simp[Value.oneCell']) (by omega) (by omega) ?_;clear hS;intro v' w hS;have h1:=bR.one hS;have hS:=zg.snoc (A:=nG) (x:=(b,[])) (xs:=bs.zip (List.replicate k [])) (l:=.ob (bR v' 153 1 (k+1) (bs.map oW++[oW b]))::.pt r [v] 148::F) (by exact aW hS);refine Gn λw hS=>?_;refine⟨⟨k+1,v',bs++[b],rfl,(by omega),(by simp[HF]),?_⟩,(by dsimp only;omega)⟩;have e:(bs++[b]).zip (List.replicate (k+1) ([]:List Cell))=bs.zip (List.replicate k [])++[(b,[])]:=by
   rw[List.replicate_succ',List.zip_append (by simp[HF])];rfl
  rw[e,zzt,zzn,yy4];exact aW hS
 obtain rfl:k=n:=by omega
 rcases bR.open (Has.front hS Xr) with ⟨_,h0,_⟩|⟨bv,cap,rest,rfl,hc,hl,hr,hS⟩
 ·omega
 have hS:SL W (.ob (lF r (List.replicate k []))::F) w:=lF.iff.2 ⟨bv,cap,rest,bs,⟨by simp[HF],by simpa using h2,λC hC=>by
  obtain⟨_,rfl⟩:=uue.1 hC;exact⟨List.Pairwise.nil,by simp⟩⟩,by rw[xxf];exact aW hS⟩
 exact⟨_,⟨r,rfl,rfl⟩,hS⟩
def qE(r:Nat)(ts:List (List Cell)):SP 276 [.pointer (some ⟨r,0,none⟩)] [.ob (lF r ts)] (e_ (.int .i64 ts.length) [.ob (lF r ts)]):=by
 refine Enzz λW F w hS=>?_;apply g_l;delta P5 bW;obtain⟨bv,cap,rest,bs,hA,hS⟩:=lF.iff.1 hS;refine Gp ?_;have hS:=lF.iff.2 ⟨bv,cap,rest,bs,hA,hS⟩;(exact dW hS)
def cW3(H:bw)(r:Nat)(ts:List (List Cell))(v:Ω)(ops:List lA)(hv:iD H 5 v ops.length (ops.map nN).flatten)(hn:ops.length<=1000000)(hk:∀o∈ops,pD o.key):
  SP 278 [.pointer (some ⟨r,0,none⟩),v] [.mem H,.ob (lF r ts)] (e_ (.int .i64 ((ks ts ops).2:Nat)) [.mem H,.ob (lF r (ks ts ops).1)]):=by
 refine Enzz λW F w hS=>?_;apply g_n;delta P7 aI bW ai gI;refine zo hv ?_;refine⟨λvs w=>∃k:Nat,vs=[.int .i64 ((ks ts (ops.take k)).2:Nat),.int .i64 k]/\k<=ops.length/\SL W (.mem H::.ob (lF r (ks ts (ops.take k)).1)::F) w,λvs _=>match vs with|[_,.int _ k]=>(ops.length-k).toNat|_=>0,⟨0,rfl,by omega,hS⟩,?_⟩;clear hS;rintro v5 v10 w ⟨k,jR,ub,hS⟩;cases jR;refine cF (λh=>?_) (λh=>?_)
 ·have kU:k<ops.length:=by omega
  have hx:ops[k]?=some ops[k]:=by simp[kU]
  refine zE hS Xh b_1 hv hx kU ?_;obtain⟨bv,cap,rest,bs,hA,hS⟩:=lF.iff.1 (SL.cR hS (t:=.ob (lF r (ks ts (ops.take k)).1)::.mem H::F) Xi);refine zD hS ?_;clear hS;intro p w hS;refine zr (vs:=nN ops[k]) hS Xu rfl rfl (E8 _) ?_;clear hS;intro w hS;refine Gn λw hS=>?_;refine Cc (Qr bv cap rest bs (ks ts (ops.take k)).1 ops[k] hA.1) ?_;clear hS;rintro v post ⟨rfl,rfl⟩ w hS;try simp only[app]at hS
  have Ct:ks ts (ops.take (k+1))=((pY (ks ts (ops.take k)).1 ops[k]).1,(ks ts (ops.take k)).2+if (pY (ks ts (ops.take k)).1 ops[k]).2 then 1 else 0):=by
   rw[zze kU,fF3];simp[ks]
  have hle:(ks ts (ops.take k)).2<=k:=yyw (fF4 _ _) (by simp;omega);have hS:=lF.iff.2 ⟨bv,cap,rest,bs,⟨by rw[IT];exact hA.1,by rw[IT];exact hA.2.1,XV hA.2.2 (hk _ (zzg kU))⟩,(by rw[IT];exact SL.cR hS (t:=.pt r [.slice (some ⟨bv,0,none⟩) (ks ts (ops.take k)).1.length cap] 148::.pt bv (bs.map oW++rest) 153::.ob (zg nG (bs.zip (pY (ks ts (ops.take k)).1 ops[k]).1))::.mem H::F) Xi)⟩;cases wg:(pY (ks ts (ops.take k)).1 ops[k]).2 with
  | true=>
   refine zq ?_;refine Gp ?_;refine⟨⟨k+1,(by rw[Ct,wg];simp),(by omega),(by rw[Ct];exact aW hS)⟩,(by dsimp only;omega)⟩
  | false=>
   refine zp ?_;refine Gp ?_;refine⟨⟨k+1,(by rw[Ct,wg];simp),(by omega),(by rw[Ct];exact aW hS)⟩,(by dsimp only;omega)⟩
 obtain rfl:k=ops.length:=by omega
 rw[zz1]at hS ⊢
 (exact dW hS)
def qm(r:Nat)(ts:List (List Cell))(t:Int)(hs:small ts 0):SP 30 [.pointer (some ⟨r,0,none⟩),.int .i64 t] [.ob (lF r ts)]
  (λv post=>post=[.ob (lF r ts),.ob (bR v 93 4 (vh ts t).length ((vh ts t).map oR).flatten)]):=by
 refine Enzz λW F w hS=>?_;apply h_a;delta Rt aI bW gi ai gI bI;obtain⟨bv,cap,rest,bs,hA,hS⟩:=lF.iff.1 hS;refine Gp ?_;refine Cg (qn (some ⟨bv,0,none⟩) ts.length cap t) λw hS=>?_;refine zu (λhe=>?_) (λhe=>?_)
 ·have hc:vh ts t=[]:=by
   have rj:=yyz he;unfold vh;split
   ·rw[yyr (by omega)];rfl
   rfl
  rw[hc];have hS:=lF.iff.2 ⟨bv,cap,rest,bs,hA,hS⟩;exact⟨_,rfl,(bR.nil hS).perm (.swap _ _ _)⟩
 have rj:=zzl he;obtain⟨t,rfl⟩:∃u:Nat,t=u:=⟨t.toNat,by omega⟩;have ht:t<ts.length:=by omega
 have xu:t<bs.length:=by omega
 have Ca:(bs.map oW++rest)[0+t*1]?=some (oW bs[t]):=by simp[zzr,xu]
 have hc:vh ts t=ts[t]:=by unfold vh;simp[ht]
 rw[hc];have eW:=hA.2.2 ts[t] (zzg ht);have hsm:=hs ts[t] (zzg ht);refine Gp ?_;refine zF ht (zV hS Xh Ca ?_);obtain⟨m,hm,hS⟩:=C8.open ht xu (SL.cR hS (t:=.ob (zg nG (bs.zip ts))::.pt r [.slice (some ⟨bv,0,none⟩) ts.length cap] 148::.pt bv (bs.map oW++rest) 153::F) Xi);have rQ:=hm.len eW.1;refine fWs (val:=uA) hS .hd (by omega) (hm.wf eW) ?_;clear hS;intro v w hS;rw[hm.u0 eW.1,rQ]at hS
 refine zt hS .hd ?_;refine⟨λvs w=>∃(k:Nat) (u:Ω),vs=[u,.int .i64 k]/\k<=ts[t].length/\SL W (.ob (bR u 93 4 k (((ts[t].take k).map oR).flatten))::.ob (bR v 2 1 ts[t].length ((ts[t].map (·.key)).map KI))::.ob (jH KI uA bs[t] m)::.ob (zg nG ((bs.zip ts).eraseIdx t))::.pt r [.slice (some ⟨bv,0,none⟩) ts.length cap] 148::.pt bv (bs.map oW++rest) 153::F) w,λvs _=>match vs with|[_,.int _ k]=>(ts[t].length-k).toNat|_=>0,⟨0,_,rfl,by omega,bR.nil hS⟩,?_⟩;clear hS;rintro v5 v25 w ⟨k,u,jR,hk,hS⟩;cases jR;refine cF (λh=>?_) (λh=>?_)
 ·have kU:k<ts[t].length:=by omega
  refine yg hS (.tl .hd) kU (u:=KI ts[t][k].key) (by simp[kU]) ?_;refine Gp ?_;refine zF ht (zV hS Xh Ca ?_);refine yJ (z:=agg (oR ⟨0,0,false,⟨#[]⟩⟩)) hS Xh (ue .i64) vvk yyx uur ?_;rw[hm.get,UO eW.1 (zzg kU)];refine zL hS (cId _ _ rfl) ?_;clear hS;intro b w hS;refine zI (n:=k) (m:=1) hS Xr (oG (cs:=oR ts[t][k]) hS .hd rfl) rfl rfl (b_u _) (by omega) (by omega) ?_;clear hS;intro u' w hS;refine Gp ?_;refine⟨⟨k+1,u',rfl,(by omega),(by rw[cIn oR _ k kU];exact aW hS)⟩,(by dsimp only;omega)⟩
 obtain rfl:k=ts[t].length:=by omega
 rw[zz1]at hS
 have hS:=C8.close (C:=ts[t]) (l:=.ob (bR v5 93 4 ts[t].length ((ts[t].map oR).flatten))::.pt r [.slice (some ⟨bv,0,none⟩) ts.length cap] 148::.pt bv (bs.map oW++rest) 153::F) ht xu hm (by exact aW hS);rw[uuo]at hS
 have hS:SL W (.ob (lF r ts)::.ob (bR v5 93 4 ts[t].length ((ts[t].map oR).flatten))::F) w:=lF.iff.2 ⟨bv,cap,rest,bs,hA,by exact aW hS⟩;exact⟨_,rfl,hS⟩
def Qs(r:Nat)(ts:List (List Cell))(t:Int)(hs:small ts 0):SP 28 [.pointer (some ⟨r,0,none⟩),.int .i64 t] [.ob (lF r ts)]
  (λv post=>post=[.ob (lF r ts),.ob (bR v 66 2 (rowsOf (vh ts t)).length ((rowsOf (vh ts t)).map jA).flatten)]):=by
 refine Enzz λW F w hS=>?_;apply g_p;delta P9 aI a_ gi ai gI bI;refine Cc (qm r ts t hs) ?_;clear hS;rintro v post rfl w hS;try simp only[app]at hS
 have hc:=bw7 (t:=t) hs;generalize vh ts t=C at hS hc ⊢;refine zt hS Xh ?_;refine⟨λvs w=>∃(k:Nat) (u:Ω),vs=[u,.int .i64 k]/\k<=C.length/\SL W (.ob (bR u 66 2 (rowsOf (C.take k)).length (((rowsOf (C.take k)).map jA).flatten))::.ob (lF r ts)::.ob (bR v 93 4 C.length ((C.map oR).flatten))::F) w,λvs _=>match vs with|[_,.int _ k]=>(C.length-k).toNat|_=>0,⟨0,_,rfl,by omega,bR.nil hS⟩,?_⟩;clear hS;rintro v5 v12 w ⟨k,u,jR,hk,hS⟩;cases jR;refine cF (λh=>?_) (λh=>?_)
 ·have kU:k<C.length:=by omega
  have hle:=fR2 (C.take k);rw[zzf]at hle
  refine zU hS Xh b_t (x:=C[k]) (by simp[kU]) kU ?_;have hr:=fR3 C k kU;generalize C[k]=c at hr ⊢;obtain⟨key,aw,gone,val⟩:=c;simp only[oR];refine Gm λb w hS=>?_;cases gone with
  | true=>
   refine zp ?_;refine Gp ?_;refine⟨⟨k+1,v5,rfl,(by omega),(by rw[hr];simp only[ww7];exact aW hS)⟩,(by dsimp only;omega)⟩
  | false=>
   refine zq ?_;refine Gm λb w hS=>?_;refine zI (n:=(rowsOf (C.take k)).length) (m:=1) hS Xr (oG (cs:=jA ⟨key,val⟩) hS .hd rfl) rfl rfl (b_2 _) (by omega) (by omega) ?_;clear hS;intro u' w hS;refine Gp ?_;refine⟨⟨k+1,u',rfl,(by omega),(by rw[hr];simp only[vvl,vvn,zza,zz6,AT];exact aW hS)⟩,(by dsimp only;omega)⟩
 obtain rfl:k=C.length:=by omega
 rw[zz1]at hS
 exact⟨_,rfl,aW hS⟩
structure iR where
 file:Int
 first:Int
 size:Nat
 es:List s7
 a:Option Addr
 c:Nat
def iR.lv(x:iR):Ω:=.slice x.a x.es.length x.c
def iR.pl(x:iR):il:=⟨x.file,x.first,x.size,tN x.es⟩
def ku(x:iR):Γ:=[.int .i64 x.file,.int .i64 x.first,.int .i64 x.size,x.lv]
def Ji(x:iR):(ku x).length=4:=rfl
def Db(es:List s7):(tN es).length=es.length:=by simp[tN]
def iS(x:iR):zB:=zG True [.ob (iB x.lv 205 1 x.es.length (lD x.es)),.ob (zg lN x.es)]
def iS.iff{W w:Α}{x:iR}{l:Ψ}:SL W (.ob (iS x)::l) w↔SL W (.ob (iB x.lv 205 1 x.es.length (lD x.es))::.ob (zg lN x.es)::l) w:=by
 unfold iS;simp only[SL.fact,zzu,zzp,uus]
def jZ(v:Ω)(t:Option Bv):zB:=match t with
 | none=>zG (v= .pointer none) []
 | some x=>nT λb:Nat=>zG (v= .pointer (some ⟨b,0,none⟩)) [.pt b [.int .i64 x.file,.int .i64 x.tu,.bool x.fresh] 454]
def C9{W w:Α}{v:Ω}{l:Ψ}:SL W (.ob (jZ v none)::l) w↔v= .pointer none/\SL W l w:=by
 unfold jZ;simp only[SL.fact,zzp]
def C'{W w:Α}{v:Ω}{x:Bv}{l:Ψ}:SL W (.ob (jZ v (some x))::l) w↔∃b:Nat,v= .pointer (some ⟨b,0,none⟩)/\SL W (.pt b [.int .i64 x.file,.int .i64 x.tu,.bool x.fresh] 454::l) w:=by
 unfold jZ;simp only[SL.ex,SL.fact,zzu,zzp]
def aWm{W w:Α}{v:Ω}{t:Option Bv}{l:Ψ}(h:SL W (.ob (jZ v t)::l) w):v.oneCell'=true:=by
 cases t with
 | none=>rw[(C9.1 h).1];rfl
 | some x=>obtain⟨b,rfl,_⟩:=C'.1 h;rfl
abbrev jM(sv tv:Ω)(dp:Nat)(base size:Int):Γ:=[sv,.pointer (some ⟨dp,0,none⟩),.int .i64 base,.int .i64 size,tv]
abbrev jL(sv:Ω)(xs:List iR):Η:=.ob (iB sv 268 4 xs.length (xs.map ku).flatten)
abbrev Nt(lp dp:Nat)(base size:Int)(t:Option Bv)(sv tv:Ω)(xs:List iR):Ψ:=[.pt lp (jM sv tv dp base size) 186,jL sv xs,.ob (zg iS xs),.ob (jZ tv t)]
def ir(lp dp:Nat)(g:ib):zB:=nT λx:Ω × Ω × List iR=>zG (x.2.2.map iR.pl=g.bF) (Nt lp dp g.base g.size g.iC x.1 x.2.1 x.2.2)
def ir.iff{W w:Α}{lp dp:Nat}{g:ib}{l:Ψ}:SL W (.ob (ir lp dp g)::l) w↔∃sv tv xs,xs.map iR.pl=g.bF/\SL W (.pt lp (jM sv tv dp g.base g.size) 186::jL sv xs::.ob (zg iS xs)::.ob (jZ tv g.iC)::l) w:=by
 unfold ir Nt;simp only[SL.ex,SL.fact,zzu,zzp];exact⟨λ⟨x,h1,h2⟩=>⟨x.1,x.2.1,x.2.2,h1,h2⟩,λ⟨a,b,c,h1,h2⟩=>⟨(a,b,c),h1,h2⟩⟩
section
variable {W w:Α} {l:Ψ}
def ZQ{v:Ω}{xs:List iR}{j:Nat}{k:IntKind}{K:Ω->Prop}(h:SL W l w)(m:Has (jL v xs) l)(hj:j<xs.length)(hK:K (.agg (ku xs[j]).toArray)):zl 4 v (.int k (j:Int)) λp=>ze 4 p w K:=by
 refine yZ h m hj λb o hb=>⟨⟨b,o,none⟩,ku xs[j],rfl,rfl,λi u hu=>?_,hK⟩;rw[yyb];have hi:i<4:=(zzh.1 hu).1;exact hb i u hi (Ko Ji hj hu)
def Y0{v u:Ω}{xs:List iR}{i j:Nat}{k:IntKind}{K:Ω->Prop}(h:SL W l w)(m:Has (jL v xs) l)(hj:j<xs.length)(hu:(ku xs[j])[i]?=some u)(hK:K u):zl 4 v (.int k (j:Int)) λp=>zn i p λq=>cI q w K:=by
 refine yZ h m hj λb o hb=>?_;refine yI ?_;have hi:i<4:=(zzh.1 hu).1;exact⟨_,u,rfl,hb i u hi (Ko Ji hj hu),hK⟩
end
def UK(xs:List iR):(xs.map ku).flatten.length=xs.length*4:=by
 induction xs with
 | nil=>rfl
 | cons x xs ih=>simp[ih,Ji];omega
def yS(f n s:Int)(a:Option Addr)(k c:Nat)(h : -1000000000000000<=n/\n<=1000000000000000)(hk:k<=1000000000000000):SP 152 [.agg #[.int .i64 f,.int .i64 n,.int .i64 s,.slice a k c]] [] (e_ (.int .i64 (n+k)) []):=by
 refine Enzz λW F w hS=>?_;apply gIn;delta Oh a_;refine⟨[.int .i64 f,.int .i64 n,.int .i64 s,.slice a k c],rfl,?_⟩;refine Gm λb w hS=>?_;(exact dW hS)
def y5(x:iR){N:Nat}(h:po x.pl N)(hN:N<=1000000000000000):SP 152 [.agg (ku x).toArray] [] (e_ (.int .i64 x.pl.next) []):=by
 have h1:=h.n0;have h2:=h.n1;have h3:=h.ln;have e:x.pl.next=x.first+x.es.length:=by simp[il.next,iR.pl,Db]
 rw[e];have h3:x.es.length<=N:=by simpa [iR.pl,Db] using h3
 exact yS x.file x.first x.size x.a x.es.length x.c (by simp only[iR.pl]at h1 h2;omega) (by omega)
def ye(lp:Nat)(cs:Γ)(t:Ε)(sv:Ω)(xs:List iR)(nP:cs[0]?=some sv){N:Nat}(h:∀s∈xs.map iR.pl,po s N)(hN:N<=1000000000000000)(hl:xs.length<=1000000000000000):
  SP 101 [.pointer (some ⟨lp,0,none⟩)] [.pt lp cs t,jL sv xs] (e_ (.int .i64 (f_ (xs.map iR.pl))) [.pt lp cs t,jL sv xs]):=by
 refine Enzz λW F w hS=>?_;apply gFh;delta NC aI bW ai;refine Gp ?_;refine zV hS .hd nP ?_;refine zN hS Xh ?_;refine Gp ?_;have hh:=y' h;refine za (λh0=>?_) (λh0=>?_)
 ·have:xs=[]:=zzo (by omega);subst this;(exact dW hS)
 refine Gn λw hS=>?_;refine zV hS .hd nP ?_;refine Gp ?_;refine zV hS .hd nP ?_;refine zN hS Xh ?_;refine Gp ?_;have e:((xs.length:Nat):Int)-1=((xs.length-1:Nat):Int):=by omega
 rw[e];have hj:xs.length-1<xs.length:=by omega
 refine ZQ hS Xh hj ?_;have hm:(xs[xs.length-1]'hj).pl∈xs.map iR.pl:=zzy.2 ⟨_,zzg hj,rfl⟩;have hg:f_ (xs.map iR.pl)=(xs[xs.length-1]'hj).pl.next-1:=by
  unfold f_;rw[uul,xxy,zzd hj];rfl
 have eW:=h _ hm;rw[hg]at hh ⊢
 refine Cg (y5 _ eW hN) λw hS=>?_;exact dW hS
def eWq(lp:Nat)(cs:Γ)(t:Ε)(sv:Ω)(xs:List iR)(nP:cs[0]?=some sv)(hl:xs.length<=1000000000000000):
  SP 102 [.pointer (some ⟨lp,0,none⟩)] [.pt lp cs t,jL sv xs] (e_ (.int .i64 (j7 (xs.map iR.pl))) [.pt lp cs t,jL sv xs]):=by
 refine Enzz λW F w hS=>?_;apply gFi;delta ND aI bW a_ ai;refine Gp ?_;refine zV hS .hd nP ?_;refine zN hS Xh ?_;refine cF (λh0=>?_) (λh0=>?_)
 ·have:xs=[]:=zzo (by omega);subst this;(exact dW hS)
 cases xs with
 | nil=>simp at h0
 | cons x xs=>
  refine Gp ?_;refine zV hS .hd nP ?_;refine Y0 (j:=0) (i:=1) hS Xh (by simp) (u:=.int .i64 x.first) rfl ?_;exact⟨_,⟨rfl,rfl⟩,hS⟩
def zg.back{W w:Α}{l:Ψ}{α:Type}{A:α->zB}{xs:List α}{t:Nat}{x:α}(h:SL W (.ob (A x)::.ob (zg A (xs.eraseIdx t))::l) w)(hx:xs[t]?=some x):SL W (.ob (zg A xs)::l) w:=by
 obtain⟨ht,e⟩:=zzh.1 hx;have:=zg.put h ht
 rwa [<- e,uuo]at this
def ics(x:iR):x.pl.next=x.first+x.es.length:=by simp[il.next,iR.pl,Db]
def fRl(xs:List iR)(i:Nat)(n:Int):rV ((xs.drop i).map iR.pl) n=match xs[i]? with
 | none=>none
 | some x=>if x.first<=n/\n<x.pl.next then (tN x.es)[(n-x.first).toNat]? else rV ((xs.drop (i+1)).map iR.pl) n:=by
 cases h:xs[i]? with
 | none=>
  have:xs.drop i=[]:=yy3 (by rw[List.getElem?_eq_none_iff]at h;exact h);rw[this];rfl
 | some x=>
  obtain⟨hi,e⟩:=zzh.1 h;rw[yyq hi,e];rfl
def GU(pre:Ψ)(o:Option (Δ))(r:Ω)(post:Ψ):Prop:=match o with
 | none=>r= .tuple #[.slice none 0 0,.int .i64 5]/\post=pre
 | some b=>∃u,r= .tuple #[u,.int .i64 0]/\post= .ob (bR u 5 1 b.length (b.map ic))::pre
def QI(lp:Nat)(cs:Γ)(t:Ε)(sv:Ω)(xs:List iR)(n:Int)(nP:cs[0]?=some sv){N:Nat}(h:∀s∈xs.map iR.pl,po s N)(hN:N<=1000000000000000)(hl:xs.length<=1000000000000000)(hn : -9000000000000000000<=n/\n<=9000000000000000000):
  SP 136 [.pointer (some ⟨lp,0,none⟩),.int .i64 n] [.pt lp cs t,jL sv xs,.ob (zg iS xs)] (GU [.pt lp cs t,jL sv xs,.ob (zg iS xs)] (rV (xs.map iR.pl) n)):=by
 refine Enzz λW F w hS=>?_;apply gF6;delta N2 aI bW a_ ai bI;refine Gp ?_;refine zV hS .hd nP ?_;refine zN hS Xh ?_;refine⟨λvs w=>∃i:Nat,i<=xs.length/\vs=[.int .i64 i]/\rV (xs.map iR.pl) n=rV ((xs.drop i).map iR.pl) n/\SL W (.pt lp cs t::jL sv xs::.ob (zg iS xs)::F) w,λvs _=>match vs with
  | [.int _ i]=>xs.length-i.toNat
  | _=>0,⟨0,by omega,rfl,rfl,hS⟩,?_⟩
 clear hS;rintro v1 w1 ⟨i,hi,hv,hr,hS⟩;cases hv;rw[fRl]at hr
 refine cF (λh0=>?_) (λh0=>?_)
 ·have hj:i<xs.length:=by omega
  have hx:xs[i]?=some xs[i]:=zzd hj;refine ZQ hS Xh hj ?_;have eW:=h _ (zzy.2 ⟨_,zzg hj,rfl⟩);rw[hx]at hr
  simp only at hr;generalize xs[i]=x at *
  have ud:=ics x;unfold ku iR.lv;refine Gm λb w hS=>?_;refine za (λh1=>?_) (λh1=>?_)
  ·refine Gp ?_;refine Cg (y5 x eW hN) λw hS=>?_;refine za (λh2=>?_) (λh2=>?_)
   ·rw[zzc ⟨h1,h2⟩]at hr
    have HU:=eW.n0;have hh2:=eW.n1;simp only[iR.pl]at HU hh2;refine Gp ?_;obtain⟨j,K6⟩:=xx8 (show 0<=n-x.first by omega);have lV:j<x.es.length:=by omega
    rw[K6]at hr ⊢
    have hS:=zg.take (SL.cR hS (t:=.ob (zg iS xs)::.pt lp cs t::jL sv xs::F) Xi) hx;have hS:=iS.iff.1 hS;unfold iR.lv at hS;refine yZ (j:=j) hS .hd lV λb o hb=>?_;have Vx:x.es[j]?=some x.es[j]:=zzd lV;have tz:(lD x.es)[j*1+0]?=some x.es[j].1:=by simp[lD,lV]
    refine⟨_,_,rfl,hb 0 _ (by omega) tz,?_⟩;have hS:=zg.take (SL.cR hS (t:=.ob (zg lN x.es)::.ob (iB (.slice x.a x.es.length x.c) 205 1 x.es.length (lD x.es))::.ob (zg iS (xs.eraseIdx i))::.pt lp cs t::jL sv xs::F) Xi) Vx;have uN:x.es[j].2.length<=1048576:=eW.bl _ (zzy.2 ⟨_,zzg lV,rfl⟩);have hby:(tN x.es)[((j:Int)).toNat]?=some x.es[j].2:=by simp[tN,lV]
    rw[hby]at hr
    rw[hr];generalize x.es[j]=e at *
    have hR:iV (.ob (lN e)) e.1 e.2:=iV.own;obtain⟨ea,ec,ee,_⟩:=hR.sl hS .hd;have uK:=hR;rw[ee]at uK ⊢
    refine Zm (cs:=e.2.map ic) hS (λw' c lL=>uK.src lL (.tl .hd)) (by simp) (Ay _) (by omega) ?_;clear hS;intro u w hS _;have hS:=zg.back (SL.cR hS (t:=.ob (lN e)::.ob (zg lN (x.es.eraseIdx j))::.ob (iB (.slice x.a x.es.length x.c) 205 1 x.es.length (lD x.es))::.ob (bR u 5 1 e.2.length (e.2.map ic))::.ob (zg iS (xs.eraseIdx i))::.pt lp cs t::jL sv xs::F) Xi) Vx;have hS:=(iS.iff (x:=x)).2 (SL.cR hS (t:=.ob (iB (.slice x.a x.es.length x.c) 205 1 x.es.length (lD x.es))::.ob (zg lN x.es)::.ob (bR u 5 1 e.2.length (e.2.map ic))::.ob (zg iS (xs.eraseIdx i))::.pt lp cs t::jL sv xs::F) Xi);have hS:=zg.back (SL.cR hS (t:=.ob (iS x)::.ob (zg iS (xs.eraseIdx i))::.ob (bR u 5 1 e.2.length (e.2.map ic))::.pt lp cs t::jL sv xs::F) Xi) hx;exact⟨.ob (bR u 5 1 e.2.length (e.2.map ic))::[.pt lp cs t,jL sv xs,.ob (zg iS xs)],⟨u,rfl,rfl⟩,aW hS⟩
   rw[zzb (by omega)]at hr
   refine Gp ?_;refine⟨⟨i+1,by omega,rfl,hr,aW hS⟩,?_⟩;simp only[zzv];omega
  rw[zzb (by omega)]at hr
  refine Gp ?_;refine⟨⟨i+1,by omega,rfl,hr,aW hS⟩,?_⟩;simp only[zzv];omega
 have hx:xs[i]?=none:=yyr (by omega);rw[hx]at hr
 rw[hr];exact⟨_,⟨rfl,rfl⟩,hS⟩
def e_g(bF:List il)(base size:Int)(x:Bv)(d:DS):iq ⟨bF,base,size,some x⟩ d =
  ((⟨bF,base,size,if (if x.fresh=true then d.remove x.file else d.cut x.file x.tu).2=0 then none else some x⟩,(if x.fresh=true then d.remove x.file else d.cut x.file x.tu).1),(if x.fresh=true then d.remove x.file else d.cut x.file x.tu).2):=rfl
def Qy(lp dp:Nat)(g:ib)(d:DS)(N:Nat)(eW:d.Ok N)(hN:N<=140737488355328)(iY:d.ops<=100000):
  SP 286 [.pointer (some ⟨lp,0,none⟩)] [.ob (ir lp dp g),.ob (cw dp d)] (e_ (.int .i64 (iq g d).2) [.ob (ir lp dp (iq g d).1.1),.ob (cw dp (iq g d).1.2)]):=by
 refine Enzz λW F w hS=>?_;apply g_w;delta Re aI bW ia ai h_;obtain⟨sv,tv,xs,hx,hS⟩:=ir.iff.1 hS;obtain⟨bF,base,size,iC⟩:=g;simp only at hx hS;cases iC with
 | none=>
  rw[show iq ⟨bF,base,size,none⟩ d=((⟨bF,base,size,none⟩,d),0) from rfl];obtain⟨rfl,hS⟩:=C9.1 (SL.cR hS (t:=.ob (jZ tv none)::.pt lp (jM sv tv dp base size) 186::jL sv xs::.ob (zg iS xs)::.ob (cw dp d)::F) Xi);refine Gp ?_;refine zq ?_;have hS:=(C9 (v:=.pointer none)).2 ⟨rfl,hS⟩;exact⟨_,⟨rfl,rfl⟩,ir.iff.2 ⟨sv,.pointer none,xs,hx,aW hS⟩⟩
 | some x=>
  obtain⟨tb,rfl,hS⟩:=C'.1 (SL.cR hS (t:=.ob (jZ tv (some x))::.pt lp (jM sv tv dp base size) 186::jL sv xs::.ob (zg iS xs)::.ob (cw dp d)::F) Xi);rw[e_g];refine Gp ?_;refine zp ?_;refine Gp ?_;refine yF (λhf=>?_) (λhf=>?_)
  ·simp only[zzc hf];refine Gn λw hS=>?_;refine Cg (yO dp d N eW iY x.file) λw hS=>?_;refine za (λh=>?_) (λh=>?_)
   ·rw[zzc h];refine Gn λw hS=>?_;have hS:=(C9 (v:=.pointer none)).2 ⟨rfl,hS⟩;exact⟨_,⟨rfl,rfl⟩,ir.iff.2 ⟨sv,.pointer none,xs,hx,aW hS⟩⟩
   rw[zzb h];have hS:=(C' (v:=.pointer (some ⟨tb,0,none⟩)) (x:=x)).2 ⟨tb,rfl,SL.cR hS (t:=.pt tb [.int .i64 x.file,.int .i64 x.tu,.bool x.fresh] 454::.pt lp (jM sv (.pointer (some ⟨tb,0,none⟩)) dp base size) 186::jL sv xs::.ob (zg iS xs)::.ob (cw dp (d.remove x.file).1)::F) Xi⟩;exact⟨_,⟨rfl,rfl⟩,ir.iff.2 ⟨sv,_,xs,hx,aW hS⟩⟩
  have hf:¬x.fresh=true:=by rw[hf];decide
  simp only[zzb hf];refine Gn λw hS=>?_;refine Cg (Zs dp d N eW hN iY x.file x.tu) λw hS=>?_;refine za (λh=>?_) (λh=>?_)
  ·rw[zzc h];refine Gn λw hS=>?_;have hS:=(C9 (v:=.pointer none)).2 ⟨rfl,hS⟩;exact⟨_,⟨rfl,rfl⟩,ir.iff.2 ⟨sv,.pointer none,xs,hx,aW hS⟩⟩
  rw[zzb h];have hS:=(C' (v:=.pointer (some ⟨tb,0,none⟩)) (x:=x)).2 ⟨tb,rfl,SL.cR hS (t:=.pt tb [.int .i64 x.file,.int .i64 x.tu,.bool x.fresh] 454::.pt lp (jM sv (.pointer (some ⟨tb,0,none⟩)) dp base size) 186::jL sv xs::.ob (zg iS xs)::.ob (cw dp (d.cut x.file x.tu).1)::F) Xi⟩;exact⟨_,⟨rfl,rfl⟩,ir.iff.2 ⟨sv,_,xs,hx,aW hS⟩⟩
def aI1(lp dp:Nat)(g:ib)(d:DS)(X:Η)(p:Δ)(y:Except Int mc)(r:Ω)(post:Ψ):Prop:=match y with
 | .error e=>(∃z,r= .tuple #[.agg #[.int .i64 0,.bool false,.slice none 0 0],.int .i64 z]/\z=e/\z≠0)/\post=[.ob (ir lp dp g),.ob (cw dp d),X]
 | .ok x=>∃a c,r= .tuple #[.agg #[.int .i64 x.file,.bool x.fresh,.slice a x.b.length c],.int .i64 0]/\post=[.ob (bR (.slice a x.b.length c) 5 1 x.b.length (x.b.map ic)),.ob (ir lp dp g),.ob (cw dp d),X]
def ib.Ok.xs{g:ib}{N:Nat}(h:g.Ok N){xs:List iR}(hx:xs.map iR.pl=g.bF):(∀s∈xs.map iR.pl,po s N)/\xs.length<=N/\0<=f_ g.bF/\f_ g.bF<=1099511627776+N:=by
 refine⟨by rw[hx];exact h.bF,?_,y' h.bF⟩;have:=h.ln;rw[<- hx,zzs]at this;exact this
def QF(X:Η)(lp dp:Nat)(g:ib)(d:DS)(v:Ω)(p:Δ)(hv:iV X v p)(hp:p.length<=140737488355328){M:Nat}(hg:g.Ok M)(hM:M<=1000000000000000):
  SP 285 [.pointer (some ⟨lp,0,none⟩),v] [.ob (ir lp dp g),.ob (cw dp d),X] (aI1 lp dp g d X p (jQ g d.off p)):=by
 refine Enzz λW F w hS=>?_;apply g_v;delta Rc aI bW a_ b_ ai bI;obtain⟨sv,tv,xs,hx,hS⟩:=ir.iff.1 hS;obtain⟨eW,hl,hh0,HU⟩:=hg.xs hx;have xg:=hg.b0;have KM:=hg.b1;have Cz:=hg.s1;have Cy:=hg.s0;have rO:f_ (xs.map iR.pl)=f_ g.bF:=by rw[hx]
 refine Gm λb w hS=>?_;refine Cc (Z7 X v p hv hp) ?_;clear hS;rintro r post hQ w hS;unfold wN at hQ;by_cases B_:1048576<p.length
 ·rw[zzc B_]at hQ
  obtain⟨rfl,rfl⟩:=hQ;have jz:jQ g d.off p= .error 1:=by unfold jQ;rw[zzc B_]
  rw[jz];(try simp only[app]at hS);refine Gp ?_
  refine za (λ_=>?_) (λh=>absurd (by decide) h);refine Gn λw hS=>?_;exact⟨_,⟨⟨1,rfl,rfl,by decide⟩,rfl⟩,SL.cR (ir.iff.2 ⟨sv,tv,xs,hx,SL.cR hS (t:=.pt lp (jM sv tv dp g.base g.size) 186::jL sv xs::.ob (zg iS xs)::.ob (jZ tv g.iC)::.ob (cw dp d)::X::F) Xi⟩) Xi⟩
 rw[zzb B_]at hQ
 obtain⟨u,rfl,rfl⟩:=hQ;try simp only[app]at hS
 have hu:=hS.vB .hd;obtain⟨au,cu,eu,_⟩:=bR.at hS .hd;subst eu;refine Gp ?_;refine za (λh=>absurd rfl h) (λ_=>?_);refine Gp ?_;refine Cg (zK dp d) λw hS=>?_;have l8:∀{w:Α} {l:Ψ},SL W (.pt lp (jM sv tv dp g.base g.size) 186::jL sv xs::.ob (zg iS xs)::.ob (jZ tv g.iC)::l) w->SL W (.ob (ir lp dp g)::l) w:=λh=>ir.iff.2 ⟨sv,tv,xs,hx,h⟩;refine yF (λho=>?_) (λho=>?_)
 ·have jz:jQ g d.off p= .error 8:=by unfold jQ;rw[zzb B_,zzc ho]
  rw[jz];refine Gn λw hS=>?_;exact⟨_,⟨⟨8,rfl,rfl,by decide⟩,rfl⟩,SL.cR (l8 (SL.cR hS (t:=.pt lp (jM sv tv dp g.base g.size) 186::jL sv xs::.ob (zg iS xs)::.ob (jZ tv g.iC)::.ob (cw dp d)::X::F) Xi)) Xi⟩
 refine Gp ?_;refine Cg (ye lp (jM sv tv dp g.base g.size) 186 sv xs rfl eW hM (by omega)) λw hS=>?_;rw[rO];refine za (λh1=>?_) (λh1=>?_)
 ·have jz:jQ g d.off p= .error 7:=by unfold jQ;rw[zzb B_,zzb (by rw[ho];decide),zzc h1]
  rw[jz];refine Gn λw hS=>?_;exact⟨_,⟨⟨7,rfl,rfl,by decide⟩,rfl⟩,SL.cR (l8 (SL.cR hS (t:=.pt lp (jM sv tv dp g.base g.size) 186::jL sv xs::.ob (zg iS xs)::.ob (jZ tv g.iC)::.ob (cw dp d)::X::F) Xi)) Xi⟩
 refine Gp ?_;refine⟨λvs w=>∃f:Int,vs=[.int .i64 f]/\jQ g d.off p=rM g f p/\-1000000<=f/\f<=1000000/\SL W (.pt b [.int .i64 0,.bool false,.slice none 0 0] 343::.pt lp (jM sv tv dp g.base g.size) 186::jL sv xs::.ob (zg iS xs)::.ob (jZ tv g.iC)::.ob (cw dp d)::.ob (bR (.slice au (ij p).length cu) 5 1 (ij p).length ((ij p).map ic))::X::F) w,?_,?_⟩
 ·refine Gp ?_;refine zN hS Xh ?_;refine cF (λh2=>?_) (λh2=>?_)
  ·refine Gp ?_;have e:((xs.length:Nat):Int)-1=((xs.length-1:Nat):Int):=by omega
   rw[e];have hj:xs.length-1<xs.length:=by omega
   refine ZQ hS Xh hj ?_;have hm:(xs[xs.length-1]'hj).pl∈xs.map iR.pl:=zzy.2 ⟨_,zzg hj,rfl⟩;have sr:g.bF.getLast?=some (xs[xs.length-1]'hj).pl:=by
    rw[<- hx,uul,xxy,zzd hj];rfl
   have sw:=eW _ hm;generalize xs[xs.length-1]'hj=x at *
   have wv:jQ g d.off p=if x.pl.l.length=0\/(x.pl.size:Int)+(ij p).length<=g.size then .ok ⟨x.pl.file,false,ij p⟩ else rM g (x.pl.file+1) p:=by
    unfold jQ;rw[zzb B_,zzb (by rw[ho];decide),zzb (by omega),sr]
   have oC:x.pl.l.length=x.es.length:=by simp[iR.pl,Db]
   have Ws:x.pl.size=x.size:=rfl;have DY:x.pl.file=x.file:=rfl;have k1:=sw.f0;have k2:=sw.f1;have k3:=sw.sz;rw[oC,Ws,DY]at wv
   rw[DY]at k1 k2
   rw[Ws]at k3
   have A':=oY p;unfold ku iR.lv;refine Gm λb w hS=>?_;refine za (λh3=>?_) (λh3=>?_)
   ·rw[zzc (.inl (by omega))]at wv
    rw[wv];refine Gn λw hS=>?_;exact⟨_,⟨au,cu,rfl,rfl⟩,SL.cR (l8 (SL.cR hS (t:=.pt lp (jM sv tv dp g.base g.size) 186::jL sv xs::.ob (zg iS xs)::.ob (jZ tv g.iC)::.ob (bR (.slice au (ij p).length cu) 5 1 (ij p).length ((ij p).map ic))::.ob (cw dp d)::X::F) Xi)) Xi⟩
   refine cF (λh4=>?_) (λh4=>?_)
   ·rw[zzc (.inr (by omega))]at wv
    rw[wv];refine Gn λw hS=>?_;exact⟨_,⟨au,cu,rfl,rfl⟩,SL.cR (l8 (SL.cR hS (t:=.pt lp (jM sv tv dp g.base g.size) 186::jL sv xs::.ob (zg iS xs)::.ob (jZ tv g.iC)::.ob (bR (.slice au (ij p).length cu) 5 1 (ij p).length ((ij p).map ic))::.ob (cw dp d)::X::F) Xi)) Xi⟩
   rw[zzb (by omega)]at wv
   refine Gp ?_;exact⟨x.file+1,rfl,wv,by omega,by omega,aW hS⟩
  have wv:jQ g d.off p=rM g g.base p:=by
   have Lh:g.bF=[]:=by
    rw[<- hx];have:xs=[]:=zzo (by omega);rw[this];rfl
   unfold jQ;rw[zzb B_,zzb (by rw[ho];decide),zzb (by omega),Lh];rfl
  exact⟨g.base,rfl,wv,by omega,by omega,aW hS⟩
 clear hS;rintro v8 w ⟨f,jR,wv,f0,f1,hS⟩;cases jR;rw[wv];unfold rM;refine cF (λh2=>?_) (λh2=>?_)
 ·rw[zzc h2];refine Gn λw hS=>?_;exact⟨_,⟨⟨7,rfl,rfl,by decide⟩,rfl⟩,SL.cR (l8 (SL.cR hS (t:=.pt lp (jM sv tv dp g.base g.size) 186::jL sv xs::.ob (zg iS xs)::.ob (jZ tv g.iC)::.ob (cw dp d)::X::F) Xi)) Xi⟩
 rw[zzb h2];refine Gp ?_;refine Cg (ye lp (jM sv tv dp g.base g.size) 186 sv xs rfl eW hM (by omega)) λw hS=>?_;rw[rO];refine Cc (Y4 (f_ g.bF+1)) ?_;clear hS;rintro r post hQ w hS;unfold Jl at hQ;rw[zzb (by omega)]at hQ
 obtain⟨y,rfl,rfl⟩:=hQ;try simp only[app]at hS
 have hy:=hS.vB .hd;obtain⟨ay,cy,ey,_⟩:=bR.at hS .hd;subst ey;refine Gm λb w hS=>?_;refine yE (F:=_) (ZC _ 2 _ [_,_] [ij (iT (f_ g.bF+1).toNat),ij p] [.ob (bR (.slice ay (ij (iT (f_ g.bF+1).toNat)).length cy) 5 1 (ij (iT (f_ g.bF+1).toNat)).length ((ij (iT (f_ g.bF+1).toNat)).map ic)),.ob (bR (.slice au (ij p).length cu) 5 1 (ij p).length ((ij p).map ic))] rfl rfl ?_ ?_ (by omega)) hS Xp ?_
 ·intro i hi
  match i,hi with
  | 0,_=>exact⟨_,.hd,iV.own⟩
  | 1,_=>exact⟨_,.tl .hd,iV.own⟩
 ·have:=oY p;have:=oY (iT (f_ g.bF+1).toNat);have:=DC (f_ g.bF+1).toNat;simp;omega
 clear hS;rintro c post rfl w hS;(try simp only[app]at hS);have e2:[ij (iT (f_ g.bF+1).toNat),ij p].flatten=ij (iT (f_ g.bF+1).toNat)++ij p:=by simp
 rw[e2]at hS
 have hc:=hS.vB .hd;obtain⟨ac,cc,ec,_⟩:=bR.at hS .hd;subst ec;refine Gn λw hS=>?_;have e3:(ij (iT (f_ g.bF+1).toNat)).length+(ij p).length=(ij (iT (f_ g.bF+1).toNat)++ij p).length:=by rw[zza]
 rw[e3];exact⟨_,⟨ac,cc,rfl,rfl⟩,SL.cR (l8 (SL.cR hS (t:=.pt lp (jM sv tv dp g.base g.size) 186::jL sv xs::.ob (zg iS xs)::.ob (jZ tv g.iC)::.ob (bR (.slice ac (ij (iT (f_ g.bF+1).toNat)++ij p).length cc) 5 1 (ij (iT (f_ g.bF+1).toNat)++ij p).length ((ij (iT (f_ g.bF+1).toNat)++ij p).map ic))::.ob (cw dp d)::X::F) Xi)) Xi⟩
def aWd(lp dp:Nat)(g:ib)(d:DS)(X:Η)(y:Except Int mc)(r:Ω)(post:Ψ):Prop:=match y with
 | .error e=>e≠0/\r= .tuple #[.agg #[.int .i64 0,.bool false,.slice none 0 0],.int .i64 e]/\post=[.ob (ir lp dp g),.ob (cw dp d),X]
 | .ok x=>∃a c,r= .tuple #[.agg #[.int .i64 x.file,.bool x.fresh,.slice a x.b.length c],.int .i64 (iq g d).2]/\post=[.ob (bR (.slice a x.b.length c) 5 1 x.b.length (x.b.map ic)),.ob (ir lp dp (iq g d).1.1),.ob (cw dp (iq g d).1.2),X]
def ZI(X:Η)(lp dp:Nat)(g:ib)(d:DS)(v:Ω)(p:Δ)(hv:iV X v p)(hp:p.length<=140737488355328){M N:Nat}(hg:g.Ok M)(hM:M<=1000000000000000)(eW:d.Ok N)(hN:N<=140737488355328)(iY:d.ops<=100000):
  SP 219 [.pointer (some ⟨lp,0,none⟩),v] [.ob (ir lp dp g),.ob (cw dp d),X] (aWd lp dp g d X (jQ g d.off p)):=by
 refine Enzz λW F w hS=>?_;apply gWf;delta Pn aI ai bI;refine Gm λb w hS=>?_;refine Cc (QF X lp dp g d v p hv hp hg hM) ?_;clear hS;rintro r post hQ w hS;cases jz:jQ g d.off p with
 | error e=>
  rw[jz]at hQ
  obtain⟨⟨z,rfl,rfl,hz⟩,rfl⟩:=hQ;refine Gm λb w hS=>?_;refine za (λh=>absurd h hz) (λ_=>?_);refine Gn λw hS=>?_;exact⟨_,⟨hz,rfl,rfl⟩,aW hS⟩
 | ok x=>
  rw[jz]at hQ
  obtain⟨a,c,rfl,rfl⟩:=hQ;refine Gm λb w hS=>?_;refine za (λ_=>?_) (λh=>absurd rfl h);refine Cg (Qy lp dp g d N eW hN iY) λw hS=>?_;exact⟨_,⟨a,c,rfl,rfl⟩,aW hS⟩
def jL.at{W w:Α}{l:Ψ}{v:Ω}{t:Ε}{xs:List iR}{j:Nat}(h:SL W (.ob (iB v t 4 xs.length (xs.map ku).flatten)::l) w)(hj:j<xs.length):
  ∃b o cap A B,v= .slice (some ⟨b,o,none⟩) xs.length cap/\A.length=o+j*4/\SL W (.pt b (A++(ku xs[j]++B)) t::l) w /\
   ∀y w' l',SL W (.pt b (A++(ku y++B)) t::l') w'->SL W (.ob (iB v t 4 (xs.set j y).length ((xs.set j y).map ku).flatten)::l') w':=by
 obtain⟨b,pre,cap,rest,rfl,hc,hl,hr,hS⟩:=iB.block h (by omega);have e:(xs.map ku).flatten=((xs.take j).map ku).flatten++(ku xs[j]++((xs.drop (j+1)).map ku).flatten):=by
  have uU:xs=xs.take j++xs[j]::xs.drop (j+1):=by rw[<- yyq hj,yyl]
  have e:=yyu (λl=>(List.map ku l).flatten) uU;simp only[zzt,zzn,yys,zz4]at e;exact e
 have el:((xs.take j).map ku).flatten.length=j*4:=by rw[UK,zzf];omega
 refine⟨b,pre.length,cap,pre++((xs.take j).map ku).flatten,((xs.drop (j+1)).map ku).flatten++rest,rfl,by rw[zza,el],?_,λy w' l' h'=>?_⟩
 ·rw[e]at hS
  simp only[zzk]at hS ⊢;exact hS
 have e2:((xs.set j y).map ku).flatten=((xs.take j).map ku).flatten++(ku y++((xs.drop (j+1)).map ku).flatten):=by
  rw[xxb,zzc hj];simp only[zzt,zzn,yys,zz4]
 have:=iB.mk (b:=b) (t:=t) (sz:=4) (n:=xs.length) (cells:=((xs.set j y).map ku).flatten) (pre:=pre) (rest:=rest) (cap:=cap) hc (by rw[UK,yyh]) hr rfl (by rw[e2];simp only[zzk]at h' ⊢;exact h');show SL W (.ob (iB _ t 4 (xs.set j y).length _)::l') w';rw[yyh];exact this
def Eb{A B:Γ}{cs:Γ}{i:Nat}{u:Ω}(h:cs[i]?=some u):(A++(cs++B))[A.length+i]?=some u:=by
 rw[yya (by omega),xx6,zzr (zzh.1 h).1];exact h
def aia{A B:Γ}{cs:Γ}{i:Nat}{u:Ω}(h:i<cs.length):(A++(cs++B)).set (A.length+i) u=A++(cs.set i u++B):=by
 rw[vvq _ _ (by omega),xx6,wwm _ _ h]
def a_4{g:ib}{d:DS}{p:Δ}{e:Int}(h:jQ g d.off p= .error e):ki g d p=((g,d),(0,e)):=by
 unfold ki;rw[h]
def a_6{g:ib}{d:DS}{p:Δ}{x:mc}(h:jQ g d.off p= .ok x)(hm:(iq g d).2≠0):ki g d p=((iq g d).1,(0,(iq g d).2)):=by
 unfold ki;rw[h];simp only;rw[zzc hm]
def a_3{g:ib}{d:DS}{p:Δ}{x:mc}(h:jQ g d.off p= .ok x)(hm:(iq g d).2=0)(ha:((iq g d).1.2.append x.file x.b).2≠0):
  ki g d p=(((iq g d).1.1,((iq g d).1.2.append x.file x.b).1),(0,((iq g d).1.2.append x.file x.b).2)):=by
 unfold ki;rw[h];simp only;rw[zzb (by simp[hm]),zzc ha]
def a_7{g:ib}{d:DS}{p:Δ}{x:mc}(h:jQ g d.off p= .ok x)(hm:(iq g d).2=0)(ha:((iq g d).1.2.append x.file x.b).2=0)(hs:(((iq g d).1.2.append x.file x.b).1.sync x.file).2≠0):
  ki g d p=(((iq g d).1.1,(((iq g d).1.2.append x.file x.b).1.sync x.file).1),(0,(((iq g d).1.2.append x.file x.b).1.sync x.file).2)):=by
 unfold ki;rw[h];simp only;rw[zzb (by simp[hm]),zzb (by simp[ha]),zzc hs]
def a_5{g:ib}{d:DS}{p:Δ}{x:mc}(h:jQ g d.off p= .ok x)(hm:(iq g d).2=0)(ha:((iq g d).1.2.append x.file x.b).2=0)(hs:(((iq g d).1.2.append x.file x.b).1.sync x.file).2=0):
  ki g d p=(({(iq g d).1.1 with bF:=nQ g.bF x p},(((iq g d).1.2.append x.file x.b).1.sync x.file).1),(f_ (nQ g.bF x p),0)):=by
 unfold ki;rw[h];simp only;rw[zzb (by simp[hm]),zzb (by simp[ha]),zzb (by simp[hs]),(xz g d).1]
def X5(s:DS)(f:Int)(b:Δ):(s.append f b).1.ops<=s.ops+1:=by
 unfold DS.append;split<;>simp[DS.eI]
def fFc(s:DS)(f:Int):(s.sync f).1.ops<=s.ops+1:=by
 unfold DS.sync;split
 ·simp
 split<;>simp[DS.eI]
def X6(s:DS)(f n:Int):(s.cut f n).1.ops<=s.ops+1:=by
 unfold DS.cut;split
 ·simp
 split
 ·simp
 split<;>simp[DS.eI]
def X8(s:DS)(f:Int):(s.remove f).1.ops<=s.ops+1:=by
 unfold DS.remove;split
 ·simp
 split<;>simp[DS.eI]
def X7(g:ib)(d:DS):(iq g d).1.2.ops<=d.ops+1:=by
 unfold iq;split
 ·simp
 simp only;split
 ·exact X8 _ _
 exact X6 _ _ _
def Zg(X:Η)(lp dp:Nat)(g:ib)(d:DS)(v:Ω)(p:Δ)(hv:iV X v p)(hp:p.length<=140737488355328){M N:Nat}(hg:g.Ok M)(hM:M<=1000000000000)(eW:d.Ok N)(hN:N<=140737480000000)(iY:d.ops<=90000):
  SP 163 [.pointer (some ⟨lp,0,none⟩),v] [.ob (ir lp dp g),.ob (cw dp d),X] (e_ (.tuple #[.int .i64 (ki g d p).2.1,.int .i64 (ki g d p).2.2]) [.ob (ir lp dp (ki g d p).1.1),.ob (cw dp (ki g d p).1.2),X]):=by
 refine Enzz λW F w hS=>?_;apply gIz;delta Ox aI bW a_ ia aR b_ ai bI;obtain⟨va,vc,rfl,LA⟩:=hv.sl hS Xh;refine Cc (ZI X lp dp g d _ p hv hp hg (by omega) eW (by omega) (by omega)) ?_;clear hS;rintro r post hQ w hS;cases jz:jQ g d.off p with
 | error e=>
  rw[jz]at hQ
  obtain⟨hz,rfl,rfl⟩:=hQ;rw[a_4 jz];refine Gm λb w hS=>?_;refine⟨λvs w=>vs=[.int .i64 e]/\SL W (.ob (ir lp dp g)::.ob (cw dp d)::X::F) w,?_,?_⟩
  ·refine Gp ?_;refine za (λh=>absurd h hz) (λ_=>⟨rfl,aW hS⟩)
  clear hS;rintro v7 w ⟨jR,hS⟩;cases jR;refine⟨λvs w=>vs=[.int .i64 e]/\SL W (.ob (ir lp dp g)::.ob (cw dp d)::X::F) w,?_,?_⟩
  ·refine Gp ?_;refine za (λh=>absurd h hz) (λ_=>⟨rfl,hS⟩)
  clear hS;rintro v7 w ⟨jR,hS⟩;cases jR;refine Gp ?_;refine za (λ_=>?_) (λh=>absurd hz h);(exact dW hS)
 | ok x=>
  rw[jz]at hQ
  obtain⟨a,c,rfl,rfl⟩:=hQ;have hw:=IL hg jz;have Ia:=IF (g:=g) eW;have DL:=L_ (d:=d) hg;have DM:=xz g d;have wu:=X7 g d;have uN:=hw.bl;have hpp:=hw.pl;refine Gm λb w hS=>?_;obtain⟨wb,rfl⟩:∃k,k=b:=⟨b,rfl⟩;by_cases hm:(iq g d).2=0
  ·
   have Vc:=Ia.append x.file x.b;have hao:=X5 (iq g d).1.2 x.file x.b;have igp:=Vc.sync x.file;have Ad:=a_5 jz hm;have Fq:=a_3 jz hm;have DU:=a_7 jz hm;generalize ki g d p=G at *
   generalize iq g d=m at *
   obtain⟨⟨g1,d1⟩,me⟩:=m;simp only at *
   subst hm;refine⟨λvs w=>vs=[.int .i64 (d1.append x.file x.b).2]/\SL W (.pt wb [.int .i64 x.file,.bool x.fresh,.slice a x.b.length c] 343::.ob (bR (.slice a x.b.length c) 5 1 x.b.length (x.b.map ic))::.ob (ir lp dp g1)::.ob (cw dp (d1.append x.file x.b).1)::X::F) w,?_,?_⟩
   ·refine Gp ?_;refine za (λ_=>?_) (λh=>absurd rfl h);obtain⟨sv,tv,xs,hx,hS⟩:=ir.iff.1 (SL.cR hS (t:=.ob (ir lp dp g1)::.pt wb [.int .i64 x.file,.bool x.fresh,.slice a x.b.length c] 343::.ob (bR (.slice a x.b.length c) 5 1 x.b.length (x.b.map ic))::.ob (cw dp d1)::X::F) Xi);refine Gn λw hS=>?_;refine Cg (JQ (.ob (bR (.slice a x.b.length c) 5 1 x.b.length (x.b.map ic))) dp d1 N Ia (by omega) x.file _ x.b (λhS h=>sC hS h) (by omega)) λw hS=>?_;have hS:=ir.iff.2 ⟨sv,tv,xs,hx,SL.cR hS (t:=.pt lp (jM sv tv dp g1.base g1.size) 186::jL sv xs::.ob (zg iS xs)::.ob (jZ tv g1.iC)::.pt wb [.int .i64 x.file,.bool x.fresh,.slice a x.b.length c] 343::.ob (bR (.slice a x.b.length c) 5 1 x.b.length (x.b.map ic))::.ob (cw dp (d1.append x.file x.b).1)::X::F) Xi⟩;exact aW hS
   clear hS;rintro v7 w ⟨jR,hS⟩;cases jR;by_cases ha:(d1.append x.file x.b).2=0
   ·rw[ha];refine⟨λvs w=>vs=[.int .i64 ((d1.append x.file x.b).1.sync x.file).2]/\SL W (.pt wb [.int .i64 x.file,.bool x.fresh,.slice a x.b.length c] 343::.ob (bR (.slice a x.b.length c) 5 1 x.b.length (x.b.map ic))::.ob (ir lp dp g1)::.ob (cw dp ((d1.append x.file x.b).1.sync x.file).1)::X::F) w,?_,?_⟩
    ·refine Gp ?_;refine za (λ_=>?_) (λh=>absurd rfl h);obtain⟨sv,tv,xs,hx,hS⟩:=ir.iff.1 (SL.cR hS (t:=.ob (ir lp dp g1)::.pt wb [.int .i64 x.file,.bool x.fresh,.slice a x.b.length c] 343::.ob (bR (.slice a x.b.length c) 5 1 x.b.length (x.b.map ic))::.ob (cw dp (d1.append x.file x.b).1)::X::F) Xi);refine Gn λw hS=>?_;refine Cg (Yi dp (d1.append x.file x.b).1 _ Vc (by omega) x.file) λw hS=>?_;have hS:=ir.iff.2 ⟨sv,tv,xs,hx,SL.cR hS (t:=.pt lp (jM sv tv dp g1.base g1.size) 186::jL sv xs::.ob (zg iS xs)::.ob (jZ tv g1.iC)::.pt wb [.int .i64 x.file,.bool x.fresh,.slice a x.b.length c] 343::.ob (bR (.slice a x.b.length c) 5 1 x.b.length (x.b.map ic))::.ob (cw dp ((d1.append x.file x.b).1.sync x.file).1)::X::F) Xi⟩;exact aW hS
    clear hS;rintro v7 w ⟨jR,hS⟩;cases jR;by_cases hs:((d1.append x.file x.b).1.sync x.file).2=0
    ·rw[hs];have hG:=Ad ha hs;subst hG;clear Ad Fq DU hao;generalize ((d1.append x.file x.b).1.sync x.file).1=d3 at *
     refine Gp ?_;refine za (λh=>absurd rfl h) (λ_=>?_);obtain⟨sv,tv,xs,hx,hS⟩:=ir.iff.1 (SL.cR hS (t:=.ob (ir lp dp g1)::.pt wb [.int .i64 x.file,.bool x.fresh,.slice a x.b.length c] 343::.ob (cw dp d3)::X::F) Xi);obtain⟨DZ,oC,_,_⟩:=DL.xs hx;have rO:f_ (xs.map iR.pl)=f_ g.bF:=by rw[hx,DM.1]
     have K2:=hw.hd;have Ch:=y' hg.bF;have dI8:=XC hg hw;refine⟨λvs w=>vs=[]/\∃oh ik,ik.map iR.pl=xA g.bF x/\ik.length<=xs.length+1/\SL W (.pt lp (jM oh tv dp g1.base g1.size) 186::jL oh ik::.ob (zg iS ik)::.ob (jZ tv g1.iC)::.pt wb [.int .i64 x.file,.bool x.fresh,.slice a x.b.length c] 343::.ob (cw dp d3)::X::F) w,?_,?_⟩
     ·refine Gp ?_;unfold xA;refine yF (λhf=>?_) (λhf=>?_)
      ·rw[zzc hf];refine Gn λw hS=>?_;refine Cg (ye lp (jM sv tv dp g1.base g1.size) 186 sv xs rfl DZ (by omega) (by omega)) λw hS=>?_;refine Gm λb w hS=>?_;rw[rO]at hS
       have xq:=iB.one hS (v:=sv) (t:=268) (sz:=4) (n:=xs.length) (cells:=(xs.map ku).flatten) Xh;refine ZP (m:=1) (cs:=[.int .i64 x.file,.int .i64 (f_ g.bF+1),.int .i64 0,.slice none 0 0]) hS Xr (oG hS .hd rfl) rfl rfl (by simp[Value.oneCell']) (by omega) (by omega) ?_;clear hS;intro oh w hS;have xq:=iB.one hS (v:=oh) .hd;refine Gn λw hS=>?_;have hS:=iB.vz (a:=none) (t:=205) (sz:=1) hS;have hS:=zg.nil (A:=lN) (SL.cR hS (t:=.ob (iB (.slice none 0 0) 205 1 0 [])::.ob (zg iS xs)::.pt lp (jM oh tv dp g1.base g1.size) 186::.ob (iB oh 268 4 (xs.length+1) ((xs.map ku).flatten++[.int .i64 x.file,.int .i64 (f_ g.bF+1),.int .i64 0,.slice none 0 0]))::.ob (jZ tv g1.iC)::.pt wb [.int .i64 x.file,.bool x.fresh,.slice a x.b.length c] 343::.ob (cw dp d3)::X::F) Xi);have hS:=(iS.iff (x:=⟨x.file,f_ g.bF+1,0,[],none,0⟩)).2 (SL.cR hS (t:=.ob (iB (.slice none 0 0) 205 1 0 [])::.ob (zg lN [])::.ob (zg iS xs)::.pt lp (jM oh tv dp g1.base g1.size) 186::.ob (iB oh 268 4 (xs.length+1) ((xs.map ku).flatten++[.int .i64 x.file,.int .i64 (f_ g.bF+1),.int .i64 0,.slice none 0 0]))::.ob (jZ tv g1.iC)::.pt wb [.int .i64 x.file,.bool x.fresh,.slice a x.b.length c] 343::.ob (cw dp d3)::X::F) Xi);have hS:=zg.snoc (SL.cR hS (t:=.ob (zg iS xs)::.ob (iS ⟨x.file,f_ g.bF+1,0,[],none,0⟩)::.pt lp (jM oh tv dp g1.base g1.size) 186::.ob (iB oh 268 4 (xs.length+1) ((xs.map ku).flatten++[.int .i64 x.file,.int .i64 (f_ g.bF+1),.int .i64 0,.slice none 0 0]))::.ob (jZ tv g1.iC)::.pt wb [.int .i64 x.file,.bool x.fresh,.slice a x.b.length c] 343::.ob (cw dp d3)::X::F) Xi);have e1:xs.length+1=(xs++[(⟨x.file,f_ g.bF+1,0,[],none,0⟩:iR)]).length:=by simp
       have e2:(xs.map ku).flatten++[.int .i64 x.file,.int .i64 (f_ g.bF+1),.int .i64 0,.slice none 0 0]=((xs++[(⟨x.file,f_ g.bF+1,0,[],none,0⟩:iR)]).map ku).flatten:=by simp[ku,iR.lv]
       rw[e1,e2]at hS
       refine⟨oh,xs++[⟨x.file,f_ g.bF+1,0,[],none,0⟩],?_,by simp,aW hS⟩;rw[zzt,hx,DM.1];rfl
      rw[zzb (by rw[hf];decide)];exact⟨rfl,sv,xs,by rw[hx,DM.1],by omega,aW hS⟩
     clear hS DZ rO;rintro w ⟨-,oh,ik,sx,vn,hS⟩;obtain⟨A,s,hA⟩:=Ma hw;rw[IP _ _ _ hA];have hle:0<ik.length:=by
      have:=yyu List.length sx;rw[hA]at this;simp at this;omega
     have hj:ik.length-1<ik.length:=by omega
     have uU:ik=ik.take (ik.length-1)++[ik[ik.length-1]]:=by
      conv=>lhs;rw[<- yyl (ik.length-1) ik]
      rw[yyq hj,yy3 (by omega)]
     have Hx:A=(ik.take (ik.length-1)).map iR.pl/\s=(ik[ik.length-1]).pl:=by
      rw[uU,zzt]at sx
      rw[hA]at sx
      have:=List.append_inj' sx rfl;exact⟨this.1.symm,by simpa using this.2.symm⟩
     obtain⟨B6,Cz⟩:=Hx;subst B6 Cz;have Wc:=dI8 (ik[ik.length-1]).pl (by rw[hA];simp);have z1:=Wc.sz;have z2:=Wc.ln;have hS:=zg.take (t:=ik.length-1) (SL.cR hS (t:=.ob (zg iS ik)::jL oh ik::.pt lp (jM oh tv dp g1.base g1.size) 186::.ob (jZ tv g1.iC)::.pt wb [.int .i64 x.file,.bool x.fresh,.slice a x.b.length c] 343::.ob (cw dp d3)::X::F) Xi) (zzd hj);have hS:=iS.iff.1 hS;obtain⟨rb,ro,rc,AA,BB,rfl,hAA,hS,sh⟩:=jL.at (SL.cR hS (t:=jL oh ik::.ob (iB (ik[ik.length-1]).lv 205 1 (ik[ik.length-1]).es.length (lD (ik[ik.length-1]).es))::.ob (zg lN (ik[ik.length-1]).es)::.ob (zg iS (ik.eraseIdx (ik.length-1)))::.pt lp (jM oh tv dp g1.base g1.size) 186::.ob (jZ tv g1.iC)::.pt wb [.int .i64 x.file,.bool x.fresh,.slice a x.b.length c] 343::.ob (cw dp d3)::X::F) Xi) hj;generalize Wl:ik[ik.length-1]=x0 at *
     have z1:x0.size<=M:=z1;have z2:x0.es.length<=M:=by simpa [iR.pl,Db] using z2
     refine Gn λw hS=>?_;have e:((ik.length:Nat):Int)-1=((ik.length-1:Nat):Int):=by omega
     rw[e];refine zF hj ?_;rw[<- hAA];refine Gn λw hS=>?_;refine zV hS Xh (Eb (i:=2) (u:=.int .i64 x0.size) rfl) ?_;refine Gp ?_;refine Zz hS Xu (Eb (i:=2) (u:=.int .i64 x0.size) rfl) rfl ?_;clear hS;intro w hS;rw[aia (by rw[Ji];decide)]at hS
     have e5:(ku x0).set 2 (.int .i64 ((x0.size+x.b.length:Nat):Int))=[.int .i64 x0.file,.int .i64 x0.first,.int .i64 ((x0.size+x.b.length:Nat):Int),x0.lv]:=rfl;rw[e5]at hS
     refine Gn λw hS=>?_;refine zV hS Xh (Eb (i:=3) (u:=x0.lv) rfl) ?_;refine Zm (cs:=p.map ic) hS (λw' c lL=>hv.src lL (.tl Xh)) (by simp) (Ay _) (by omega) ?_;clear hS;intro u w hS _;have hu:=hS.vB .hd;obtain⟨ua,uc,eu,_⟩:=bR.at hS .hd;subst eu;refine zV hS Xh (Eb (i:=3) (u:=x0.lv) rfl) ?_;refine Gm λb w hS=>?_;refine zV hS Xh (Eb (i:=3) (u:=x0.lv) rfl) ?_;refine Gp ?_;refine ZP (t:=205) (sz:=1) (n:=x0.es.length) (cells:=lD x0.es) (m:=1) (cs:=[.slice ua p.length uc]) hS Xr (oG hS .hd rfl) rfl rfl (by simp[Value.oneCell']) (by omega) (by omega) ?_;clear hS;intro v' w hS;have xq:=iB.one hS (v:=v') .hd;obtain⟨a',c',ev,_⟩:=iB.at hS (v:=v') .hd;subst ev;refine Gp ?_;refine Zz hS Xu (Eb (i:=3) (u:=x0.lv) rfl) xq ?_;clear hS;intro w hS;rw[aia (by show 3<4;decide)]at hS
     have e6:([.int .i64 x0.file,.int .i64 x0.first,.int .i64 ((x0.size+x.b.length:Nat):Int),x0.lv]:Γ).set 3 (.slice a' (x0.es.length+1) c')=ku ⟨x0.file,x0.first,x0.size+x.b.length,x0.es++[(.slice ua p.length uc,p)],a',c'⟩:=by
      simp[ku,iR.lv]
     rw[e6]at hS
     let y:iR:=⟨x0.file,x0.first,x0.size+x.b.length,x0.es++[(.slice ua p.length uc,p)],a',c'⟩
     have tA:(ik.set (ik.length-1) y).map iR.pl=(ik.take (ik.length-1)).map iR.pl++[AH x0.pl x.b.length p]:=by
      rw[xxb,zzc hj,yy3 (by omega),zzt];congr 1;simp[y,iR.pl,AH,tN]
     have Ct:=(aid hg hw).1;rw[IP _ _ _ hA,<- tA]at Ct
     have hS:=sh y w _ (SL.cR hS (t:=.pt rb (AA++(ku y++BB)) 268::.ob (iB (.slice a' (x0.es.length+1) c') 205 1 (x0.es.length+1) (lD x0.es++[.slice ua p.length uc]))::.ob (bR (.slice ua p.length uc) 5 1 p.length (p.map ic))::.ob (zg lN x0.es)::.ob (zg iS (ik.eraseIdx (ik.length-1)))::.pt lp (jM (.slice (some ⟨rb,ro,none⟩) ik.length rc) tv dp g1.base g1.size) 186::.ob (jZ tv g1.iC)::.ob (cw dp d3)::X::F) Xi);have hS:=SL.cR hS (t:=.ob (bR (.slice ua p.length uc) 5 1 p.length (p.map ic))::.ob (zg lN x0.es)::.ob (iB (.slice a' (x0.es.length+1) c') 205 1 (x0.es.length+1) (lD x0.es++[.slice ua p.length uc]))::.ob (zg iS (ik.eraseIdx (ik.length-1)))::jL (.slice (some ⟨rb,ro,none⟩) ik.length rc) (ik.set (ik.length-1) y)::.pt lp (jM (.slice (some ⟨rb,ro,none⟩) ik.length rc) tv dp g1.base g1.size) 186::.ob (jZ tv g1.iC)::.ob (cw dp d3)::X::F) Xi;have hS:SL W (.ob (lN (.slice ua p.length uc,p))::.ob (zg lN x0.es)::.ob (iB (.slice a' (x0.es.length+1) c') 205 1 (x0.es.length+1) (lD x0.es++[.slice ua p.length uc]))::.ob (zg iS (ik.eraseIdx (ik.length-1)))::jL (.slice (some ⟨rb,ro,none⟩) ik.length rc) (ik.set (ik.length-1) y)::.pt lp (jM (.slice (some ⟨rb,ro,none⟩) ik.length rc) tv dp g1.base g1.size) 186::.ob (jZ tv g1.iC)::.ob (cw dp d3)::X::F) w:=hS;have hS:=zg.snoc (hS.perm (.swap _ _ _));have e7:x0.es.length+1=y.es.length:=by simp[y]
     have e8:lD x0.es++[.slice ua p.length uc]=lD y.es:=by simp[y,lD]
     rw[e7,e8]at hS
     have hS:=(iS.iff (x:=y)).2 (SL.cR hS (t:=.ob (iB (.slice a' y.es.length c') 205 1 y.es.length (lD y.es))::.ob (zg lN (x0.es++[(.slice ua p.length uc,p)]))::.ob (zg iS (ik.eraseIdx (ik.length-1)))::jL (.slice (some ⟨rb,ro,none⟩) ik.length rc) (ik.set (ik.length-1) y)::.pt lp (jM (.slice (some ⟨rb,ro,none⟩) ik.length rc) tv dp g1.base g1.size) 186::.ob (jZ tv g1.iC)::.ob (cw dp d3)::X::F) Xi);have hS:=zg.put hS hj;refine Gp ?_;refine Cg (ye lp (jM (.slice (some ⟨rb,ro,none⟩) ik.length rc) tv dp g1.base g1.size) 186 (.slice (some ⟨rb,ro,none⟩) ik.length rc) (ik.set (ik.length-1) y) rfl Ct (by omega) (by rw[yyh];omega)) λw hS=>?_;rw[tA];have hS:=(ir.iff (g:={bF:=(ik.take (ik.length-1)).map iR.pl++[AH x0.pl x.b.length p],base:=g1.base,size:=g1.size,iC:=g1.iC})).2 ⟨_,tv,ik.set (ik.length-1) y,tA,SL.cR hS (t:=.pt lp (jM (.slice (some ⟨rb,ro,none⟩) ik.length rc) tv dp g1.base g1.size) 186::jL (.slice (some ⟨rb,ro,none⟩) ik.length rc) (ik.set (ik.length-1) y)::.ob (zg iS (ik.set (ik.length-1) y))::.ob (jZ tv g1.iC)::.ob (cw dp d3)::X::F) Xi⟩;exact dW hS
    have hG:=DU ha hs;subst hG;refine Gp ?_;refine za (λ_=>?_) (λh=>absurd hs h);(exact dW hS)
   have hG:=Fq ha;subst hG;refine⟨λvs w=>vs=[.int .i64 (d1.append x.file x.b).2]/\SL W (.ob (ir lp dp g1)::.ob (cw dp (d1.append x.file x.b).1)::X::F) w,?_,?_⟩
   ·refine Gp ?_;refine za (λh=>absurd h ha) (λ_=>⟨rfl,aW hS⟩)
   clear hS;rintro v7 w ⟨jR,hS⟩;cases jR;refine Gp ?_;refine za (λ_=>?_) (λh=>absurd ha h);(exact dW hS)
  rw[a_6 jz hm];refine⟨λvs w=>vs=[.int .i64 (iq g d).2]/\SL W (.ob (ir lp dp (iq g d).1.1)::.ob (cw dp (iq g d).1.2)::X::F) w,?_,?_⟩
  ·refine Gp ?_;refine za (λh=>absurd h hm) (λ_=>⟨rfl,aW hS⟩)
  clear hS;rintro v7 w ⟨jR,hS⟩;cases jR;refine⟨λvs w=>vs=[.int .i64 (iq g d).2]/\SL W (.ob (ir lp dp (iq g d).1.1)::.ob (cw dp (iq g d).1.2)::X::F) w,?_,?_⟩
  ·refine Gp ?_;refine za (λh=>absurd h hm) (λ_=>⟨rfl,hS⟩)
  clear hS;rintro v7 w ⟨jR,hS⟩;cases jR;refine Gp ?_;refine za (λ_=>?_) (λh=>absurd hm h);(exact dW hS)
def gwi{g:ib}{d:DS}{p:Δ}{k e:Int}(hk:0<=k)(h:jQ g d.off p= .error e):lz g d p k=((g,d),e):=by
 unfold lz;rw[zzb (by omega),h]
def gwk{g:ib}{d:DS}{p:Δ}{k:Int}{x:mc}(hk:0<=k)(h:jQ g d.off p= .ok x)(hm:(iq g d).2≠0):lz g d p k=((iq g d).1,(iq g d).2):=by
 unfold lz;rw[zzb (by omega),h];simp only;rw[zzc hm]
def gwg{g:ib}{d:DS}{p:Δ}{k:Int}{x:mc}(hk:0<=k)(h:jQ g d.off p= .ok x)(hm:(iq g d).2=0)(ha:((iq g d).1.2.append x.file (x.b.take (k.toNat % x.b.length))).2≠0):
  lz g d p k=(((iq g d).1.1,((iq g d).1.2.append x.file (x.b.take (k.toNat % x.b.length))).1),((iq g d).1.2.append x.file (x.b.take (k.toNat % x.b.length))).2):=by
 unfold lz;rw[zzb (by omega),h];simp only;rw[zzb (by simp[hm]),zzc ha]
def gwj{g:ib}{d:DS}{p:Δ}{k:Int}{x:mc}(hk:0<=k)(h:jQ g d.off p= .ok x)(hm:(iq g d).2=0)(ha:((iq g d).1.2.append x.file (x.b.take (k.toNat % x.b.length))).2=0):
  lz g d p k=(({(iq g d).1.1 with iC:=some ⟨x.file,if x.fresh=true then 0 else pU g.bF,x.fresh⟩},((iq g d).1.2.append x.file (x.b.take (k.toNat % x.b.length))).1),0):=by
 unfold lz;rw[zzb (by omega),h];simp only;rw[zzb (by simp[hm]),zzb (by simp[ha]),(xz g d).1]
def QZ(X:Η)(lp dp:Nat)(g:ib)(d:DS)(v:Ω)(p:Δ)(k:Int)(hv:iV X v p)(hp:p.length<=140737488355328){M N:Nat}(hg:g.Ok M)(hM:M<=1000000000000)(eW:d.Ok N)(hN:N<=140737480000000)(iY:d.ops<=90000):
  SP 344 [.pointer (some ⟨lp,0,none⟩),v,.int .i64 k] [.ob (ir lp dp g),.ob (cw dp d),X] (e_ (.int .i64 (lz g d p k).2) [.ob (ir lp dp (lz g d p k).1.1),.ob (cw dp (lz g d p k).1.2),X]):=by
 refine Enzz λW F w hS=>?_;apply h_9;delta R3 aI bW a_ ia b_ gi ai bI;obtain⟨va,vc,rfl,LA⟩:=hv.sl hS Xh;refine cF (λhk=>?_) (λhk=>?_)
 ·have:lz g d p k=((g,d),1):=by unfold lz;rw[zzc hk]
  rw[this];(exact dW hS)
 have hk:0<=k:=by omega
 refine Cc (ZI X lp dp g d _ p hv hp hg (by omega) eW (by omega) (by omega)) ?_;clear hS;rintro r post hQ w hS;cases jz:jQ g d.off p with
 | error e=>
  rw[jz]at hQ
  obtain⟨hz,rfl,rfl⟩:=hQ;rw[gwi hk jz];refine Gm λb w hS=>?_;refine⟨λvs w=>vs=[.int .i64 e]/\SL W (.ob (ir lp dp g)::.ob (cw dp d)::X::F) w,?_,?_⟩
  ·refine Gp ?_;refine za (λh=>absurd h hz) (λ_=>⟨rfl,aW hS⟩)
  clear hS;rintro v7 w ⟨jR,hS⟩;cases jR;refine Gp ?_;refine za (λ_=>?_) (λh=>absurd hz h);(exact dW hS)
 | ok x=>
  rw[jz]at hQ
  obtain⟨a,c,rfl,rfl⟩:=hQ;have hw:=IL hg jz;have Ia:=IF (g:=g) eW;have DL:=L_ (d:=d) hg;have DM:=xz g d;have wu:=X7 g d;have uN:=hw.bl;have hpp:=hw.pl;have Cu:=hw.pos;refine Gm λb w hS=>?_;obtain⟨wb,rfl⟩:∃k,k=b:=⟨b,rfl⟩;by_cases hm:(iq g d).2=0
  ·have Ad:=gwj hk jz hm;have Fq:=gwg hk jz hm;generalize lz g d p k=G at *
   generalize iq g d=m at *
   obtain⟨⟨g1,d1⟩,me⟩:=m;simp only at *
   subst hm;obtain⟨kn,rfl⟩:=xx8 hk;simp only[zzv]at Fq Ad;generalize hq:kn % x.b.length=q at *
   have Ie:q<=x.b.length:=by
    have:=vvh kn (show 0<x.b.length by omega);omega
   refine⟨λvs w=>vs=[.int .i64 (d1.append x.file (x.b.take q)).2]/\SL W (.pt wb [.int .i64 x.file,.bool x.fresh,.slice a x.b.length c] 343::.ob (bR (.slice a x.b.length c) 5 1 x.b.length (x.b.map ic))::.ob (ir lp dp g1)::.ob (cw dp (d1.append x.file (x.b.take q)).1)::X::F) w,?_,?_⟩
   ·refine Gp ?_;refine za (λ_=>?_) (λh=>absurd rfl h);obtain⟨sv,tv,xs,hx,hS⟩:=ir.iff.1 (SL.cR hS (t:=.ob (ir lp dp g1)::.pt wb [.int .i64 x.file,.bool x.fresh,.slice a x.b.length c] 343::.ob (bR (.slice a x.b.length c) 5 1 x.b.length (x.b.map ic))::.ob (cw dp d1)::X::F) Xi);refine Gn λw hS=>?_;rw[hq];have iP:iV (.ob (bR (.slice a x.b.length c) 5 1 x.b.length (x.b.map ic))) (.slice a x.b.length c) x.b:=iV.own;refine awj hS Xh iP Ie ?_;intro u hu;refine Cg (JQ (.ob (bR (.slice a x.b.length c) 5 1 x.b.length (x.b.map ic))) dp d1 N Ia (by omega) x.file u (x.b.take q) (λhS h=>hu.src hS h) (by rw[zzf];omega)) λw hS=>?_;have hS:=ir.iff.2 ⟨sv,tv,xs,hx,SL.cR hS (t:=.pt lp (jM sv tv dp g1.base g1.size) 186::jL sv xs::.ob (zg iS xs)::.ob (jZ tv g1.iC)::.pt wb [.int .i64 x.file,.bool x.fresh,.slice a x.b.length c] 343::.ob (bR (.slice a x.b.length c) 5 1 x.b.length (x.b.map ic))::.ob (cw dp (d1.append x.file (x.b.take q)).1)::X::F) Xi⟩;exact aW hS
   clear hS;rintro v7 w ⟨jR,hS⟩;cases jR;by_cases ha:(d1.append x.file (x.b.take q)).2=0
   ·rw[ha];have hG:=Ad ha;subst hG;refine Gp ?_;refine za (λh=>absurd rfl h) (λ_=>?_);obtain⟨sv,tv,xs,hx,hS⟩:=ir.iff.1 (SL.cR hS (t:=.ob (ir lp dp g1)::.pt wb [.int .i64 x.file,.bool x.fresh,.slice a x.b.length c] 343::.ob (cw dp (d1.append x.file (x.b.take q)).1)::X::F) Xi);refine Gp ?_;refine⟨_,rfl,zD hS ?_⟩;clear hS;intro tb w hS;have Wg:=aWm (SL.cR hS (t:=.ob (jZ tv g1.iC)::F) Xi);refine Gn λw hS=>?_;cases hf:x.fresh with
    | true=>
     rw[hf]at hS
     refine zp ?_;simp only[ww7];have hS:=(C' (v:=.pointer (some ⟨tb,0,none⟩)) (x:=⟨x.file,0,true⟩)).2 ⟨tb,rfl,SL.cR hS (t:=.pt tb [.int .i64 x.file,.int .i64 0,.bool true] 454::.pt lp (jM sv (.pointer (some ⟨tb,0,none⟩)) dp g1.base g1.size) 186::jL sv xs::.ob (zg iS xs)::.ob (cw dp (d1.append x.file (x.b.take q)).1)::X::F) Xi⟩;have hS:=(ir.iff (g:={bF:=g1.bF,base:=g1.base,size:=g1.size,iC:=some ⟨x.file,0,true⟩})).2 ⟨sv,_,xs,hx,SL.cR hS (t:=.pt lp (jM sv (.pointer (some ⟨tb,0,none⟩)) dp g1.base g1.size) 186::jL sv xs::.ob (zg iS xs)::.ob (jZ (.pointer (some ⟨tb,0,none⟩)) (some ⟨x.file,0,true⟩))::.ob (cw dp (d1.append x.file (x.b.take q)).1)::X::F) Xi⟩;exact dW hS
    | false=>
     rw[hf]at hS
     refine zq ?_;simp only[vvl,vvn];obtain⟨_,oC,_,_⟩:=DL.xs hx;obtain⟨s,DK,hsf⟩:=hw.s3 hf;rw[<- DM.1,<- hx]at DK
     have hle:0<xs.length:=by
      rcases yy8 xs.length with h0|h0
      ·rw[zzo h0]at DK;simp at DK
      exact h0
     have hj:xs.length-1<xs.length:=by omega
     have hsx:s=(xs[xs.length-1]'hj).pl:=by
      rw[uul,xxy,zzd hj]at DK
      exact (xx2 DK).symm
     have Lc:pU g.bF=((xs[xs.length-1]'hj).size:Nat):=by
      unfold pU;rw[<- DM.1,<- hx,DK,hsx];rfl
     rw[Lc];refine Gn λw hS=>?_;refine zN hS (v:=sv) (t:=268) (sz:=4) (n:=xs.length) (cells:=(xs.map ku).flatten) Xh ?_;refine Gp ?_;have e:((xs.length:Nat):Int)-1=((xs.length-1:Nat):Int):=by omega
     rw[e];refine Y0 (i:=2) hS Xh hj (u:=.int .i64 ((xs[xs.length-1]'hj).size:Nat)) rfl ?_;generalize (xs[xs.length-1]'hj).size=z at *
     refine Gn λw hS=>?_;have hS:=(C' (v:=.pointer (some ⟨tb,0,none⟩)) (x:=⟨x.file,(z:Int),false⟩)).2 ⟨tb,rfl,SL.cR hS (t:=.pt tb [.int .i64 x.file,.int .i64 (z:Int),.bool false] 454::.pt lp (jM sv (.pointer (some ⟨tb,0,none⟩)) dp g1.base g1.size) 186::jL sv xs::.ob (zg iS xs)::.ob (cw dp (d1.append x.file (x.b.take q)).1)::X::F) Xi⟩;have hS:=(ir.iff (g:={bF:=g1.bF,base:=g1.base,size:=g1.size,iC:=some ⟨x.file,(z:Int),false⟩})).2 ⟨sv,_,xs,hx,SL.cR hS (t:=.pt lp (jM sv (.pointer (some ⟨tb,0,none⟩)) dp g1.base g1.size) 186::jL sv xs::.ob (zg iS xs)::.ob (jZ (.pointer (some ⟨tb,0,none⟩)) (some ⟨x.file,(z:Int),false⟩))::.ob (cw dp (d1.append x.file (x.b.take q)).1)::X::F) Xi⟩;exact dW hS
   have hG:=Fq ha;subst hG;refine Gp ?_;refine za (λ_=>?_) (λh=>absurd ha h);(exact dW hS)
  rw[gwk hk jz hm];refine⟨λvs w=>vs=[.int .i64 (iq g d).2]/\SL W (.ob (ir lp dp (iq g d).1.1)::.ob (cw dp (iq g d).1.2)::X::F) w,?_,?_⟩
  ·refine Gp ?_;refine za (λh=>absurd h hm) (λ_=>⟨rfl,aW hS⟩)
  clear hS;rintro v7 w ⟨jR,hS⟩;cases jR;refine Gp ?_;refine za (λ_=>?_) (λh=>absurd hm h);(exact dW hS)
def Zo(lp dp:Nat)(g:ib)(d:DS)(n:Int){M N:Nat}(hg:g.Ok M)(hM:M<=1000000000000)(eW:d.Ok N)(iY:d.ops+g.bF.length<=100000):
  SP 182 [.pointer (some ⟨lp,0,none⟩),.int .i64 n] [.ob (ir lp dp g),.ob (cw dp d)] (e_ (.int .i64 (mv g d n).2) [.ob (ir lp dp (mv g d n).1.1),.ob (cw dp (mv g d n).1.2)]):=by
 refine Enzz λW F w hS=>?_;apply gRh;delta OP aI bW a_ b_ ai;obtain⟨sv,tv,xs,hx,hS⟩:=ir.iff.1 hS;refine Gp ?_;refine Cg (zK dp d) λw hS=>?_;refine yF (λho=>?_) (λho=>?_)
 ·have e:mv g d n=((g,d),8):=by unfold mv;rw[zzc ho]
  rw[e];have hS:=(ir.iff (g:=g)).2 ⟨sv,tv,xs,hx,SL.cR hS (t:=.pt lp (jM sv tv dp g.base g.size) 186::jL sv xs::.ob (zg iS xs)::.ob (jZ tv g.iC)::.ob (cw dp d)::F) Xi⟩;exact dW hS
 have e:mv g d n=(({g with bF:=(mw g.bF d n).1.1},(mw g.bF d n).1.2),(mw g.bF d n).2):=by unfold mv;rw[zzb (by rw[ho];decide)]
 rw[e];have l8:∀{w:Α} {sv:Ω} {xs:List iR} {d':DS},SL W (.pt lp (jM sv tv dp g.base g.size) 186::jL sv xs::.ob (zg iS xs)::.ob (jZ tv g.iC)::.ob (cw dp d')::F) w->SL W (.ob (ir lp dp {g with bF:=xs.map iR.pl})::.ob (cw dp d')::F) w:=λh=>(ir.iff (g:={g with bF:=_})).2 ⟨_,tv,_,rfl,h⟩;refine⟨λvs w=>vs=[]/\∃a c ik d',mw g.bF d n=mw (ik.map iR.pl) d' n/\(∀s∈ik.map iR.pl,po s M)/\ik.length<=M/\d'.Ok N/\d'.ops+ik.length<=100000/\SL W (.pt lp (jM (.slice a ik.length c) tv dp g.base g.size) 186::jL (.slice a ik.length c) ik::.ob (zg iS ik)::.ob (jZ tv g.iC)::.ob (cw dp d')::F) w,
  λ_ w=>match w.cell? ⟨lp,0,none⟩ with|some (.slice _ n _)=>n|_=>0,?_,?_⟩
 ·obtain⟨a,c,rfl,_⟩:=iB.at hS (v:=sv) (t:=268) (sz:=4) (n:=xs.length) (cells:=(xs.map ku).flatten) Xh;have hl:xs.length=g.bF.length:=by rw[<- hx,zzs]
  exact⟨rfl,a,c,xs,d,by rw[hx],by rw[hx];exact hg.bF,by rw[hl];exact hg.ln,eW,by rw[hl];exact iY,aW hS⟩
 clear hS hx;rintro w ⟨-,a,c,ik,d',DW,FX,hlen,VW,Lm,hS⟩;rw[DW];have Cb:=hS.cell (b:=lp) (o:=0) .hd rfl;refine cF (λh1=>?_) (λh1=>?_)
 ·match ik,h1,FX,hlen,DW,Lm,hS,Cb with
  | x0::x1::r,_,FX,hlen,DW,Lm,hS,Cb=>
  have Cy:=FX x0.pl (by simp);have rr:mw ((x0::x1::r).map iR.pl) d' n=if x0.pl.next-1<=n then (if (d'.remove x0.pl.file).2≠0 then (((x0::x1::r).map iR.pl,(d'.remove x0.pl.file).1),(d'.remove x0.pl.file).2) else mw ((x1::r).map iR.pl) (d'.remove x0.pl.file).1 n) else (((x0::x1::r).map iR.pl,d'),0):=by
   simp only[zzn];rw[mw]
  have k0:=Cy.n0;have k1:=Cy.n1;have k2:=Cy.ln;have ud:x0.pl.next=x0.pl.first+x0.pl.l.length:=rfl;refine Gp ?_;refine ZQ (j:=0) hS Xh (by simp) ?_;show zQ _ _ [.agg (ku x0).toArray] _ _;refine Cg (y5 x0 Cy (by omega)) λw hS=>?_;refine za (λh2=>?_) (λh2=>?_)
  ·rw[zzc h2]at rr
   refine Gn λw hS=>?_;refine Y0 (j:=0) (i:=0) hS Xh (by simp) (u:=.int .i64 x0.file) rfl ?_;refine Cg (yO dp d' N VW (by omega) x0.file) λw hS=>?_;have Ah:=VW.remove x0.file;have Lr:=X8 d' x0.file;have DY:x0.pl.file=x0.file:=rfl;rw[DY]at rr
   refine za (λh3=>?_) (λh3=>?_)
   ·rw[rr,zzc h3];have hS:=l8 (aW hS);exact dW hS
   rw[zzb h3]at rr
   rw[rr]at DW ⊢
   refine Gp ?_;refine Yc (k:=1) (SL.cR hS (t:=jL (.slice a (x0::x1::r).length c) (x0::x1::r)::.pt lp (jM (.slice a (x0::x1::r).length c) tv dp g.base g.size) 186::.ob (zg iS (x0::x1::r))::.ob (jZ tv g.iC)::.ob (cw dp (d'.remove x0.file).1)::F) Xi) (by simp) ?_;clear hS;intro u hS;have e1:(x0::x1::r).length-1=(x1::r).length:=by simp
   have e2:((x0::x1::r).map ku).flatten.drop (1*4)=((x1::r).map ku).flatten:=by simp[ku]
   rw[e1,e2]at hS
   obtain⟨ua,uc,rfl,_⟩:=iB.at hS (v:=u) .hd;have hS:=zg.take (t:=0) (x:=x0) (SL.cR hS (t:=.ob (zg iS (x0::x1::r))::.ob (iB (.slice ua (x1::r).length uc) 268 4 (x1::r).length ((x1::r).map ku).flatten)::.pt lp (jM (.slice a (x0::x1::r).length c) tv dp g.base g.size) 186::.ob (jZ tv g.iC)::.ob (cw dp (d'.remove x0.file).1)::F) Xi) rfl;have e3:(x0::x1::r).eraseIdx 0=x1::r:=rfl;rw[e3]at hS
   refine Gn λw hS=>?_;have lP:=hS.cell (b:=lp) (o:=0) (cs:=jM (.slice ua (x1::r).length uc) tv dp g.base g.size) (t:=186) Xh rfl;refine⟨⟨rfl,ua,uc,x1::r,(d'.remove x0.file).1,rfl,λs hs=>FX s (by simp at hs ⊢;exact .inr hs),by simp at hlen ⊢;omega,Ah,by simp at Lm ⊢;omega,aW hS⟩,?_⟩;dsimp only;rw[lP,Cb];simp
  rw[rr,zzb h2];have hS:=l8 (aW hS);exact dW hS
 have rr:mw (ik.map iR.pl) d' n=((ik.map iR.pl,d'),0):=by
  match ik,h1 with
  | [],_=>rfl
  | [x],_=>rfl
  | _::_::_,h1=>simp at h1;omega
 rw[rr];have hS:=l8 (aW hS);exact dW hS
def qk(lp dp:Nat)(g:ib)(d:DS){M N:Nat}(xg:0<=g.base)(KM:g.base<=12288)(eW:d.Ok N)(hR:d.R.length<=100000):
  SP 195 [.pointer (some ⟨lp,0,none⟩)] [.ob (ir lp dp g),.ob (cw dp d)] (λv post=>post=[.ob (bR v 3 1 (kM g.base d.R).length ((kM g.base d.R).map (Value.int .i64))),.ob (ir lp dp g),.ob (cw dp d)]):=by
 refine Enzz λW F w hS=>?_;apply gRr;delta OZ aI bW ai bI;obtain⟨sv,tv,xs,hx,hS⟩:=ir.iff.1 hS;refine Gp ?_;refine Cc (ZE dp d N eW hR) ?_;clear hS;rintro fl post rfl w hS;try simp only[app]at hS
 refine zt hS (t:=3) (sz:=1) (n:=d.R.length) (cells:=d.R.map λx=>.int .i64 x.id) Xh ?_;have hS:SL W (.ob (bR (.slice none 0 0) 3 1 (kM g.base (d.R.take 0)).length ((kM g.base (d.R.take 0)).map (Value.int .i64)))::_) w:=bR.nil hS;refine⟨λvs w=>∃(u:Ω) (i:Nat),i<=d.R.length/\vs=[u,.int .i64 i]/\SL W (.ob (bR u 3 1 (kM g.base (d.R.take i)).length ((kM g.base (d.R.take i)).map (Value.int .i64)))::.pt lp (jM sv tv dp g.base g.size) 186::jL sv xs::.ob (zg iS xs)::.ob (jZ tv g.iC)::.ob (cw dp d)::.ob (bR fl 3 1 d.R.length (d.R.map λx=>.int .i64 x.id))::F) w,
  λvs _=>match vs with|[_,.int _ i]=>(d.R.length-i).toNat|_=>0,⟨.slice none 0 0,0,by omega,rfl,aW hS⟩,?_⟩
 clear hS;rintro v3 v12 w ⟨u,i,hi,jR,hS⟩;cases jR;refine cF (λh=>?_) (λh=>?_)
 ·have d_:i<d.R.length:=by omega
  have hu:(d.R.map λx=>Value.int .i64 x.id)[i]?=some (.int .i64 d.R[i].id):=by simp[d_]
  have iez:(kM g.base (d.R.take i)).length<=100000:=by
   unfold kM;have:=yyp (λf=>decide (g.base<=f/\f<g.base+4096)) ((d.R.take i).map PF.id);rw[zzs,zzf]at this
   omega
  have pB:kM g.base (d.R.take (i+1))=kM g.base (d.R.take i)++if g.base<=d.R[i].id/\d.R[i].id<g.base+4096 then [d.R[i].id] else []:=by
   unfold kM;rw[wwr,zzd d_,zzt,yy0];congr 1;simp only[Option.toList_some,zzn,yy4,vvz,List.filter_nil,zzx]
  have sr:∀{w:Α} {u:Ω},(kM g.base (d.R.take (i+1))=kM g.base (d.R.take i))->SL W (.ob (bR u 3 1 (kM g.base (d.R.take i)).length ((kM g.base (d.R.take i)).map (Value.int .i64)))::.pt lp (jM sv tv dp g.base g.size) 186::jL sv xs::.ob (zg iS xs)::.ob (jZ tv g.iC)::.ob (cw dp d)::.ob (bR fl 3 1 d.R.length (d.R.map λx=>.int .i64 x.id))::F) w ->
    (∃(u':Ω) (i':Nat),i'<=d.R.length/\[u,Value.int .i64 ((i+1:Nat):Int)]=[u',.int .i64 i']/\SL W (.ob (bR u' 3 1 (kM g.base (d.R.take i')).length ((kM g.base (d.R.take i')).map (Value.int .i64)))::.pt lp (jM sv tv dp g.base g.size) 186::jL sv xs::.ob (zg iS xs)::.ob (jZ tv g.iC)::.ob (cw dp d)::.ob (bR fl 3 1 d.R.length (d.R.map λx=>.int .i64 x.id))::F) w):=λe h=>⟨_,i+1,by omega,rfl,by rw[e];exact h⟩
  refine yg hS (t:=3) Xh d_ hu ?_;refine cF (λh1=>?_) (λh1=>?_)
  ·refine cF (λh2=>?_) (λh2=>?_)
   ·rw[zzc ⟨h1,h2⟩]at pB
    refine Gm λb w hS=>?_;refine zI (m:=1) (cs:=[.int .i64 d.R[i].id]) hS Xr (oG hS .hd rfl) rfl rfl (by simp[Value.oneCell']) (by omega) (by omega) ?_;clear hS;intro v' w hS;have e1:(kM g.base (d.R.take i)).length+1=(kM g.base (d.R.take (i+1))).length:=by rw[pB,zza];rfl
    have e2:(kM g.base (d.R.take i)).map (Value.int .i64)++[Value.int .i64 d.R[i].id]=(kM g.base (d.R.take (i+1))).map (Value.int .i64):=by rw[pB,zzt];rfl
    rw[e1,e2]at hS
    refine Gp ?_;exact⟨⟨v',i+1,by omega,rfl,aW hS⟩,by dsimp only;omega⟩
   rw[zzb (by omega),zzw]at pB
   refine Gp ?_;exact⟨sr pB hS,by dsimp only;omega⟩
  rw[zzb (by omega),zzw]at pB
  refine Gp ?_;exact⟨sr pB hS,by dsimp only;omega⟩
 have nX:i=d.R.length:=by omega
 subst nX;rw[zz1]at hS
 have hS:=(ir.iff (g:=g)).2 ⟨sv,tv,xs,hx,SL.cR hS (t:=.pt lp (jM sv tv dp g.base g.size) 186::jL sv xs::.ob (zg iS xs)::.ob (jZ tv g.iC)::.ob (bR v3 3 1 (kM g.base d.R).length ((kM g.base d.R).map (Value.int .i64)))::.ob (cw dp d)::F) Xi⟩;exact⟨_,rfl,aW hS⟩
def f_k(f:Nat):∀b:Δ,b.length<f->(∀p∈(nu b).1,p.length<=1048576)/\(nu b).1.length<=(nu b).2:=by
 induction f with
 | zero=>intro b h;omega
 | succ f ih=>
  intro b hb;cases h:lY b with
  | error e=>rw[Gy h];exact⟨by simp,by simp⟩
  | ok x=>
   obtain⟨p,n⟩:=x;have h2:=GD h;obtain⟨i1,i2⟩:=ih (b.drop n) (by rw[zzq];omega);rw[I6 h];refine⟨λq hq=>?_,?_⟩
   ·rcases zz7.1 hq with rfl|hq
    ·exact h2.2.2.1
    exact i1 q hq
   show (p::(nu (b.drop n)).1).length<=n+(nu (b.drop n)).2;rw[zzj];omega
def aiw{q:Δ}{f:Int}{l:List (Δ)}{n:Nat}(h:mF q=some (f,l,n)):1<=f/\f<=1099511627776/\n<=q.length/\l.length<=q.length/\∀p∈l,p.length<=1048576:=by
 obtain⟨h1,h2⟩:=f_k (q.length+1) q (by omega);have h3:=f_j (q.length+1) q (by omega);unfold mF at h;split at h
 ·cases h
 rename_i hd l' hs;rw[hs]at h1 h2
 cases hh:tY hd with
 | none=>rw[hh]at h;cases h
 | some k=>
  rw[hh]at h
  cases h;have hk:1<=f/\f<=1099511627776:=by
   unfold tY at hh;split at hh
   ·unfold HK at hh;split at hh
    ·split at hh
     ·rename_i hc;cases hh;exact⟨hc.2.1,hc.2.2⟩
     cases hh
    cases hh
   cases hh
  refine⟨hk.1,hk.2,h3,?_,λp hp=>h1 p (.tail _ hp)⟩;rw[zzj]at h2;omega
def ve(R:List PF)(base:Int)(N:Nat):Prop:=∀x∈R,base<=x.id->x.id<base+4096->x.b.length<=N
def ve.all{R:List PF}{N:Nat}(h:∀x∈R,x.b.length<=N)(base:Int):ve R base N:=λx hx _ _=>h x hx
def ve.at_{R:List PF}{base:Int}{N:Nat}(h:ve R base N){f:Int}(hf:base<=f/\f<base+4096):∀x,iQ PF.id R f=some x->x.b.length<=N:=λx hx=>by
 obtain⟨h1,h2⟩:=xW hx;have h2:x.id=f:=h2;exact h x h1 (by omega) (by omega)
def W6{L:List il}{R:List PF}{f:Int}{last:Bool}{M N:Nat}(hR:∀x,iQ PF.id R f=some x->x.b.length<=N)(hN:N<=M)(f0:0<=f)(f1:f<=100000)(hL:∀s∈L,po s M):(∀s∈(na L R f last).2,po s M)/\(na L R f last).2.length<=L.length+1:=by
 have hq:(((iQ PF.id R f).map PF.b).getD []).length<=N:=by
  cases hg:iQ PF.id R f with
  | none=>simp
  | some x=>exact hR x hg
 unfold na;generalize ((iQ PF.id R f).map PF.b).getD []=q at *
 simp only;cases hr:mF q with
 | none=>exact⟨hL,by simp⟩
 | some y=>
  obtain⟨k,l,n⟩:=y;have:=aiw hr;simp only;split
  ·exact⟨hL,by simp⟩
  refine⟨λs hs=>?_,by simp⟩;rcases zz0.1 hs with hs|hs
  ·exact hL s hs
  rw[zz3.1 hs];exact⟨f0,f1,this.1,this.2.1,by show n<=M;omega,by show l.length<=M;omega,this.2.2.2.2⟩
def Qx(lp dp:Nat)(g:ib)(d:DS)(f:Int)(last:Bool){M B N:Nat}(hg:g.Ok M)(hM:M<=1000000000000)(eW:d.Ok B)(hB:B<=140737488355328)(hfN:∀x,iQ PF.id d.R f=some x->x.b.length<=N)(hN:N<=10000000000):
  SP 196 [.pointer (some ⟨lp,0,none⟩),.int .i64 f,.bool last] [.ob (ir lp dp g),.ob (cw dp d)] (e_ (.tuple #[.bool (na g.bF d.R f last).1.1,.bool (na g.bF d.R f last).1.2]) [.ob (ir lp dp {g with bF:=(na g.bF d.R f last).2}),.ob (cw dp d)]):=by
 refine Enzz λW F w hS=>?_;apply gRs;delta O0 aI bW a_ aR b_ gi ai bI;obtain⟨sv,tv,xs,hx,hS⟩:=ir.iff.1 hS;obtain⟨DZ,oC,hh0,HU⟩:=hg.xs hx;have rO:f_ (xs.map iR.pl)=f_ g.bF:=by rw[hx]
 have HS:g.bF.length=xs.length:=by rw[<- hx,zzs]
 refine Gp ?_;refine Cc (Z8 dp d B eW hB f) ?_;clear hS;rintro r post hQ w hS;have hq:(((iQ PF.id d.R f).map PF.b).getD []).length<=N:=by
  cases hg:iQ PF.id d.R f with
  | none=>simp
  | some x=>exact hfN x hg
 have A5:na g.bF d.R f last=match mF (((iQ PF.id d.R f).map PF.b).getD []) with
  | none=>((false,last),g.bF)
  | some (first,l,n)=>if (last=false/\(n≠(((iQ PF.id d.R f).map PF.b).getD []).length\/l.length=0))\/(0<g.bF.length/\first≠f_ g.bF+1)\/1099511627776<first+l.length-1 then ((true,false),g.bF)
   else ((true,true),g.bF++[⟨f,first,n,l⟩]):=rfl
 have iP:∃(X:Η) (a:Option Addr) (c:Nat) (bb:Bool),r= .tuple #[.slice a (((iQ PF.id d.R f).map PF.b).getD []).length c,.bool bb]/\iV X (.slice a (((iQ PF.id d.R f).map PF.b).getD []).length c) (((iQ PF.id d.R f).map PF.b).getD [])/\SL W (X::.ob (cw dp d)::.pt lp (jM sv tv dp g.base g.size) 186::jL sv xs::.ob (zg iS xs)::.ob (jZ tv g.iC)::F) w:=by
  unfold EM at hQ;cases hg:iQ PF.id d.R f with
  | none=>
   rw[hg]at hQ
   obtain⟨rfl,rfl⟩:=hQ;try simp only[app]at hS
   exact⟨.mem bw.emp,none,0,false,rfl,iV.nil,SL.cR hS.L8 Xi⟩
  | some x=>
   rw[hg]at hQ
   obtain⟨u,rfl,rfl⟩:=hQ;try simp only[app]at hS
   obtain⟨a,c,rfl,_⟩:=bR.at hS (v:=u) (t:=5) (sz:=1) (n:=x.b.length) (cells:=x.b.map ic) Xh;exact⟨.ob (bR (.slice a x.b.length c) 5 1 x.b.length (x.b.map ic)),a,c,true,rfl,iV.own,aW hS⟩
 clear hS hQ;obtain⟨X,a,c,bb,rfl,hX,hS⟩:=iP;rw[A5];clear A5;generalize ((iQ PF.id d.R f).map PF.b).getD []=q at *
 refine Gp ?_;refine Cc (Y5 X _ q hX (by omega)) ?_;clear hS;rintro r post hQ w hS;unfold GV at hQ;cases hr:mF q with
 | none=>
  rw[hr]at hQ
  obtain⟨rfl,rfl⟩:=hQ;(try simp only[app]at hS);refine Gp ?_
  refine za (λ_=>?_) (λh=>absurd (by decide) h);have hS:=(ir.iff (g:=g)).2 ⟨sv,tv,xs,hx,SL.cR hS (t:=.pt lp (jM sv tv dp g.base g.size) 186::jL sv xs::.ob (zg iS xs)::.ob (jZ tv g.iC)::.ob (cw dp d)::F) Xi⟩;exact dW hS
 | some y=>
  obtain⟨first,l,n⟩:=y;have Ah:=aiw hr;rw[hr]at hQ
  obtain⟨u,es,he,rfl,rfl⟩:=hQ;try simp only[app]at hS
  have AZ:l.length=es.length:=by rw[<- he,Db]
  obtain⟨ua,uc,rfl,_⟩:=iB.at hS (v:=u) .hd;obtain⟨r1,r2,r3,r4,r5⟩:=Ah;simp only[AZ,HS];have igm:po (iR.pl ⟨f,first,n,es,ua,uc⟩) M\/True:=.inr trivial;refine Gp ?_;refine za (λh=>absurd rfl h) (λ_=>?_);refine Gm λb w hS=>?_;obtain⟨sb,rfl⟩:∃k,k=b:=⟨b,rfl⟩;obtain⟨I,hI⟩:∃I:Γ->Α->Prop,I=λvs w=>∃bad:Bool,vs=[.bool bad]/\(bad=true↔((last=false/\(n≠q.length\/es.length=0))\/(0<xs.length/\first≠f_ g.bF+1)\/1099511627776<first+es.length-1)) /\
   SL W (.pt sb [.int .i64 f,.int .i64 first,.int .i64 n,.slice ua es.length uc] 268::.ob (iB (.slice ua es.length uc) 205 1 es.length (lD es))::.ob (zg lN es)::.ob (cw dp d)::.pt lp (jM sv tv dp g.base g.size) 186::jL sv xs::.ob (zg iS xs)::.ob (jZ tv g.iC)::F) w:=⟨_,rfl⟩
  refine⟨I,?_,?_⟩
  ·have lU:∀(w:Α) (K:Ω->Α->Prop),¬(last=false/\(n≠q.length\/es.length=0))->SL W (.pt sb [.int .i64 f,.int .i64 first,.int .i64 n,.slice ua es.length uc] 268::.ob (iB (.slice ua es.length uc) 205 1 es.length (lD es))::.ob (zg lN es)::.ob (cw dp d)::.pt lp (jM sv tv dp g.base g.size) 186::jL sv xs::.ob (zg iS xs)::.ob (jZ tv g.iC)::F) w ->
     (∀(bad:Bool) w,(bad=true↔((last=false/\(n≠q.length\/es.length=0))\/(0<xs.length/\first≠f_ g.bF+1)\/1099511627776<first+es.length-1))->SL W (.pt sb [.int .i64 f,.int .i64 first,.int .i64 n,.slice ua es.length uc] 268::.ob (iB (.slice ua es.length uc) 205 1 es.length (lD es))::.ob (zg lN es)::.ob (cw dp d)::.pt lp (jM sv tv dp g.base g.size) 186::jL sv xs::.ob (zg iS xs)::.ob (jZ tv g.iC)::F) w->K (.bool bad) w) ->
     (Y6 (.pointer (some ⟨lp,0,none⟩)) λv54=>zn 0 v54 λv55=>zn 0 v55 λv56=>cI v56 w λv57=>zd v57 λv58=>zc .gtr v58 (.int .i64 0) λv59=>
      iy v59
      (Y6 (.pointer (some ⟨lp,0,none⟩)) λv63=>zn 0 v63 λv64=>aF 101 [v64] w λv65 Nb=>zc .add v65 (.int .i64 1) λv66=>zc .neq (.int .i64 first) v66 λv67=>
       iy v67 (K (.bool true) Nb)
       (ze 4 (.pointer (some ⟨sb,0,none⟩)) Nb λv71=>aF 152 [v71] Nb λv72 w_6=>zc .sub v72 (.int .i64 1) λv73=>zc .gtr v73 (.int .i64 1099511627776) λv74=>K v74 w_6))
      (ze 4 (.pointer (some ⟨sb,0,none⟩)) w λgw8=>aF 152 [gw8] w λgw9 w_7=>zc .sub gw9 (.int .i64 1) λgFb=>zc .gtr gFb (.int .i64 1099511627776) λgFd=>K gFd w_7)):=by
    intro w K hn hS hK;clear bb;refine Gp ?_;refine zN hS (v:=sv) (t:=268) (sz:=4) (n:=xs.length) (cells:=(xs.map ku).flatten) Xh ?_;refine cF (λh1=>?_) (λh1=>?_)
    ·refine Gp ?_;refine Cg (ye lp (jM sv tv dp g.base g.size) 186 sv xs rfl DZ (by omega) (by omega)) λw hS=>?_;rw[rO];refine za (λh2=>?_) (λh2=>?_)
     ·refine hK true _ ⟨λ_=>.inr (.inl ⟨by omega,by omega⟩),λ_=>rfl⟩ (aW hS)
     refine Gp ?_;refine Cg (yS f first n ua es.length uc (by omega) (by omega)) λw hS=>?_;refine hK _ _ ⟨λh=>.inr (.inr (by simpa using h)),λh=>?_⟩ (aW hS);rcases h with h|h|h
     ·exact absurd h hn
     ·omega
     simpa using h
    refine Gp ?_;refine Cg (yS f first n ua es.length uc (by omega) (by omega)) λw hS=>?_;refine hK _ _ ⟨λh=>.inr (.inr (by simpa using h)),λh=>?_⟩ (aW hS);rcases h with h|h|h
    ·exact absurd h hn
    ·omega
    simpa using h
   cases last with
   | false=>
    refine zZ ?_;refine zq ?_;refine cF (λh1=>?_) (λh1=>?_)
    ·rw[hI];exact⟨true,rfl,⟨λ_=>.inl ⟨rfl,.inl (by omega)⟩,λ_=>rfl⟩,aW hS⟩
    refine cF (λh2=>?_) (λh2=>?_)
    ·rw[hI];exact⟨true,rfl,⟨λ_=>.inl ⟨rfl,.inr (by omega)⟩,λ_=>rfl⟩,aW hS⟩
    exact lU w (λv w=>I [v] w) (by omega) (aW hS) (λbad w hb h=>by rw[hI];exact⟨bad,rfl,hb,h⟩)
   | true=>
    refine zZ ?_;refine zp ?_;exact lU w (λv w=>I [v] w) (by simp) (aW hS) (λbad w hb h=>by rw[hI];exact⟨bad,rfl,hb,h⟩)
  clear hS;rw[hI];rintro v75 w ⟨bad,jR,kz,hS⟩;cases jR;cases bad with
  | true=>
   refine zq ?_;rw[zzc (kz.1 rfl)];have hS:=(ir.iff (g:=g)).2 ⟨sv,tv,xs,hx,SL.cR hS (t:=.pt lp (jM sv tv dp g.base g.size) 186::jL sv xs::.ob (zg iS xs)::.ob (jZ tv g.iC)::.ob (cw dp d)::F) Xi⟩;exact dW hS
  | false=>
   refine zp ?_;rw[zzb (λh=>by have:=kz.2 h;cases this)];refine Gm λb w hS=>?_;refine ZP (t:=268) (sz:=4) (n:=xs.length) (cells:=(xs.map ku).flatten) (m:=1) (cs:=[.int .i64 f,.int .i64 first,.int .i64 n,.slice ua es.length uc]) hS Xr (oG hS .hd rfl) rfl rfl (by simp[Value.oneCell']) (by omega) (by omega) ?_;clear hS;intro oh w hS;have xq:=iB.one hS (v:=oh) .hd;refine Gn λw hS=>?_;have hS:=(iS.iff (x:=⟨f,first,n,es,ua,uc⟩)).2 (SL.cR hS (t:=.ob (iB (.slice ua es.length uc) 205 1 es.length (lD es))::.ob (zg lN es)::.ob (zg iS xs)::.ob (cw dp d)::.pt lp (jM oh tv dp g.base g.size) 186::.ob (iB oh 268 4 (xs.length+1) ((xs.map ku).flatten++[.int .i64 f,.int .i64 first,.int .i64 n,.slice ua es.length uc]))::.ob (jZ tv g.iC)::F) Xi);have hS:=zg.snoc (hS.cR (t:=.ob (zg iS xs)::.ob (iS ⟨f,first,n,es,ua,uc⟩)::.ob (cw dp d)::.pt lp (jM oh tv dp g.base g.size) 186::.ob (iB oh 268 4 (xs.length+1) ((xs.map ku).flatten++[.int .i64 f,.int .i64 first,.int .i64 n,.slice ua es.length uc]))::.ob (jZ tv g.iC)::F) Xi);have e1:xs.length+1=(xs++[(⟨f,first,n,es,ua,uc⟩:iR)]).length:=by simp
   have e2:(xs.map ku).flatten++[.int .i64 f,.int .i64 first,.int .i64 n,.slice ua es.length uc]=((xs++[(⟨f,first,n,es,ua,uc⟩:iR)]).map ku).flatten:=by simp[ku,iR.lv]
   rw[e1,e2]at hS
   have tA:(xs++[(⟨f,first,n,es,ua,uc⟩:iR)]).map iR.pl=g.bF++[⟨f,first,n,l⟩]:=by
    rw[zzt,hx];simp[iR.pl,he]
   have hS:=(ir.iff (g:={g with bF:=g.bF++[⟨f,first,n,l⟩]})).2 ⟨oh,tv,xs++[⟨f,first,n,es,ua,uc⟩],tA,SL.cR hS (t:=.pt lp (jM oh tv dp g.base g.size) 186::jL oh (xs++[⟨f,first,n,es,ua,uc⟩])::.ob (zg iS (xs++[⟨f,first,n,es,ua,uc⟩]))::.ob (jZ tv g.iC)::.ob (cw dp d)::F) Xi⟩;exact dW hS
def Y7(lp dp:Nat)(g:ib)(d:DS)(iv:Ω)(ids:Ξ)(whole:Bool){M N:Nat}(hg:g.Ok M)(hM:M<=1000000000000)(eW:d.Ok N)(hN:N<=140737488355328)(iY:d.ops<=100000)(iX:whole=true->ids≠[]->g.bF≠[])(d_:ids.length<=100000):
  SP 197 [.pointer (some ⟨lp,0,none⟩),iv,.bool whole] [.ob (ir lp dp g),.ob (cw dp d),.ob (bR iv 3 1 ids.length (ids.map (Value.int .i64)))]
   (e_ (.int .i64 (nC g.bF d ids whole).2) [.ob (ir lp dp g),.ob (cw dp (nC g.bF d ids whole).1),.ob (bR iv 3 1 ids.length (ids.map (Value.int .i64)))]):=by
 refine Enzz λW F w hS=>?_;apply gRt;delta O1 aI bW a_ b_ gi ai;obtain⟨sv,tv,xs,hx,hS⟩:=ir.iff.1 hS;obtain⟨DZ,oC,_,_⟩:=hg.xs hx;have l8:∀{w:Α} {d':DS},SL W (.pt lp (jM sv tv dp g.base g.size) 186::jL sv xs::.ob (zg iS xs)::.ob (jZ tv g.iC)::.ob (cw dp d')::.ob (bR iv 3 1 ids.length (ids.map (Value.int .i64)))::F) w->SL W (.ob (ir lp dp g)::.ob (cw dp d')::.ob (bR iv 3 1 ids.length (ids.map (Value.int .i64)))::F) w:=λh=>(ir.iff (g:=g)).2 ⟨_,tv,_,hx,h⟩;refine zt hS (v:=iv) (t:=3) (sz:=1) (n:=ids.length) (cells:=ids.map (Value.int .i64)) Xh ?_;refine cF (λh=>?_) (λh=>?_)
 ·have:ids=[]:=zzo (by omega);subst this;have hS:=l8 (aW hS);exact⟨_,⟨rfl,rfl⟩,hS⟩
 have hj:ids.length-1<ids.length:=by omega
 have HS:ids.getLast?=some (ids[ids.length-1]'hj):=by rw[xxy,zzd hj]
 have dWa:ids≠[]:=λe=>by rw[e]at h;simp at h
 have hu:(ids.map (Value.int .i64))[ids.length-1]?=some (.int .i64 (ids[ids.length-1]'hj)):=by simp[hj]
 generalize (ids[ids.length-1]'hj)=f at *
 refine zt hS (v:=iv) (t:=3) (sz:=1) (n:=ids.length) (cells:=ids.map (Value.int .i64)) Xh ?_;refine Gp ?_;have e:((ids.length:Nat):Int)-1=((ids.length-1:Nat):Int):=by omega
 rw[e];refine yg hS (v:=iv) (t:=3) Xh hj hu ?_;cases whole with
 | false=>
  have hb:nC g.bF d ids false=d.remove f:=by unfold nC;rw[HS];rfl
  rw[hb];refine zZ ?_;refine zq ?_;refine Gp ?_;refine Cg (yO dp d N eW iY f) λw hS=>?_;have hS:=l8 (aW hS);exact⟨_,⟨rfl,rfl⟩,hS⟩
 | true=>
  have hb:nC g.bF d ids true=if pU g.bF<lH d.R f then d.cut f (pU g.bF) else (d,0):=by unfold nC;rw[HS];rfl
  rw[hb];refine zZ ?_;refine zp ?_;have hn:=iX rfl dWa;have hle:0<xs.length:=by
   rcases yy8 xs.length with h0|h0
   ·rw[<- hx,zzo h0]at hn;exact absurd rfl hn
   exact h0
  have tw:xs.length-1<xs.length:=by omega
  have Lc:pU g.bF=((xs[xs.length-1]'tw).size:Nat):=by
   unfold pU;rw[<- hx,uul,xxy,zzd tw];rfl
  rw[Lc];refine Gn λw hS=>?_;refine zN hS (v:=sv) (t:=268) (sz:=4) (n:=xs.length) (cells:=(xs.map ku).flatten) Xh ?_;refine Gp ?_;have e:((xs.length:Nat):Int)-1=((xs.length-1:Nat):Int):=by omega
  rw[e];refine Y0 (i:=2) hS Xh tw (u:=.int .i64 ((xs[xs.length-1]'tw).size:Nat)) rfl ?_;generalize (xs[xs.length-1]'tw).size=z at *
  refine Gp ?_;refine Cg (Yz dp d f) λw hS=>?_;refine za (λh1=>?_) (λh1=>?_)
  ·rw[zzc h1];refine Gp ?_;refine Cg (Zs dp d N eW (by omega) iY f (z:Int)) λw hS=>?_;have hS:=l8 (aW hS);exact⟨_,⟨rfl,rfl⟩,hS⟩
  rw[zzb h1];have hS:=l8 (aW hS);exact⟨_,⟨rfl,rfl⟩,hS⟩
def EL(dp:Nat)(y:DS × Except Int ib)(r:Ω)(post:Ψ):Prop:=match y.2 with
 | .error e=>e≠0/\r= .tuple #[.pointer none,.int .i64 e]/\post=[.ob (cw dp y.1)]
 | .ok g=>∃lp:Nat,r= .tuple #[.pointer (some ⟨lp,0,none⟩),.int .i64 0]/\post=[.ob (ir lp dp g),.ob (cw dp y.1)]
def W8{R:List PF}{M N:Nat}{base:Int}(hR:ve R base N)(hN:N<=M)(b0:0<=base)(b1:base<=12288):∀(ids:Ξ) (prev:Option Int) (L:List il) (wh:Bool) (k:Nat),(∀f∈ids,base<=f/\f<base+4096)->(∀s∈L,po s M)->L.length<=k->∀{L' CZ},pV R ids prev L wh=some (L',CZ)->(∀s∈L',po s M)/\L'.length<=k+ids.length
 | [],prev,L,wh,k,_,hL,hk,L',CZ,h=>by
  cases h;exact⟨hL,by simpa using hk⟩
 | f::r,prev,L,wh,k,hf,hL,hk,L',CZ,h=>by
  rw[D4]at h
  obtain⟨f0,f1⟩:=hf f (.head _);obtain⟨k1,k2⟩:=W6 (last:=r.isEmpty) (hR.at_ ⟨f0,f1⟩) hN (by omega) (by omega) hL;split at h
  ·cases h
  split at h
  ·cases h
  have:=W8 hR hN b0 b1 r _ _ _ (k+1) (λx hx=>hf x (.tail _ hx)) k1 (by omega) h;exact⟨this.1,by simp at this ⊢;omega⟩
def Wy{base:Int}{R:List PF}{f:Int}(h:f∈kM base R):base<=f/\f<base+4096:=by
 unfold kM at h;have:=(xx3.1 h).2;simpa using this
def Wx(base:Int)(R:List PF):(kM base R).length<=R.length:=by
 unfold kM;have:=yyp (λf=>decide (base<=f/\f<base+4096)) (R.map PF.id)
 rwa [zzs]at this
def fw5{d d':DS}{base size:Int}{N:Nat}(hw:ve d.R base N)(hR:d.R.length<=100000){g:ib}(h:jX d base size=(d',.ok g)):g.Ok (N+100000)/\d.off=false:=by
 unfold jX at h;split at h
 ·cases h
 rename_i hb;split at h
 ·cases h
 rename_i ho;split at h
 ·cases h
 rename_i L wh hl;obtain⟨k1,k2⟩:=W8 (M:=N+100000) hw (by omega) (by omega) (by omega) _ _ [] _ 0 (λf hf=>Wy hf) (by simp) (by simp) hl;have:=Wx base d.R;have hL:(⟨L,base,size,none⟩:ib).Ok (N+100000):=⟨k1,by show 0<=base;omega,by show base<=12288;omega,by show 64<=size;omega,by show size<=65536;omega,by show L.length<=_;omega⟩;split at h
 ·cases h
 cases h;exact⟨hL,by simpa using ho⟩
def X2(dp:Nat)(d:DS)(base size:Int){N B:Nat}(eW:d.Ok B)(hB:B<=140737488355328)(hw:ve d.R base N)(hN:N<=1000000000)(hR:d.R.length<=100000)(iY:d.ops<=100000):
  SP 138 [.pointer (some ⟨dp,0,none⟩),.int .i64 base,.int .i64 size] [.ob (cw dp d)] (EL dp (jX d base size)):=by
 refine Enzz λW F w hS=>?_;apply gF8;delta N4 aI gi ai h_ bI;by_cases KN:base<0\/12288<base\/size<64\/65536<size
 ·have e:jX d base size=(d,.error 1):=by unfold jX;rw[zzc KN]
  rw[e];have hE:∀{w:Α},SL W (.ob (cw dp d)::F) w->∃post,EL dp (d,.error 1) (.tuple #[.pointer none,.int .i64 1]) post/\SL W (app post F) w:=λh=>⟨_,⟨by decide,rfl,rfl⟩,h⟩;refine Gp ?_;refine za (λh=>hE hS) (λh1=>?_);refine Gp ?_;refine za (λh=>hE hS) (λh2=>?_);refine Gp ?_;refine za (λh=>hE hS) (λh3=>?_);refine Gp ?_;refine za (λh=>hE hS) (λh4=>by omega)
 refine Gp ?_;refine za (λh=>by omega) (λ_=>?_);refine Gp ?_;refine za (λh=>by omega) (λ_=>?_);refine Gp ?_;refine za (λh=>by omega) (λ_=>?_);refine Gp ?_;refine za (λh=>by omega) (λ_=>?_);refine Cg (zK dp d) λw hS=>?_;refine yF (λho=>?_) (λho=>?_)
 ·have e:jX d base size=(d,.error 8):=by unfold jX;rw[zzb KN,zzc ho]
  rw[e];exact⟨_,⟨by decide,rfl,rfl⟩,hS⟩
 have eo:jX d base size=match pV d.R (kM base d.R) none [] true with
  | none=>(d,.error 3)
  | some (L,whole)=>if (nC L d (kM base d.R) whole).2≠0 then ((nC L d (kM base d.R) whole).1,.error (nC L d (kM base d.R) whole).2) else ((nC L d (kM base d.R) whole).1,.ok ⟨L,base,size,none⟩):=by
  unfold jX;rw[zzb KN,zzb (by rw[ho];decide)];rfl
 rw[eo];have hi:∀f∈kM base d.R,base<=f/\f<base+4096:=λf hf=>Wy hf;have d_:=Wx base d.R;refine Gp ?_;refine⟨_,rfl,zD hS ?_⟩;clear hS;intro lp w hS;have hS:=(C9 (v:=.pointer none)).2 ⟨rfl,hS⟩;have hS:=iB.vz (a:=none) (t:=268) (sz:=4) hS;have hS:=zg.nil (A:=iS) hS;have hS:=SL.cR hS (t:=.pt lp (jM (.slice none 0 0) (.pointer none) dp base size) 186::.ob (iB (.slice none 0 0) 268 4 0 [])::.ob (zg iS [])::.ob (jZ (.pointer none) none)::.ob (cw dp d)::F) Xi;have hS:=(ir.iff (g:=⟨[],base,size,none⟩)).2 ⟨_,_,[],rfl,hS⟩;refine Cc (qk lp dp ⟨[],base,size,none⟩ d (M:=0) (N:=B) (by show 0<=base;omega) (by show base<=12288;omega) eW hR) ?_;clear hS;rintro iv post rfl w hS;(try simp only[app]at hS);generalize A2:kM base d.R=ids at *
 refine zt hS (v:=iv) (t:=3) (sz:=1) (n:=ids.length) (cells:=ids.map (Value.int .i64)) Xh ?_;refine⟨λvs w=>∃(wh:Bool) (i:Nat) (L:List il),i<=ids.length/\vs=[.bool wh,.int .i64 i]/\pV d.R ids none [] true=pV d.R (ids.drop i) (if i=0 then none else ids[i-1]?) L wh/\(∀s∈L,po s (N+100000))/\L.length<=i/\(wh=true->0<i->L≠[])/\SL W (.ob (ir lp dp ⟨L,base,size,none⟩)::.ob (cw dp d)::.ob (bR iv 3 1 ids.length (ids.map (Value.int .i64)))::F) w,
  λvs _=>match vs with|[_,.int _ i]=>(ids.length-i).toNat|_=>0,⟨true,0,[],by omega,rfl,rfl,by simp,by simp,λ_ h=>by omega,aW hS⟩,?_⟩
 clear hS;rintro v10 v43 w ⟨wh,i,L,xj,jR,rP,U6,KG,hwh,hS⟩;cases jR;have U5:(⟨L,base,size,none⟩:ib).Ok (N+100000):=⟨U6,by show 0<=base;omega,by show base<=12288;omega,by show 64<=size;omega,by show size<=65536;omega,by show L.length<=_;omega⟩;refine cF (λh1=>?_) (λh1=>?_)
 ·have hj:i<ids.length:=by omega
  have hu:(ids.map (Value.int .i64))[i]?=some (.int .i64 ids[i]):=by simp[hj]
  have xh:=hi _ (zzg hj);rw[yyq hj,D4]at rP
  refine yg hS (v:=iv) (t:=3) Xh hj hu ?_;refine zt hS (v:=iv) (t:=3) (sz:=1) (n:=ids.length) (cells:=ids.map (Value.int .i64)) Xh ?_;refine Gp ?_;have sr:decide (((i:Nat):Int)=((ids.length:Nat):Int)-1)=(ids.drop (i+1)).isEmpty:=by
   rw[uuv,uud,List.isEmpty_iff,List.drop_eq_nil_iff];omega
  rw[sr];obtain⟨k1,k2⟩:=W6 (L:=L) (f:=ids[i]) (last:=(ids.drop (i+1)).isEmpty) (M:=N+100000) (hw.at_ xh) (by omega) (by omega) (by omega) U6;have vq:(na L d.R ids[i] (ids.drop (i+1)).isEmpty).1.1=true->(na L d.R ids[i] (ids.drop (i+1)).isEmpty).1.2=true->(na L d.R ids[i] (ids.drop (i+1)).isEmpty).2≠[]:=by
   unfold na;simp only;split
   ·intro h;cases h
   split
   ·intro _ h;cases h
   intro _ _;simp
  refine Cg (Qx lp dp ⟨L,base,size,none⟩ d ids[i] (ids.drop (i+1)).isEmpty U5 (by omega) eW hB (hw.at_ xh) (by omega)) λw hS=>?_;generalize hLG:na L d.R ids[i] (ids.drop (i+1)).isEmpty=y at *
  obtain⟨⟨is,ok⟩,L2⟩:=y;simp only at hS rP k1 k2 vq ⊢;cases ok with
  | false=>
   refine zq ?_;rw[zzc rfl]at rP
   rw[rP];exact⟨_,⟨by decide,rfl,rfl⟩,aW hS⟩
  | true=>
   refine zp ?_;rw[zzb (by decide)]at rP
   have sV:∀{w:Α},(¬AU (if i=0 then none else ids[i-1]?) ids[i]=true)->SL W (.ob (ir lp dp ⟨L2,base,size,none⟩)::.ob (cw dp d)::.ob (bR iv 3 1 ids.length (ids.map (Value.int .i64)))::F) w ->
     ∃(wh:Bool) (i':Nat) (L:List il),i'<=ids.length/\[Value.bool is,Value.int .i64 ((i+1:Nat):Int)]=[.bool wh,.int .i64 i']/\pV d.R ids none [] true=pV d.R (ids.drop i') (if i'=0 then none else ids[i'-1]?) L wh/\(∀s∈L,po s (N+100000))/\L.length<=i'/\(wh=true->0<i'->L≠[])/\SL W (.ob (ir lp dp ⟨L,base,size,none⟩)::.ob (cw dp d)::.ob (bR iv 3 1 ids.length (ids.map (Value.int .i64)))::F) w:=by
    intro w hp hS;refine⟨is,i+1,L2,by omega,rfl,?_,k1,by omega,λh _=>vq h rfl,hS⟩;rw[zzb hp]at rP
    rw[rP,zzb (by omega),Nat.add_sub_cancel,zzd hj]
   refine cF (λh2=>?_) (λh2=>?_)
   ·have xk:i-1<ids.length:=by omega
    have y_:=hi _ (zzg xk);refine Gp ?_;have e:((i:Nat):Int)-1=((i-1:Nat):Int):=by omega
    rw[e];have Lz:(ids.map (Value.int .i64))[i-1]?=some (.int .i64 (ids[i-1]'xk)):=by simp[xk]
    refine yg hS (v:=iv) (t:=3) Xh xk Lz ?_;have V4:AU (if i=0 then none else ids[i-1]?) ids[i]=decide (ids[i]≠(ids[i-1]'xk)+1):=by
     rw[zzb (by omega),zzd xk];rfl
    refine cF (λh3=>?_) (λh3=>?_)
    ·rw[zzc (by rw[V4];simpa using h3)]at rP
     rw[rP];exact⟨_,⟨by decide,rfl,rfl⟩,aW hS⟩
    refine Gp ?_;exact⟨sV (by rw[V4];simpa using h3) (aW hS),by dsimp only;omega⟩
   refine Gp ?_;have A1:i=0:=by omega
   exact⟨sV (by rw[zzc A1];simp[AU]) (aW hS),by dsimp only;omega⟩
 have nX:i=ids.length:=by omega
 rw[nX,vv0]at rP
 rw[rP];simp only[pV];have Vf:=JX (L:=L) (ids:=ids) (wh:=wh) eW;refine Cg (Y7 lp dp ⟨L,base,size,none⟩ d iv ids wh U5 (by omega) eW (by omega) iY (λh iX=>hwh h (by rw[nX];exact xx0.2 iX)) (by omega)) λw hS=>?_;simp only at hS ⊢;refine za (λh2=>?_) (λh2=>?_)
 ·rw[zzc h2];exact⟨_,⟨h2,rfl,rfl⟩,aW hS⟩
 rw[zzb h2];exact⟨_,⟨lp,rfl,rfl⟩,aW hS⟩
def QA(dp:Nat)(d:DS)(base size:Int){N:Nat}(eW:d.Ok N)(hN:N<=1000000000)(hR:d.R.length<=100000)(iY:d.ops<=100000):
  SP 138 [.pointer (some ⟨dp,0,none⟩),.int .i64 base,.int .i64 size] [.ob (cw dp d)] (EL dp (jX d base size)):=
 X2 dp d base size eW (by omega) (ve.all eW.len base) hN hR iY
section
variable (lp dp:Nat) (g:ib) {M:Nat} (hg:g.Ok M) (hM:M<=1000000000000)
include hg hM
def ZZ:SP 101 [.pointer (some ⟨lp,0,none⟩)] [.ob (ir lp dp g)] (e_ (.int .i64 (f_ g.bF)) [.ob (ir lp dp g)]):=by
 intro W F w hS;obtain⟨sv,tv,xs,hx,hS⟩:=ir.iff.1 hS;obtain⟨h1,h2,_,_⟩:=hg.xs hx;refine yE (ye lp (jM sv tv dp g.base g.size) 186 sv xs rfl h1 (by omega) (by omega)) hS Xp ?_;rintro v post ⟨rfl,rfl⟩ w hS;try simp only[app]at hS
 rw[hx];exact⟨_,⟨rfl,rfl⟩,ir.iff.2 ⟨sv,tv,xs,hx,aW hS⟩⟩
def Zu:SP 102 [.pointer (some ⟨lp,0,none⟩)] [.ob (ir lp dp g)] (e_ (.int .i64 (j7 g.bF)) [.ob (ir lp dp g)]):=by
 intro W F w hS;obtain⟨sv,tv,xs,hx,hS⟩:=ir.iff.1 hS;obtain⟨h1,h2,_,_⟩:=hg.xs hx;refine yE (eWq lp (jM sv tv dp g.base g.size) 186 sv xs rfl (by omega)) hS Xp ?_;rintro v post ⟨rfl,rfl⟩ w hS;try simp only[app]at hS
 rw[hx];exact⟨_,⟨rfl,rfl⟩,ir.iff.2 ⟨sv,tv,xs,hx,aW hS⟩⟩
def Z9(n:Int)(hn : -9000000000000000000<=n/\n<=9000000000000000000):SP 136 [.pointer (some ⟨lp,0,none⟩),.int .i64 n] [.ob (ir lp dp g)] (GU [.ob (ir lp dp g)] (rV g.bF n)):=by
 intro W F w hS;obtain⟨sv,tv,xs,hx,hS⟩:=ir.iff.1 hS;obtain⟨h1,h2,_,_⟩:=hg.xs hx;refine yE (QI lp (jM sv tv dp g.base g.size) 186 sv xs n rfl h1 (by omega) (by omega) hn) hS Xp ?_;intro r post hQ w hS;rw[hx]at hQ
 cases hr:rV g.bF n with
 | none=>
  rw[hr]at hQ
  obtain⟨rfl,rfl⟩:=hQ;try simp only[app]at hS
  exact⟨_,⟨rfl,rfl⟩,ir.iff.2 ⟨sv,tv,xs,hx,aW hS⟩⟩
 | some b=>
  rw[hr]at hQ
  obtain⟨u,rfl,rfl⟩:=hQ;try simp only[app]at hS
  have hS:=(ir.iff (g:=g)).2 ⟨sv,tv,xs,hx,SL.cR hS (t:=.pt lp (jM sv tv dp g.base g.size) 186::jL sv xs::.ob (zg iS xs)::.ob (jZ tv g.iC)::.ob (bR u 5 1 b.length (b.map ic))::F) Xi⟩;exact⟨_,⟨u,rfl,rfl⟩,aW hS⟩
end
def X1{d d':DS}{base size:Int}{N:Nat}(hw:ve d.R base N)(hR:d.R.length<=100000){g:ib}(h:jX d base size=(d',.ok g)):mH g (N+100000):=by
 have hk:=(fw5 hw hR h).1;unfold jX at h;split at h
 ·cases h
 split at h
 ·cases h
 split at h
 ·cases h
 rename_i L wh hl;obtain⟨k1,k2⟩:=W9 _ _ [] _ trivial (by decide) hl;split at h
 ·cases h
 cases h;exact⟨hk,k1,k2,λx hx=>by cases hx⟩
def Mn{d d':DS}{base size:Int}{N:Nat}(eW:d.Ok N)(hR:d.R.length<=100000){g:ib}(h:jX d base size=(d',.ok g)):mH g (N+100000):=X1 (ve.all eW.len base) hR h
def WD:∀(l:Φ) (a N:Nat),a<=N->l.Pairwise (· < ·)->(∀x∈l,a<=x/\x<N)->l.length+a<=N
 | [],a,N,h,_,_=>by simpa using h
 | x::l,a,N,_,hp,hx=>by
  have h1:=hx x (.head _);obtain⟨sW,uS⟩:=yyj.1 hp;have:=WD l (x+1) N (by omega) uS λy hy=>⟨sW y hy,(hx y (.tail _ hy)).2⟩;rw[zzj];omega
def DS.Ok.Gt{s:DS}{N:Nat}(h:s.Ok N):s.R.length<=16384:=by
 have hs:(s.R.map λx=>x.id.toNat).Pairwise (· < ·):=by
  rw[wwp];refine List.Pairwise.imp_of_mem (λ{a b} ha hb iw=>?_) h.sorted;have h1:=h.ids a ha;have h2:=h.ids b hb;have iw:a.id<b.id:=iw;omega
 have:=WD _ 0 16384 (by decide) hs λn hn=>by
  obtain⟨x,hx,rfl⟩:=zzy.1 hn;have:=h.ids x hx;omega
 simpa using this
abbrev mV(b:Nat):Ω:=.pointer (some ⟨b,0,none⟩)
abbrev uW(gp dp lp pp:Nat)(aw:Int)(rv:Ω):Γ:=[mV gp,mV dp,mV lp,mV pp,.int .i64 aw,rv]
def iu(kp gp dp lp pp:Nat)(H:bw)(k:gF):zB:=nT λrv:Ω=>zG (nh H rv k.reqs) [.pt kp (uW gp dp lp pp k.aw rv) 90,.ob (lF gp k.ts),.ob (ir lp dp k.g),.ob (mo pp k.plan),.ob (cw dp k.d)]
section
variable {W w:Α} {l F:Ψ} {kp gp dp lp pp:Nat} {H:bw} {k:gF}
def iu.iff:SL W (.ob (iu kp gp dp lp pp H k)::l) w↔∃rv,nh H rv k.reqs/\SL W (.pt kp (uW gp dp lp pp k.aw rv) 90::.ob (lF gp k.ts)::.ob (ir lp dp k.g)::.ob (mo pp k.plan)::.ob (cw dp k.d)::l) w:=by
 unfold iu;simp only[SL.ex,SL.fact,zzu,zzp]
def iu.put(k:gF){rv:Ω}(hS:SL W l w)(hr:nh H rv k.reqs)(p:lJ [.pt kp (uW gp dp lp pp k.aw rv) 90,.ob (lF gp k.ts),.ob (ir lp dp k.g),.ob (mo pp k.plan),.ob (cw dp k.d)] l F):SL W (.ob (iu kp gp dp lp pp H k)::F) w:=iu.iff.2 ⟨rv,hr,hS.pick p⟩
def iu.jT{g:ib}{d:DS}{ts:List (List Cell)}{plan:List kY}{aw:Int}{reqs:List Rq}{rv:Ω}(hS:SL W l w)(hr:nh H rv reqs)(p:lJ [.pt kp (uW gp dp lp pp aw rv) 90,.ob (lF gp ts),.ob (ir lp dp g),.ob (mo pp plan),.ob (cw dp d)] l F):SL W (.ob (iu kp gp dp lp pp H ⟨g,d,ts,plan,aw,reqs⟩)::F) w:=iu.iff.2 ⟨rv,hr,hS.pick p⟩
def iu.mono{H':bw}(hh:H.le H')(h:SL W (.ob (iu kp gp dp lp pp H k)::l) w):SL W (.ob (iu kp gp dp lp pp H' k)::l) w:=by
 obtain⟨rv,hr,hS⟩:=iu.iff.1 h;exact iu.iff.2 ⟨rv,hr.mono hh,hS⟩
def iu.nZ{W w:Α}{l F:Ψ}{H H':bw}{kp gp dp lp pp:Nat}{k:gF}(hh:H.le H')(hS:SL W l w)(r:lg (.ob (iu kp gp dp lp pp H k)) l F):SL W (.ob (iu kp gp dp lp pp H' k)::F) w:=iu.mono hh (hS.perm r.perm)
def iu.open(hS:SL W l w)(r:lg (.ob (iu kp gp dp lp pp H k)) l F):∃rv,nh H rv k.reqs/\SL W (.pt kp (uW gp dp lp pp k.aw rv) 90::.ob (lF gp k.ts)::.ob (ir lp dp k.g)::.ob (mo pp k.plan)::.ob (cw dp k.d)::F) w:=iu.iff.1 (hS.perm r.perm)
end
structure EH(k:gF)(N m:Nat):Prop where
 g:mH k.g N
 d:k.d.Ok N
 le:N<=1000000000
 ops:k.d.ops<=80000
 pl:k.plan.length<=1024
 rT:∀f∈k.plan,nc f=true
 ts:k.ts.length<=8
 ok:wD k.ts
 room:small k.ts (4096*m)
 rq:k.reqs.length<=64
def C7(o:Option (List Rq))(H:bw)(u:Ω):Prop:=match o with
 | none=>∃x,u= .tuple #[x,.bool false]
 | some L=>∃x,u= .tuple #[x,.bool true]/\nh H x L
def XH{L L':List Rq}{n:mn}(h:tD L n=some L'):L'.length<=64:=by
 unfold tD at h;split at h
 ·exact (G9 h).1
 split at h
 ·rename_i L2 h2;split at h
  ·cases h;exact (ES h2).1
  cases h
 cases h
def Qt(H:bw)(v:Ω)(L:List Rq)(n:mn)(hv:nh H v L)(hL:L.length<=64)(hn:pD n.id):
  SP 277 [v,agg (pc n)] [.mem H] (λu post=>∃H',H.le H'/\C7 (tD L n) H' u/\post=[.mem H']):=by
 refine Enzz λW F w hS=>?_;apply g_m;delta P6 aI a_ aR ai;refine zw hS λb w hS=>?_;obtain⟨kind,id,table,weight,at_,iH,done⟩:=n;have hn:pD id:=hn;unfold pc at hS;unfold tD;refine cF (λhk=>?_) (λhk=>?_)
 ·rw[zzc hk];refine Gp ?_;refine Cc (ZH H v L id iH done hv (by omega) hn) ?_;clear hS;rintro u post ⟨H',hh,rfl,hq⟩ w hS;simp only;cases hc:p' L id iH done with
  | none=>
   rw[hc]at hq
   obtain rfl:=hq;(try simp only[app]at hS);refine Gp ?_
   exact⟨_,⟨H',hh,⟨_,rfl⟩,rfl⟩,aW hS⟩
  | some L'=>
   rw[hc]at hq
   obtain⟨x,rfl,hx⟩:=hq;(try simp only[app]at hS);refine Gp ?_
   exact⟨_,⟨H',hh,⟨_,rfl,hx⟩,rfl⟩,aW hS⟩
 rw[zzb hk];refine Gp ?_;refine Cc (Zk H v L table weight at_ hv (by omega)) ?_;clear hS;rintro u post ⟨H',hh,rfl,hq⟩ w hS;simp only;cases hc:ux L table weight at_ with
 | none=>
  rw[hc]at hq
  obtain rfl:=hq;refine Gn λw hS=>?_;exact⟨_,⟨H',hh,⟨_,rfl⟩,rfl⟩,aW hS⟩
 | some L'=>
  rw[hc]at hq
  obtain⟨x,rfl,hx⟩:=hq;refine Gn λw hS=>?_;refine zo hx ?_;refine Gp ?_;by_cases he:id=(L'.length:Int)
  ·rw[zzm he];exact⟨_,⟨H',hh,(by simp only;rw[zzc he];exact⟨_,rfl,hx⟩),rfl⟩,aW hS⟩
  rw[zzz he];exact⟨_,⟨H',hh,(by simp only;rw[zzb he];exact⟨_,rfl⟩),rfl⟩,aW hS⟩
def cIi{n:Nat}{L:List Rq}{t:eF}{i:Nat}(hi:i<t.ops.length)(h:(n:Int)<=t.ops[i].table):k9 n L t=none:=by
 unfold k9;rw[zzb];rintro ⟨_,h2⟩;unfold wH at h2;rw[zz5]at h2
 have:=zzl (h2 _ (zzg hi));omega
def gi4{n:Nat}{t:eF}(h:∀j (hj:j<t.ops.length),t.ops[j].table<(n:Int)):wH n t=true:=by
 unfold wH;rw[zz5];intro o ho;obtain⟨j,hj,rfl⟩:=yyi ho;exact zzm (h j hj)
def fwb{L:List Rq}{l:List mn}{i:Nat}(h:i<l.length):kW L (l.drop i)=match tD L l[i] with|some L'=>kW L' (l.drop (i+1))|none=>none:=by
 rw[yyq h];rfl
structure EE(t:eF):Prop where
 ids:∀n∈t.notes,pD n.id
 ops:t.ops.length<=140737488351232
 mO:t.notes.length<=140737488351232
def Zt(kp gp dp lp pp:Nat)(H:bw)(k:gF)(x:mA)(t:eF)(hx:ma H x t)(hi:EE t)(rn:k.reqs.length<=64):
  SP 202 [mV kp,agg (jP x)] [.ob (iu kp gp dp lp pp H k),.mem H] (λu post=>∃H',H.le H'/\C7 (k9 k.ts.length k.reqs t) H' u/\post=[.ob (iu kp gp dp lp pp H' k),.mem H']):=by
 refine Enzz λW F w hS=>?_;apply gRy;delta O6 aI bW a_ aR gi ai gI bI;refine zw hS λxb w hS=>?_;obtain⟨rv,hr,hS⟩:=iu.open (k:=k) hS Xr;unfold jP at hS;rw[hx.aw]at hS
 have A7:=hi.ops;have su:=hi.mO;refine Gp ?_;refine zo hx.ops ?_;obtain⟨F2,xZ⟩:∃F2,F2= .ob (ir lp dp k.g)::.ob (mo pp k.plan)::.ob (cw dp k.d)::F:=⟨_,rfl⟩;have hS:=SL.cR hS (t:=.pt kp (uW gp dp lp pp k.aw rv) 90::.ob (lF gp k.ts)::.pt xb [.int .i64 t.aw,x.ov,x.nv] 214::.mem H::.ob (ir lp dp k.g)::.ob (mo pp k.plan)::.ob (cw dp k.d)::F) Xi;rw[<- xZ]at hS
 have l8:∀{w:Α} {H':bw} {u:Ω},H.le H'->C7 (k9 k.ts.length k.reqs t) H' u->SL W (.pt kp (uW gp dp lp pp k.aw rv) 90::.ob (lF gp k.ts)::.mem H'::F2) w->∃post,(∃H',H.le H'/\C7 (k9 k.ts.length k.reqs t) H' u/\post=[.ob (iu kp gp dp lp pp H' k),.mem H'])/\SL W (app post F) w:=λhh hq hS=>by
  rw[xZ]at hS
  have hS:=iu.put k hS (hr.mono hh) Xp;exact⟨_,⟨_,hh,hq,rfl⟩,aW hS⟩
 refine⟨λvs w=>∃i:Nat,vs=[.int .i64 i]/\i<=t.ops.length/\(∀j (hj:j<t.ops.length),j<i->t.ops[j].table<(k.ts.length:Int))/\SL W (.pt kp (uW gp dp lp pp k.aw rv) 90::.ob (lF gp k.ts)::.pt xb [.int .i64 t.aw,x.ov,x.nv] 214::.mem H::F2) w,
  λvs _=>match vs with|[.int _ i]=>(t.ops.length-i).toNat|_=>0,⟨0,rfl,by omega,λj hj h=>by omega,hS⟩,?_⟩
 clear hS;rintro Jg w ⟨i,jR,d_,jJ,hS⟩;cases jR;refine cF (λh=>?_) (λh=>?_)
 ·have d_:i<t.ops.length:=by omega
  refine zE hS Xh BV hx.ops (x:=t.ops[i]) (by simp[d_]) d_ ?_;refine Gm λb w hS=>?_;refine Cg (qE gp k.ts) λw hS=>?_;refine za (λh2=>?_) (λh2=>?_)
  ·refine l8 (bw.le_refl H) ?_ (aW hS);rw[cIi d_ h2];exact⟨_,rfl⟩
  refine Gp ?_;refine⟨⟨i+1,rfl,by omega,λj hj m_=>?_,aW hS⟩,by dsimp only;omega⟩;by_cases e:j=i
  ·subst e;omega
  exact jJ j hj (by omega)
 have A_:=gi4 (n:=k.ts.length) (t:=t) λj hj=>jJ j hj (by omega);clear jJ;refine Gp ?_;refine zo hx.mO ?_;have z_:∀{o},kW k.reqs t.notes=o->jE t=true->k9 k.ts.length k.reqs t=o:=λh hm=>by unfold k9;rw[zzc ⟨hm,A_⟩,h]
 have HR:kW k.reqs t.notes=none->k9 k.ts.length k.reqs t=none:=λh=>by unfold k9;split;exact h;rfl
 refine⟨λvs w=>∃(i:Nat) (L:List Rq) (u:Ω) (H2:bw),vs=[u,.int .i64 i]/\i<=t.notes.length/\L.length<=64/\kW k.reqs t.notes=kW L (t.notes.drop i)/\H.le H2/\nh H2 u L/\SL W (.pt kp (uW gp dp lp pp k.aw rv) 90::.ob (lF gp k.ts)::.pt xb [.int .i64 t.aw,x.ov,x.nv] 214::.mem H2::F2) w,
  λvs _=>match vs with|[_,.int _ i]=>(t.notes.length-i).toNat|_=>0,⟨0,k.reqs,rv,H,rfl,by omega,rn,rfl,bw.le_refl H,hr,aW hS⟩,?_⟩
 clear hS;rintro u v35 w ⟨i,L,_,H2,jR,d_,hL,ko,kG,hu,hS⟩;cases jR;have tA:=hx.mono kG;refine cF (λh=>?_) (λh=>?_)
 ·have d_:i<t.notes.length:=by omega
  rw[fwb d_]at ko
  refine zE hS Xh BT tA.mO (x:=t.notes[i]) (by simp[d_]) d_ ?_;have hid:=hi.ids _ (zzg d_);generalize t.notes[i]=n at *
  refine Gm λb w hS=>?_;refine Cc (Qt H2 u L n hu hL hid) ?_;clear hS;rintro u post ⟨H3,kT,hq,rfl⟩ w hS;cases hc:tD L n with
  | none=>
   rw[hc]at hq ko
   obtain⟨x,rfl⟩:=hq;(try simp only[app]at hS);refine Gp ?_
   refine zq ?_;refine l8 (bw.le_trans kG kT) ?_ (aW hS);rw[HR ko];exact⟨_,rfl⟩
  | some L'=>
   have vn:=XH hc;rw[hc]at hq ko
   obtain⟨x,rfl,sx⟩:=hq;(try simp only[app]at hS);refine Gp ?_
   refine zp ?_;refine Gp ?_;exact⟨⟨i+1,L',x,H3,rfl,by omega,vn,ko,bw.le_trans kG kT,sx,aW hS⟩,by dsimp only;omega⟩
 have nX:i=t.notes.length:=by omega
 subst nX;rw[vv0]at ko
 refine zC hS Xh rfl ?_;have e:([.int .i64 t.aw,x.ov,x.nv]:Γ)=jP x:=by unfold jP;rw[hx.aw]
 rw[e];refine Cg (zY H2 x t tA) λw hS=>?_;refine l8 kG ?_ (aW hS);cases hm:jE t with
 | true=>rw[z_ ko hm];exact⟨_,rfl,hu⟩
 | false=>rw[show k9 k.ts.length k.reqs t=none by unfold k9;rw[hm];rfl];exact⟨_,rfl⟩
def qu(kp gp dp lp pp:Nat)(H:bw)(k:gF)(x:mA)(t:eF)(L:List Rq)(lv:Ω)(hx:ma H x t)(hl:nh H lv L)(hn:t.ops.length<=1000000)(hk:∀o∈t.ops,pD o.key):
  SP 203 [mV kp,agg (jP x),lv] [.ob (iu kp gp dp lp pp H k),.mem H] (e_ (.tuple #[]) [.ob (iu kp gp dp lp pp H (k.Dj t L)),.mem H]):=by
 refine Enzz λW F w hS=>?_;apply gRz;delta O7 bW a_ ia aR;refine zw hS λxb w hS=>?_;obtain⟨rv,hr,hS⟩:=iu.open (k:=k) hS Xr;unfold jP at hS;rw[hx.aw]at hS
 have h1:=iD.one hl;refine Gn λw hS=>?_;refine Cg (cW3 H gp k.ts x.ov t.ops hx.ops hn hk) λw hS=>?_;have hS:SL W (.ob (iu kp gp dp lp pp H (k.Dj t L))::_) _:=iu.jT hS hl Xp;exact dW hS
structure EN(g:ib)(d:DS)(f n:Int)(es:List (Δ))(p:Δ):Prop where
 off:d.off=false
 iC:tK d f n es p false
 m2:∀a,a≠1->0<=a->∃g2 d2,iq g {d with arm:=a}=((g2,d2),0)/\lI g2 d2 f n es/\0<=d2.arm/\(a=0->d2.arm=0)/\d2.ops=d.ops+1/\g2.bF=g.bF/\g2.base=g.base/\g2.size=g.size
 m1:∃d2,iq g {d with arm:=1}=((g,d2),8)/\d2.R=d.R/\d2.off=true/\d2.ops=d.ops+1
def gwp{g:ib}{d:DS}{f n:Int}{es:List (Δ)}(h:lI g d f n es){p:Δ}(hp:p.length<=1048576)(hn:n+es.length<=100000)(ha:0<=d.arm){k:Int}(hk:0<=k):
  (∃d',lz g d p k=((g,d'),8)/\tK d' f n es p false/\d'.off=true/\d'.ops=d.ops+1/\d.arm=1) \/
  (∃g' d',lz g d p k=((g',d'),0)/\EN g' d' f n es p/\0<=d'.arm/\(d.arm=0->d'.arm=0)/\d'.ops=d.ops+1/\g'.bF=g.bF/\g'.base=g.base/\g'.size=g.size):=by
 obtain⟨x,A,l0,pre,jz,hr⟩:=IN h hp hn;have mT:=h.off;have hm:iq g d=((g,d),0):=by unfold iq;rw[h.iC]
 obtain⟨oA,f0,f1⟩:=hr.may h mT
 let t:=x.b.take (k.toNat % x.b.length)
 let d1:DS:={d.eI with R:=o_ d.R x.file t}
 have iw:k.toNat % x.b.length<x.b.length:=vvh _ hr.pos;have hT:tK d1 f n es p false:=hr.iC hp (m:=k.toNat % x.b.length) (by omega) (λ_=>iw) (by rw[<- h.files]);by_cases h1:d.arm=1
 ·left;have e:d.eI.off=true:=by simp[DS.eI,h1]
  have e2:d.eI.err=8:=by unfold DS.err;rw[e];rfl
  refine⟨d1,?_,hT,e,by simp[DS.eI,d1],h1⟩;unfold lz;rw[zzb (by omega),mT,jz];simp only[hm];rw[zzb (by simp),append_eq oA,e2,zzc (by simp)]
 right;have e:d.eI.off=false:=by simp[DS.eI,h1]
 have e2:d.eI.err=0:=by unfold DS.err;rw[e];rfl
 have xe:=hr.app t;rw[<- h.files]at xe
 have sS:uq f (A.map jF++[⟨x.file,pre.length,pre++t⟩]):=hr.chain.wT.snoc (by rw[zzs];exact hr.file);have nO:d1.R=A.map jF++[⟨x.file,pre.length,pre++t⟩]:=xe;have so:∀a,DS.find {d1 with arm:=a} x.file=0:=λa=>by
  unfold DS.find;rw[zzb (by rw[(hr.may h (d':={d1 with arm:=a}) e).1];simp)];have hs:=sS.sorted;show (if mu PF.id d1.R x.file=true then (0:Int) else 5)=0;rw[nO,zzc (F7 (x:=⟨x.file,pre.length,pre++t⟩) hs)]
 have we:0<=d1.arm:=by show 0<=if 0<d.arm then d.arm-1 else d.arm;split<;>omega
 have DB:∀a,(DS.eI {d1 with arm:=a}).off=decide (a=1):=λa=>rfl;refine⟨{g with iC:=some ⟨x.file,if x.fresh=true then 0 else pU g.bF,x.fresh⟩},d1,?_,⟨e,hT,λa rh xd=>?_,?_⟩,we,λh0=>by simp[DS.eI,d1,h0],by simp[DS.eI,d1],rfl,rfl,rfl⟩
 ·exact gwh hk (by rw[mT];exact jz) hm (by rw[append_eq oA,e2])
 ·have Cd:(DS.eI {d1 with arm:=a}).off=false:=by rw[DB];exact zzz rh
  have Fs:0<=(DS.eI {d1 with arm:=a}).arm/\(a=0->(DS.eI {d1 with arm:=a}).arm=0):=by
   show (0<=if 0<a then a-1 else a)/\(a=0->(if 0<a then a-1 else a)=0);split<;>omega
  unfold iq;simp only;cases z_:x.fresh with
  | true=>
   obtain⟨hA,uT⟩:=hr.fresh z_;have Cw:DS.remove {d1 with arm:=a} x.file=({DS.eI {d1 with arm:=a} with R:=A.map jF},0):=by
    unfold DS.remove;rw[zzb (by simp[so]),zzb (by simp[Cd])];have:nM PF.id d1.R x.file=A.map jF:=by rw[nO,Ud (x:=⟨x.file,pre.length,pre++t⟩) sS.sorted]
    exact yyu (λR=>(({DS.eI {d1 with arm:=a} with R:=R},0):DS × Int)) this
   simp only[ww7,Cw];refine⟨_,_,rfl,⟨h.chain,h.lG,by show A.map jF=_;rw[hA],h.nil,h.base,h.b0,h.b1,h.s0,h.s1,h.n1,h.fi,Cd,rfl⟩,Fs.1,Fs.2,by simp[DS.eI],rfl,rfl,rfl⟩
  | false=>
   obtain⟨hA,kV⟩:=hr.s3 z_;have hlen:lH d1.R x.file=(pre++t).length:=by
    unfold lH;rw[nO,Fk (x:=⟨x.file,pre.length,pre++t⟩) sS.sorted]
   have Fv:DS.cut {d1 with arm:=a} x.file (pre.length:Nat)=({DS.eI {d1 with arm:=a} with R:=g.bF.map jF},0):=by
    unfold DS.cut;rw[zzb (by simp[so]),zzb (by show ¬((pre.length:Int)<0\/lH d1.R x.file<pre.length);rw[hlen,zza];omega),zzb (by simp[Cd])];have:oJ d1.R x.file (ni pre.length)=g.bF.map jF:=by
     rw[nO,M5 (x:=⟨x.file,pre.length,pre++t⟩) sS.sorted,hA];simp only[ni,wwo,Nat.min_self]
    rw[zzv];exact yyu (λR=>(({DS.eI {d1 with arm:=a} with R:=R},0):DS × Int)) this
   simp only[vvl,vvn,kV,Fv,ww7];refine⟨_,_,rfl,⟨h.chain,h.lG,rfl,h.nil,h.base,h.b0,h.b1,h.s0,h.s1,h.n1,h.fi,Cd,rfl⟩,Fs.1,Fs.2,by simp[DS.eI],rfl,rfl,rfl⟩
 have Cd:(DS.eI {d1 with arm:=1}).off=true:=rfl;unfold iq;simp only;cases z_:x.fresh with
 | true=>
  have Cw:DS.remove {d1 with arm:=1} x.file=(DS.eI {d1 with arm:=1},8):=by
   unfold DS.remove;rw[zzb (by simp[so]),zzc Cd]
  simp only[ww7,Cw];exact⟨_,rfl,rfl,rfl,by simp[DS.eI]⟩
 | false=>
  obtain⟨hA,kV⟩:=hr.s3 z_;have hlen:lH d1.R x.file=(pre++t).length:=by
   unfold lH;rw[nO,Fk (x:=⟨x.file,pre.length,pre++t⟩) sS.sorted]
  have Fv:DS.cut {d1 with arm:=1} x.file (pre.length:Nat)=(DS.eI {d1 with arm:=1},8):=by
   unfold DS.cut;rw[zzb (by simp[so]),zzb (by show ¬((pre.length:Int)<0\/lH d1.R x.file<pre.length);rw[hlen,zza];omega),zzc Cd]
  simp only[vvl,vvn,kV,Fv];exact⟨_,rfl,rfl,rfl,by simp[DS.eI]⟩
def gwr{g g1:ib}{d d1:DS}{p:Δ}{k:Int}(hk:0<=k)(hm:iq g d=((g1,d1),0))(hs:g1.bF=g.bF)(hb:g1.base=g.base)(hz:g1.size=g.size)(ho:d.off=false)(A7:d1.off=false)(ht:g1.iC=none):lz g d p k=lz g1 d1 p k\/∃e,jQ g1 false p= .error e:=by
 cases hx:jQ g1 false p with
 | error e=>exact .inr ⟨e,rfl⟩
 | ok x=>
  left;have hp:jQ g false p=jQ g1 false p:=by
   unfold jQ rM;rw[hs,hb,hz]
  have FG:iq g1 d1=((g1,d1),0):=by unfold iq;rw[ht]
  unfold lz;rw[ho,A7,hp,hx];simp only[hm,FG,hs,hb,hz];rw[zzb (show ¬k<0 by omega),zzb (show ¬k<0 by omega)]
def gwq{g:ib}{d d2:DS}{p:Δ}{k:Int}(hk:0<=k){x:mc}(hx:jQ g d.off p= .ok x)(hm:iq g d=((g,d2),8)):lz g d p k=((g,d2),8):=by
 unfold lz;rw[zzb (by omega),hx];simp only[hm];rw[zzc (by decide)]
def bwa{g:ib}{d d2:DS}{p:Δ}{x:mc}(hx:jQ g d.off p= .ok x)(hm:iq g d=((g,d2),8)):ki g d p=((g,d2),(0,8)):=by
 unfold ki;rw[hx];simp only[hm];rw[zzc (by decide)]
def IK{g g1:ib}(hs:g1.bF=g.bF)(hb:g1.base=g.base)(hz:g1.size=g.size)(off:Bool)(p:Δ):jQ g off p=jQ g1 off p:=by
 unfold jQ rM;rw[hs,hb,hz]
def St(g:ib)(d:DS)(es:List (Δ))(m:Option (Δ)):Prop:=
 (lI g d 8192 1 es/\g.base=8192)\/((∃p,EN g d 8192 1 es p)/\g.base=8192)\/(d.off=true/\∃q w,tK d 8192 1 es q w/\(w=true->m=some q))
def St.append{g:ib}{d:DS}{es:List (Δ)}{m:Option (Δ)}(h:St g d es m)(ha:0<=d.arm)(ho:d.off=false){p:Δ}(hp:p.length<=1048576)(hl:es.length<=1000):
  (∃g' d',ki g d p=((g',d'),((1+es.length:Int),0))/\lI g' d' 8192 1 (es++[p])/\g'.base=8192/\d'.ops<=d.ops+3/\(d.arm=0->d'.arm=0)) \/
  (∃g' d',ki g d p=((g',d'),(0,8))/\St g' d' es (some p)/\d'.off=true/\d'.ops<=d.ops+3/\d.arm≠0):=by
 have FF:∀{g:ib} {d:DS},lI g d 8192 1 es->g.base=8192->0<=d.arm->(∃g' d',ki g d p=((g',d'),((1+es.length:Int),0))/\lI g' d' 8192 1 (es++[p])/\g'.base=8192/\d'.ops<=d.ops+2/\(d.arm=0->d'.arm=0)) \/
   (∃g' d',ki g d p=((g',d'),(0,8))/\St g' d' es (some p)/\d'.off=true/\d'.ops<=d.ops+2/\d.arm≠0):=by
  intro g d h1 h2 ha;rcases a_9 h1 hp (by omega) (by rw[h2];omega) ha with ⟨g',d',e,k1,k2,k3,k4,k5,_⟩|⟨d',e,k1,k2,k3,k4⟩
  ·exact .inl ⟨g',d',e,k1,by rw[k5,h2],by omega,k4⟩
  exact .inr ⟨g,d',e,.inr (.inr ⟨k2,p,true,k1,λ_=>rfl⟩),k2,k3,k4⟩
 rcases h with ⟨h1,h2⟩|⟨⟨q,h1⟩,h2⟩|⟨h1,_⟩
 ·rcases FF h1 h2 ha with ⟨g',d',e,k1,k2,k3,k4⟩|⟨g',d',e,k1,k2,k3,k4⟩
  ·exact .inl ⟨g',d',e,k1,k2,by omega,k4⟩
  exact .inr ⟨g',d',e,k1,k2,by omega,k4⟩
 ·obtain⟨g0,d0,m0,l0,_,_,_,s0,b0,z0⟩:=h1.m2 0 (by decide) (by decide);obtain⟨x,_,_,_,jz,_⟩:=IN l0 hp (by omega);rw[<- IK s0 b0 z0]at jz
  by_cases rh:d.arm=1
  ·obtain⟨d2,e,r1,r2,r3⟩:=h1.m1;have e:iq g d=((g,d2),8):=by rw[<- e,<- rh]
   exact .inr ⟨g,d2,bwa (by rw[ho];exact jz) e,.inr (.inr ⟨r2,q,false,h1.iC.wK r1,λh=>by cases h⟩),r2,by omega,by omega⟩
  obtain⟨g2,d2,e,l2,a2,a3,o2,s2,b2,z2⟩:=h1.m2 d.arm rh ha;have e:iq g d=((g2,d2),0):=e;have Ln:jQ g2 false p= .ok x:=by rw[<- IK s2 b2 z2];exact jz
  rw[bwb e s2 b2 z2 ho l2.off l2.iC Ln];rcases FF l2 (by rw[b2,h2]) a2 with ⟨g',d',e,k1,k2,k3,k4⟩|⟨g',d',e,k1,k2,k3,k4⟩
  ·exact .inl ⟨g',d',e,k1,k2,by omega,λh=>k4 (a3 h)⟩
  exact .inr ⟨g',d',e,k1,k2,by omega,λh=>k4 (a3 h)⟩
 rw[ho]at h1;cases h1
def St.gwe{g:ib}{d:DS}{es:List (Δ)}{m:Option (Δ)}(h:St g d es m)(ha:0<=d.arm)(ho:d.off=false){p:Δ}(hp:p.length<=1048576)(hl:es.length<=1000){k:Int}(hk:0<=k):
  ∃g' d' e,lz g d p k=((g',d'),e)/\St g' d' es none/\d'.ops<=d.ops+2/\((e=0/\d'.off=false/\(d.arm=0->d'.arm=0))\/(e=8/\d'.off=true/\d.arm≠0)):=by
 have FF:∀{g:ib} {d:DS},lI g d 8192 1 es->g.base=8192->0<=d.arm->∃g' d' e,lz g d p k=((g',d'),e)/\St g' d' es none/\d'.ops<=d.ops+1/\((e=0/\d'.off=false/\(d.arm=0->d'.arm=0))\/(e=8/\d'.off=true/\d.arm≠0)):=by
  intro g d h1 h2 ha;rcases gwp h1 hp (by omega) ha hk with ⟨d',e,k1,k2,k3,k4⟩|⟨g',d',e,k1,k2,k3,k4,k5,k6,k7⟩
  ·exact⟨g,d',8,e,.inr (.inr ⟨k2,p,false,k1,λh=>by cases h⟩),by omega,.inr ⟨rfl,k2,by omega⟩⟩
  exact⟨g',d',0,e,.inr (.inl ⟨⟨p,k1⟩,by rw[k6,h2]⟩),by omega,.inl ⟨rfl,k1.off,k3⟩⟩
 rcases h with ⟨h1,h2⟩|⟨⟨q,h1⟩,h2⟩|⟨h1,_⟩
 ·obtain⟨g',d',e,k1,k2,k3,k4⟩:=FF h1 h2 ha;exact⟨g',d',e,k1,k2,by omega,k4⟩
 ·obtain⟨g0,d0,m0,l0,_,_,_,s0,b0,z0⟩:=h1.m2 0 (by decide) (by decide);obtain⟨x,_,_,_,jz,_⟩:=IN l0 hp (by omega);rw[<- IK s0 b0 z0]at jz
  by_cases rh:d.arm=1
  ·obtain⟨d2,e,r1,r2,r3⟩:=h1.m1;have e:iq g d=((g,d2),8):=by rw[<- e,<- rh]
   exact⟨g,d2,8,gwq hk (by rw[ho];exact jz) e,.inr (.inr ⟨r2,q,false,h1.iC.wK r1,λh=>by cases h⟩),by omega,.inr ⟨rfl,r2,by omega⟩⟩
  obtain⟨g2,d2,e,l2,a2,a3,o2,s2,b2,z2⟩:=h1.m2 d.arm rh ha;have e:iq g d=((g2,d2),0):=e;have Ln:jQ g2 false p= .ok x:=by rw[<- IK s2 b2 z2];exact jz
  rcases gwr (p:=p) (k:=k) hk e s2 b2 z2 ho l2.off l2.iC with h3|⟨e',h3⟩
  ·rw[h3];obtain⟨g',d',e,k1,k2,k3,k4⟩:=FF l2 (by rw[b2,h2]) a2;refine⟨g',d',e,k1,k2,by omega,?_⟩;rcases k4 with ⟨k5,k6,k7⟩|⟨k5,k6,k7⟩
   ·exact .inl ⟨k5,k6,λh=>k7 (a3 h)⟩
   exact .inr ⟨k5,k6,λh=>k7 (a3 h)⟩
  rw[Ln]at h3;cases h3
 rw[ho]at h1;cases h1
def St.open{g:ib}{d:DS}{es:List (Δ)}{m:Option (Δ)}(h:St g d es m)(keep:Ξ)(hl:es.length<=1000){size:Int}(s0:64<=size)(s1:size<=65536):
  ∃g2 d2 mM,jX (d.jO keep) 8192 size=(d2,.ok g2)/\lI g2 d2 8192 1 mM/\g2.base=8192/\d2.arm=0/\d2.ops<=d.ops+1/\(mM=es\/∃p,m=some p/\mM=es++[p]):=by
 have Wf:∀{q w},tK d 8192 1 es q w->∃g2 d2 mM,jX (d.jO keep) 8192 size=(d2,.ok g2)/\lI g2 d2 8192 1 mM/\g2.base=8192/\d2.arm=0/\d2.ops<=d.ops+1/\(mM=es\/(w=true/\mM=es++[q])):=by
  intro q w hT;obtain⟨g2,d2,mM,h1,h2,h3,h4,h5,h6,h7⟩:=gwu hT keep (base:=8192) (size:=size) (by decide) (by decide) s0 s1 (by decide) (by omega) (by decide) (by omega) ⟨rfl,rfl⟩;exact⟨g2,d2,mM,h1,h2,h5,h3,h4,h7⟩
 rcases h with ⟨h1,h2⟩|⟨⟨q,h1⟩,h2⟩|⟨h1,q,w,h2,h3⟩
 ·have hR:(d.jO keep).R=g.bF.map jF:=by show jV d.R keep=_;rw[h1.files,TV]
  have hle:=h1.chain.wA;rw[h1.lG]at hle
  have:=Mp (d:=d.jO keep) (base:=8192) (size:=size) h1.chain hR rfl (by decide) (by decide) s0 s1 (by decide) (by omega) (by decide) (by rw[h1.lG];omega);exact⟨_,_,es,this,⟨h1.chain,h1.lG,hR,λ_=>⟨rfl,rfl⟩,yyc _,(by decide:(0:Int)<=8192),(by decide:(8192:Int)<=12288),s0,s1,by decide,by show (8192:Int)+es.length+2<=8192+4096;omega,rfl,rfl⟩,rfl,rfl,Nat.le_succ _,.inl rfl⟩
 ·obtain⟨g2,d2,mM,k1,k2,k3,k4,k5,k6⟩:=Wf h1.iC;rcases k6 with k6|⟨k6,_⟩
  ·exact⟨g2,d2,mM,k1,k2,k3,k4,k5,.inl k6⟩
  cases k6
 obtain⟨g2,d2,mM,k1,k2,k3,k4,k5,k6⟩:=Wf h2;rcases k6 with k6|⟨k6,k7⟩
 ·exact⟨g2,d2,mM,k1,k2,k3,k4,k5,.inl k6⟩
 exact⟨g2,d2,mM,k1,k2,k3,k4,k5,.inr ⟨q,h3 k6,k7⟩⟩
def lI.st{g:ib}{d:DS}{es:List (Δ)}(h:lI g d 8192 1 es)(hb:g.base=8192)(m:Option (Δ)):St g d es m:=.inl ⟨h,hb⟩
def mQ.head{L:List il}(h:mQ L)(hL:L≠[]):f_ L=j7 L+(gR L).length-1:=by
 induction L with
 | nil=>exact absurd rfl hL
 | cons s r ih=>
  cases r with
  | nil=>simp[f_,j7,gR,il.next]
  | cons t r=>
   have h1:=ih h.2 (by simp);have h2:f_ (s::t::r)=f_ (t::r):=by simp only[f_,uug]
   have h3:=h.1;rw[h2,h1,uD s (t::r),zza];simp only[il.next]at h3;show j7 (t::r)+_-1=s.first+_-1;have:j7 (t::r)=t.first:=rfl;rw[this];omega
def mQ.read:∀{L:List il},mQ L->∀i:Nat,rV L (j7 L+i)=(gR L)[i]?
 | [],_,i=>by simp[rV,gR]
 | [s],_,i=>by
  have e:j7 [s]=s.first:=rfl;rw[e,rV,uD];have he:gR []=([]:List (Δ)):=rfl;rw[he,zzw];by_cases h:i<s.l.length
  ·rw[zzc ⟨by omega,by show s.first+i<s.first+s.l.length;omega⟩];congr 1;omega
  rw[zzb (by rintro ⟨_,h2⟩;have h2:s.first+i<s.first+s.l.length:=h2;omega),yyr (by omega)];rfl
 | s::t::r,h,i=>by
  have e:j7 (s::t::r)=s.first:=rfl;have e2:j7 (t::r)=t.first:=rfl;have h1:=h.1;simp only[il.next]at h1;rw[e,rV,uD];by_cases hi:i<s.l.length
  ·rw[zzc ⟨by omega,by show s.first+i<s.first+s.l.length;omega⟩,zzr hi];congr 1;omega
  rw[zzb (by rintro ⟨_,h2⟩;have h2:s.first+i<s.first+s.l.length:=h2;omega),yya (by omega)];have:=mQ.read h.2 (i-s.l.length);rw[e2]at this
  rw[<- this];congr 1;omega
def runT(gw:Nat):List eF->Tr->Option Tr
 | [],t=>some t
 | x::r,t=>match stepT gw t x with
  | some t'=>runT gw r t'
  | none=>none
def Gu(gw:Nat):∀(xs:List eF) (x:eF) (t t1:Tr),runT gw xs t=some t1->runT gw (xs++[x]) t=stepT gw t1 x
 | [],x,t,t1,h=>by
  cases h;show (match stepT gw t x with|some t'=>runT gw [] t'|none=>none)=_;cases stepT gw t x<;>rfl
 | y::xs,x,t,t1,h=>by
  have h:(match stepT gw t y with|some t'=>runT gw xs t'|none=>none)=some t1:=h;show (match stepT gw t y with|some t'=>runT gw (xs++[x]) t'|none=>none)=_;cases hs:stepT gw t y with
  | none=>rw[hs]at h;cases h
  | some t'=>rw[hs]at h;exact Gu gw xs x t' t1 h
def TB{x:eF}(h:jE x=true):sQ (lu x)= .ok x:=by
 obtain⟨b,e1,e2⟩:=T' h;unfold lu;rw[e1];exact e2
def EW{x:eF}(h:jE x=true):(lu x).length<=29+x.ops.length*71+x.notes.length*63/\(lu x).length<=306973:=by
 obtain⟨b,e1,_⟩:=T' h;have:=b_0 h e1;obtain⟨h0,_⟩:=tC.1 h;unfold lu;rw[e1];show b.length<=_/\b.length<=_;omega
def ai0(gw:Nat):∀(xs:List eF) (t:Tr),(∀x∈xs,jE x=true)->xD gw (xs.map lu) t=runT gw xs t
 | [],_,_=>rfl
 | x::xs,t,h=>by
  rw[zzn,xD,TB (h x (.head _))];show _=(match stepT gw t x with|some t'=>runT gw xs t'|none=>none);simp only;cases stepT gw t x with
  | none=>rfl
  | some t'=>exact ai0 gw xs t' λy hy=>h y (.tail _ hy)
structure mW(gw:Nat)(k:gF)(xs:List eF)(m:Option eF):Prop where
 st:St k.g k.d (xs.map lu) (m.map lu)
 may:∀x∈xs,jE x=true
 run:runT gw xs (vG gw)=some k.tr
 len:k.ts.length=gw
 Nd:∀x,m=some x->jE x=true/\∃t,stepT gw k.tr x=some t
def mW.plan{gw:Nat}{k:gF}{xs:List eF}{m:Option eF}(h:mW gw k xs m)(p:List kY):mW gw {k with plan:=p} xs m:=⟨h.st,h.may,h.run,h.len,h.Nd⟩
def MV{gw:Nat}{t:Tr}{x:eF}{L:List Rq}(hf:k9 gw t.2.1 x=some L)(hl:t.2.2<x.aw):stepT gw t x=some ((ks t.1 x.ops).1,L,x.aw):=by
 unfold stepT;rw[hf];simp only;rw[zzc hl]
def Ff{n:Nat}{L L':List Rq}{x:eF}(h:k9 n L x=some L'):jE x=true/\wH n x=true/\kW L x.notes=some L':=by
 unfold k9 at h;split at h
 ·rename_i hc;exact⟨hc.1,hc.2,h⟩
 cases h
def icl{gw:Nat}{k:gF}{xs:List eF}{m:Option eF}(h:mW gw k xs m)(ha:0<=k.d.arm)(ho:k.d.off=false)(hl:xs.length<=900){x:eF}{L:List Rq}(hf:k9 gw k.reqs x=some L)(iw:k.aw<x.aw):
  ((k.lE x L).2=0/\mW gw (k.lE x L).1 (xs++[x]) none/\(k.lE x L).1.tr=((ks k.ts x.ops).1,L,x.aw)/\(k.lE x L).1.plan=k.plan/\(k.lE x L).1.d.off=false/\(k.d.arm=0->(k.lE x L).1.d.arm=0)/\(k.lE x L).1.d.ops<=k.d.ops+3) \/
  ((k.lE x L).2=8/\mW gw (k.lE x L).1 xs (some x)/\(k.lE x L).1.tr=k.tr/\(k.lE x L).1.plan=k.plan/\(k.lE x L).1.d.off=true/\k.d.arm≠0/\(k.lE x L).1.d.ops<=k.d.ops+3):=by
 obtain⟨hm,ht,hn⟩:=Ff hf;have hb:=(EW hm).2;have hs:stepT gw k.tr x=some ((ks k.ts x.ops).1,L,x.aw):=MV (t:=k.tr) hf iw;rcases h.st.append ha ho (p:=lu x) (by omega) (by rw[zzs];omega) with ⟨g',d',e,k1,k2,k3,k4⟩|⟨g',d',e,k1,k2,k3,k4⟩
 ·left;have hw:k.lE x L=(gF.Dj {k with g:=g',d:=d'} x L,0):=by
   unfold gF.lE;simp only[e];rw[zzc trivial]
  rw[hw];refine⟨rfl,⟨?_,?_,?_,?_,λy hy=>by cases hy⟩,rfl,rfl,k1.off,k4,k3⟩
  ·rw[zzt];exact k1.st k2 _
  ·intro y hy;rcases zz0.1 hy with hy|hy
   ·exact h.may y hy
   rw[zz3.1 hy];exact hm
  ·rw[Gu gw xs x _ _ h.run,hs];rfl
  show (ks k.ts x.ops).1.length=gw;rw[MB,h.len]
 right;have hw:k.lE x L=({k with g:=g',d:=d'},8):=by
  unfold gF.lE;simp only[e];rw[zzb (by decide)]
 rw[hw];exact⟨rfl,⟨k1,h.may,h.run,h.len,λy hy=>by cases hy;exact⟨hm,_,hs⟩⟩,rfl,rfl,k2,k4,k3⟩
def gwn{gw:Nat}{k:gF}{xs:List eF}{m:Option eF}(h:mW gw k xs m)(ha:0<=k.d.arm)(ho:k.d.off=false)(hl:xs.length<=900){x:eF}(hm:jE x=true){n:Int}(hn:0<=n):
  mW gw (k.oI x n).1 xs none/\(k.oI x n).1.tr=k.tr/\(k.oI x n).1.plan=k.plan/\(k.oI x n).1.d.ops<=k.d.ops+2 /\
   (((k.oI x n).2=0/\(k.oI x n).1.d.off=false/\(k.d.arm=0->(k.oI x n).1.d.arm=0))\/((k.oI x n).2=8/\(k.oI x n).1.d.off=true/\k.d.arm≠0)):=by
 have hb:=(EW hm).2;obtain⟨g',d',e,h1,h2,h3,h4⟩:=h.st.gwe ha ho (p:=lu x) (by omega) (by rw[zzs];omega) hn;have hw:k.oI x n=({k with g:=g',d:=d'},e):=by unfold gF.oI;simp only[h1]
 rw[hw];exact⟨⟨h2,h.may,h.run,h.len,λy hy=>by cases hy⟩,rfl,rfl,h3,h4⟩
def mW.open{gw:Nat}(t1:1<=gw)(t8:gw<=8){k:gF}{xs:List eF}{m:Option eF}(h:mW gw k xs m)(keep:Ξ)(hl:xs.length<=900){size:Int}(s0:64<=size)(s1:size<=65536):
  ∃k' ik,oX (k.d.jO keep) gw size=(k'.d,.ok k')/\mW gw k' ik none/\k'.plan=[]/\k'.d.off=false/\k'.d.arm=0/\k'.d.ops<=k.d.ops+1/\lI k'.g k'.d 8192 1 (ik.map lu)/\(ik=xs\/∃x,m=some x/\ik=xs++[x]):=by
 obtain⟨g2,d2,mM,e,l2,b2,a2,o2,K0⟩:=h.st.open keep (by rw[zzs];omega) s0 s1;have hx:∃ik,mM=ik.map lu/\(∀x∈ik,jE x=true)/\(∃t,runT gw ik (vG gw)=some t/\t.1.length=gw)/\(ik=xs\/∃x,m=some x/\ik=xs++[x]):=by
  rcases K0 with rfl|⟨p,hp,rfl⟩
  ·exact⟨xs,rfl,h.may,⟨_,h.run,h.len⟩,.inl rfl⟩
  cases m with
  | none=>cases hp
  | some x=>
   have hp:some (lu x)=some p:=hp;cases hp;obtain⟨w1,t,w2⟩:=h.Nd x rfl;refine⟨xs++[x],by simp,λy hy=>?_,⟨t,by rw[Gu gw xs x _ _ h.run,w2],?_⟩,.inr ⟨x,rfl,rfl⟩⟩
   ·rcases zz0.1 hy with hy|hy
    ·exact h.may y hy
    rw[zz3.1 hy];exact w1
   unfold stepT at w2;split at w2
   ·split at w2
    ·cases w2;show (ks k.ts x.ops).1.length=gw;rw[MB,h.len]
    cases w2
   cases w2
 obtain⟨ik,rfl,oA,⟨t,Cx,rr⟩,hor⟩:=hx;refine⟨⟨g2,d2,t.1,[],t.2.2,t.2.1⟩,ik,?_,⟨l2.st b2 _,oA,Cx,rr,λy hy=>by cases hy⟩,rfl,l2.off,a2,o2,l2,hor⟩;unfold oX;rw[zzb (by omega)];simp only[e];have vp:j7 g2.bF=1:=by
  by_cases hL:g2.bF=[]
  ·rw[hL];rfl
  rw[l2.chain.low hL]
 rw[zzb (λhh=>hh.1 vp),l2.lG,zzv,ai0 gw ik _ oA,Cx]
def pF:List kY->kY × List kY
 | []=>(⟨0,0⟩,[])
 | f::r=>(f,r)
def Qp(p:Nat)(L:List kY)(hL:L.length<=1024):SP 343 [mV p] [.ob (mo p L)] (λv post=>∃q,v= .tuple #[agg (mK (pF L).1),.bool q]/\post=[.ob (mo p (pF L).2)]):=by
 cases L with
 | nil=>exact (cIs p).mono λv post h=>⟨false,h.1,h.2⟩
 | cons f r=>exact (cIr p f r (by rw[zzj]at hL;omega)).mono λv post h=>⟨true,h.1,h.2⟩
def gF.xL(k:gF)(x:eF):gF × Int:=
 let r:=ki k.g k.d (lu x)
 ({k with g:=r.1.1,d:=r.1.2},r.2.2)
def Jh(k:gF)(x:eF)(L:List Rq):k.lE x L=if (k.xL x).2=0 then ((k.xL x).1.Dj x L,0) else k.xL x:=by
 unfold gF.lE gF.xL;simp only
def gF.pL(k:gF)(x:eF)(f:kY):gF × Int:=if f.kind=2 then k.oI x f.keep else if k.aw<x.aw then k.xL x else (k,0)
def gF.vY(k:gF)(x:eF)(f:kY)(L:List Rq):gF × Int:=
 if (k.pL x f).2≠0 then k.pL x f else ((if k.aw<x.aw/\f.kind≠2 then (k.pL x f).1.Dj x L else (k.pL x f).1),if f.kind≠0 then 9 else 0)
def fwj{L:List kY}(h:∀f∈L,nc f=true):((pF L).1.kind=0/\L=[])\/(L≠[]/\((pF L).1.kind=1\/(pF L).1.kind=2\/(pF L).1.kind=3)):=by
 cases L with
 | nil=>exact .inl ⟨rfl,rfl⟩
 | cons f r=>
  have h1:=h f (.head _);unfold nc at h1;rw[zzx]at h1
  right;refine⟨by simp,?_⟩;show f.kind=1\/f.kind=2\/f.kind=3;omega
def fwi{L:List kY}(h:∀f∈L,nc f=true):0<=(pF L).1.keep:=by
 cases L with
 | nil=>exact yyc _
 | cons f r=>
  have h1:=h f (.head _);unfold nc at h1;rw[zzx]at h1
  show 0<=f.keep;omega
def bFv{k:gF}{x:eF}(h:jE x=false\/(k.aw<x.aw/\k9 k.ts.length k.reqs x=none)):k.kR x=(k,1):=zzc h
def bFz{k:gF}{x:eF}(h:¬(jE x=false\/(k.aw<x.aw/\k9 k.ts.length k.reqs x=none)))(ho:k.d.off=true):k.kR x=(k,8):=by
 unfold gF.kR;rw[zzb h,zzc ho]
def bFu{k:gF}{x:eF}(h:¬(jE x=false\/(k.aw<x.aw/\k9 k.ts.length k.reqs x=none)))(ho:k.d.off=false)(hf:(pF k.plan).1.kind=1\/((pF k.plan).1.kind=2/\¬k.aw<x.aw)):k.kR x=({k with plan:=(pF k.plan).2},9):=by
 unfold gF.kR;rw[zzb h,zzb (by rw[ho];decide)];cases hp:k.plan with
 | nil=>rw[hp]at hf;rcases hf with hf|⟨hf,_⟩<;>cases hf
 | cons f r=>
  rw[hp]at hf
  have hf:f.kind=1\/(f.kind=2/\¬k.aw<x.aw):=hf;simp only;rw[zzb (by omega),zzb (by omega)];rfl
def bFw{k:gF}{x:eF}(h:¬(jE x=false\/(k.aw<x.aw/\k9 k.ts.length k.reqs x=none)))(ho:k.d.off=false)(hm:∀f∈k.plan,nc f=true)(hf:¬((pF k.plan).1.kind=1\/((pF k.plan).1.kind=2/\¬k.aw<x.aw))):
  k.kR x=gF.vY {k with plan:=(pF k.plan).2} x (pF k.plan).1 ((k9 k.ts.length k.reqs x).getD []):=by
 have hn:=fwj hm;unfold gF.kR;rw[zzb h,zzb (by rw[ho];decide)];generalize (k9 k.ts.length k.reqs x).getD []=L;cases hp:k.plan with
 | nil=>
  rw[hp]at hn hf
  have e:({k with plan:=(pF []).2}:gF)=k:=by rw[<- hp];cases k;simp only at hp;subst hp;rfl
  rw[e];show (if k.aw<x.aw then k.lE x L else (k,0))=_;by_cases hl:k.aw<x.aw
  ·by_cases h0:(k.xL x).2=0
   ·simp[gF.vY,gF.pL,Jh,pF,hl,h0]
   simp[gF.vY,gF.pL,Jh,pF,hl,h0]
  simp[gF.vY,gF.pL,pF,hl]
 | cons f r=>
  rw[hp]at hn hf
  have hf:¬(f.kind=1\/(f.kind=2/\¬k.aw<x.aw)):=hf;have hn:f.kind=2\/f.kind=3:=by
   rcases hn with ⟨_,h⟩|⟨_,h⟩
   ·cases h
   have h:f.kind=1\/f.kind=2\/f.kind=3:=h;omega
  show _=gF.vY {k with plan:=r} x f L;generalize uR:({k with plan:=r}:gF)=k';have vn:k'.aw=k.aw:=by rw[<- uR]
  simp only;rw[uR];rcases hn with hn|hn
  ·have hl:k.aw<x.aw:=by
    rcases Int.lt_or_le k.aw x.aw with h|h
    ·exact h
    exact absurd (.inr ⟨hn,by omega⟩) hf
   by_cases h0:(k'.oI x f.keep).2=0
   ·simp[gF.vY,gF.pL,hn,hl,vn,h0]
   simp[gF.vY,gF.pL,hn,hl,h0]
  by_cases hl:k.aw<x.aw
  ·by_cases h0:(k'.xL x).2=0
   ·simp[gF.vY,gF.pL,Jh,hn,hl,vn,h0]
   simp[gF.vY,gF.pL,Jh,hn,hl,vn,h0]
  simp[gF.vY,gF.pL,hn,hl,vn]
abbrev C4(kp gp dp lp pp:Nat)(H:bw)(y:gF × Int)(v:Ω)(post:Ψ):Prop:=v= .int .i64 y.2/\∃H',H.le H'/\post=[.ob (iu kp gp dp lp pp H' y.1),.mem H']
def TC{t:eF}(h:jE t=true):xS t= .ok (lu t):=by
 have h1:=(Ke h).1;unfold lu;rw[h1]
def YS(kp gp dp lp pp:Nat)(H:bw)(k:gF)(x:mA)(t:eF)(hx:ma H x t)(hi:EE t)(Cl:∀o∈t.ops,pD o.key){N m:Nat}(hk:EH k N m):
  SP 301 [mV kp,agg (jP x)] [.ob (iu kp gp dp lp pp H k),.mem H] (C4 kp gp dp lp pp H (k.kR t)):=by
 refine Enzz λW F w hS=>?_;apply h_c;delta Rv aI bW a_ gi ai;refine zw hS λxb w hS=>?_;obtain⟨rv,hr,hS⟩:=iu.open (k:=k) hS Xr;have ex:jP x=[.int .i64 t.aw,x.ov,x.nv]:=by unfold jP;rw[hx.aw]
 rw[ex]at hS
 refine Gn λw hS=>?_;have hS:=iu.put k hS hr Xp;rw[<- ex];rw[<- ex]at hS
 refine Cc (Zt kp gp dp lp pp H k x t hx hi hk.rq) ?_;clear hS;rintro u post ⟨H1,iA,hq,rfl⟩ w hS;have hu:∃y,u= .tuple #[y,.bool (k9 k.ts.length k.reqs t).isSome]/\∀L,k9 k.ts.length k.reqs t=some L->nh H1 y L:=by
  unfold C7 at hq;cases hc:k9 k.ts.length k.reqs t with
  | none=>rw[hc]at hq;obtain⟨y,rfl⟩:=hq;exact⟨y,rfl,λL h=>by cases h⟩
  | some L=>rw[hc]at hq;obtain⟨y,rfl,hy⟩:=hq;exact⟨y,rfl,λL' h=>by cases h;exact hy⟩
 obtain⟨y,rfl,hy⟩:=hu;clear hq;have sX:=hx.mono iA;(try simp only[app]at hS);refine Gp ?_
 have l8:∀{w:Α} {H':bw} {z:gF} {e:Int},H.le H'->k.kR t=(z,e)->SL W (.ob (iu kp gp dp lp pp H' z)::.mem H'::F) w->∃post,C4 kp gp dp lp pp H (k.kR t) (.int .i64 e) post/\SL W (app post F) w:=λhh he hS=>by rw[he];exact⟨_,⟨rfl,_,hh,rfl⟩,hS⟩
 refine⟨λus w=>∃q:Bool,us=[.bool q]/\(q=true↔(jE t=false\/(k.aw<t.aw/\k9 k.ts.length k.reqs t=none)))/\SL W (.ob (iu kp gp dp lp pp H1 k)::.mem H1::.pt xb (jP x) 214::F) w,?_,?_⟩
 ·refine Gp ?_;refine Cg (zY H1 x t sX) λw hS=>?_;refine zu (λhm=>?_) (λhm=>?_)
  ·exact⟨true,rfl,⟨λ_=>.inl hm,λ_=>rfl⟩,aW hS⟩
  refine za (λhl=>?_) (λhl=>?_)
  ·refine Gp ?_;refine⟨_,rfl,?_,aW hS⟩;rw[hm];cases k9 k.ts.length k.reqs t with
   | none=>exact⟨λ_=>.inr ⟨hl,rfl⟩,λ_=>rfl⟩
   | some L=>exact⟨λh=>by (cases h),λh=>by rcases h with h|⟨_,h⟩<;>cases h⟩
  refine⟨false,rfl,⟨λh=>by (cases h),λh=>?_⟩,aW hS⟩;rcases h with h|h
  ·rw[hm]at h;cases h
  exact absurd h.1 hl
 clear hS;rintro v25 w ⟨q,gW,hq,hS⟩;cases gW;refine yF (λhqt=>l8 iA (bFv (hq.1 hqt)) (aW hS)) (λV5=>?_);have FL:¬(jE t=false\/(k.aw<t.aw/\k9 k.ts.length k.reqs t=none)):=λh=>by rw[hq.2 h]at V5;cases V5
 have oA:jE t=true:=by
  cases hb:jE t with
  | true=>rfl
  | false=>exact absurd (.inl hb) FL
 obtain⟨rv,hr,hS⟩:=iu.open (k:=k) hS Xr;refine Gp ?_;refine Cg (zK dp k.d) λw hS=>?_;refine yF (λho=>?_) (λho=>?_)
 ·have hS:=iu.put k hS hr Xp;exact l8 iA (bFz FL ho) (aW hS)
 refine Gp ?_;refine Cc (Qp pp k.plan hk.pl) ?_;clear hS;rintro _ post ⟨nq,rfl,rfl⟩ w hS;try simp only[app]at hS
 have DQ:=hk.rT;have hke:=fwi DQ;have Vk:=bFu FL ho;have Vl:=bFw FL ho DQ;have DN:(pF k.plan).2.length<=1024:=by
  have:=hk.pl;cases hp:k.plan with
  | nil=>exact zz8 _
  | cons f r=>rw[hp,zzj]at this;show r.length<=1024;omega
 generalize hf:(pF k.plan).1=f at *
 generalize (pF k.plan).2=pr at *
 refine Gp ?_;refine Gb λfb w hS=>?_;refine⟨λus w=>us=[]/\¬(f.kind=1\/(f.kind=2/\¬k.aw<t.aw))/\SL W (.pt kp (uW gp dp lp pp k.aw rv) 90::.ob (lF gp k.ts)::.ob (ir lp dp k.g)::.ob (mo pp pr)::.ob (cw dp k.d)::.pt fb (mK f) 33::.mem H1::.pt xb (jP x) 214::F) w,?_,?_⟩
 ·have h9:∀{w:Α},f.kind=1\/(f.kind=2/\¬k.aw<t.aw)->SL W (.ob (cw dp k.d)::.ob (mo pp pr)::.pt kp (uW gp dp lp pp k.aw rv) 90::.ob (lF gp k.ts)::.ob (ir lp dp k.g)::.mem H1::F) w->∃post,C4 kp gp dp lp pp H (k.kR t) (.int .i64 9) post/\SL W (app post F) w:=λh hS=>by
   have hS:=iu.jT (H:=H1) (reqs:=k.reqs) hS hr Xp;exact l8 iA (Vk h) hS
  refine Gp ?_;refine za (λh1=>h9 (.inl h1) (aW hS)) (λh1=>?_);refine Gp ?_;refine za (λh2=>?_) (λh2=>⟨rfl,by omega,aW hS⟩);refine Gp ?_;refine zu (λhl=>h9 (.inr ⟨h2,yyz hl⟩) (aW hS)) (λhl=>⟨rfl,λh=>?_,aW hS⟩);rcases h with h|⟨_,h⟩
  ·exact h1 h
  exact h (zzl hl)
 clear hS;rintro w ⟨-,hnf,hS⟩;have pO:=Vl hnf;clear Vk Vl;refine Gp ?_;refine Cc (YH H1 x t sX) ?_;clear hS;rintro r post Lo w hS;unfold EA at Lo;rw[TC oA]at Lo
 obtain⟨bv,rfl,rfl⟩:=Lo;have uN:=(EW oA).2;(try simp only[app]at hS);refine Gp ?_
 generalize uR:({k with plan:=pr}:gF)=k' at pO;have Cf:k'.g=k.g/\k'.d=k.d/\k'.ts=k.ts/\k'.aw=k.aw/\k'.reqs=k.reqs/\k'.plan=pr:=by rw[<- uR];exact⟨rfl,rfl,rfl,rfl,rfl,rfl⟩
 obtain⟨g1,g2,g3,g4,g5,g6⟩:=Cf;have hW:(k'.pL t f).1.ts=k.ts/\(k'.pL t f).1.aw=k.aw/\(k'.pL t f).1.reqs=k.reqs/\(k'.pL t f).1.plan=pr:=by
  unfold gF.pL;split
  ·unfold gF.oI;exact⟨g3,g4,g5,g6⟩
  split
  ·unfold gF.xL;exact⟨g3,g4,g5,g6⟩
  exact⟨g3,g4,g5,g6⟩
 refine⟨λus w=>us=[.int .i64 (k'.pL t f).2]/\SL W (.ob (iu kp gp dp lp pp H1 (k'.pL t f).1)::.pt fb (mK f) 33::.mem H1::.pt xb (jP x) 214::F) w,?_,?_⟩
 ·have wm:=hk.g.ok;have Fx:=hk.d;have hle:=hk.le;have j6:=hk.ops;refine Gp ?_;refine za (λh=>absurd rfl h) (λ_=>?_);unfold gF.pL;refine cF (λh2=>?_) (λh2=>?_)
  ·rw[zzc h2];refine Gn λw hS=>?_;refine Cg (QZ (.ob (bR bv 5 1 (lu t).length ((lu t).map ic))) lp dp k.g k.d bv (lu t) f.keep iV.own (by omega) wm (by omega) Fx (by omega) (by omega)) λw hS=>?_;unfold gF.oI;rw[g1,g2];have hS:=iu.jT (H:=H1) (reqs:=k.reqs) hS hr Xp;refine⟨rfl,?_⟩;rw[<- uR];exact aW hS
  rw[zzb h2,g4];refine za (λhl=>?_) (λhl=>?_)
  ·rw[zzc hl];refine Gp ?_;refine Cg (Zg (.ob (bR bv 5 1 (lu t).length ((lu t).map ic))) lp dp k.g k.d bv (lu t) iV.own (by omega) wm (by omega) Fx (by omega) (by omega)) λw hS=>?_;unfold gF.xL;simp only;rw[g1,g2];have hS:=iu.jT (H:=H1) (reqs:=k.reqs) hS hr Xp;refine⟨rfl,?_⟩;rw[<- uR];exact aW hS
  rw[zzb hl];have hS:=iu.jT (H:=H1) (reqs:=k.reqs) hS hr Xp;refine⟨rfl,?_⟩;rw[<- uR];exact aW hS
 clear hS;rintro v11 w ⟨gW,hS⟩;cases gW;unfold gF.vY at pO;obtain⟨w1,w2,w3,w4⟩:=hW;generalize k'.pL t f=z at *
 obtain⟨z,e⟩:=z;simp only at *
 refine cF (λhe=>?_) (λhe=>?_)
 ·rw[zzc he]at pO
  exact l8 iA pO (aW hS)
 rw[zzb he,g4]at pO
 have lU:∀{w:Α} {z':gF},k.kR t=(z',if f.kind≠0 then 9 else 0)->SL W (.ob (iu kp gp dp lp pp H1 z')::.pt fb (mK f) 33::.mem H1::F) w->iy (.bool (decide (f.kind≠0))) (∃post,C4 kp gp dp lp pp H (k.kR t) (.int .i64 9) post/\SL W (app post F) w) (∃post,C4 kp gp dp lp pp H (k.kR t) (.int .i64 0) post/\SL W (app post F) w):=λhc hS=>by
  refine za (λh0=>?_) (λh0=>?_)
  ·rw[zzc h0]at hc;exact l8 iA hc (aW hS)
  rw[zzb h0]at hc;exact l8 iA hc (aW hS)
 refine za (λhl=>?_) (λhl=>?_)
 ·refine cF (λh2=>?_) (λh2=>?_)
  ·rw[zzc ⟨hl,h2⟩]at pO
   obtain⟨L,hL⟩:∃L,k9 k.ts.length k.reqs t=some L:=by
    cases hc:k9 k.ts.length k.reqs t with
    | none=>exact absurd (.inr ⟨hl,hc⟩) FL
    | some L=>exact⟨L,rfl⟩
   rw[hL,xxc]at pO
   have vq:=hi.ops;have A6:=(tC.1 oA).1.2.2.1;refine Gp ?_;refine Cg (qu kp gp dp lp pp H1 z x t L y sX (hy L hL) (by omega) Cl) λw hS=>?_;exact lU pO (aW hS)
  rw[zzb (λh=>h2 h.2)]at pO
  refine Gp ?_;exact lU pO (aW hS)
 rw[zzb (λh=>hl h.1)]at pO
 refine Gp ?_;exact lU pO (aW hS)
def Ts{L:List il}(h:mQ L):f_ L-j7 L+1=((gR L).length:Int):=by
 by_cases hL:L=[]
 ·subst hL;rfl
 rw[h.head hL];omega
def Xb{L:List il}{N:Nat}(h:∀s∈L,po s N):1<=j7 L/\j7 L<=1099511627776:=by
 cases L with
 | nil=>exact⟨yyc _,by show (1:Int)<=_;decide⟩
 | cons s r=>exact⟨(h s (.head _)).n0,(h s (.head _)).n1⟩
def Z1(kp gp dp lp pp:Nat)(H:bw)(k:gF):SP 72 [mV kp] [.ob (iu kp gp dp lp pp H k)] (e_ (mV pp) [.ob (iu kp gp dp lp pp H k)]):=by
 refine Enzz λW F w hS=>?_;apply ibp;delta SS bW;obtain⟨rv,hr,hS⟩:=iu.iff.1 hS;refine Gp ?_;exact⟨_,⟨rfl,rfl⟩,iu.iff.2 ⟨rv,hr,hS⟩⟩
def yH(kp gp dp lp pp:Nat)(H:bw)(k:gF):SP 47 [mV kp] [.ob (iu kp gp dp lp pp H k)] (e_ (.int .i64 k.aw) [.ob (iu kp gp dp lp pp H k)]):=by
 refine Enzz λW F w hS=>?_;apply ia2;delta Ss bW;obtain⟨rv,hr,hS⟩:=iu.iff.1 hS;refine Gp ?_;exact⟨_,⟨rfl,rfl⟩,iu.iff.2 ⟨rv,hr,hS⟩⟩
def y0(kp gp dp lp pp:Nat)(H:bw)(k:gF){N:Nat}(hg:mH k.g N)(hN:N<=1000000000000):SP 200 [mV kp] [.ob (iu kp gp dp lp pp H k)] (e_ (.int .i64 ((gR k.g.bF).length:Int)) [.ob (iu kp gp dp lp pp H k)]):=by
 refine Enzz λW F w hS=>?_;apply gRw;delta O4 bW aR b_ ai;obtain⟨rv,hr,hS⟩:=iu.iff.1 hS;have h1:=y' hg.ok.bF;have h2:=Xb hg.ok.bF;have h3:=Ts hg.seq;refine Gn λw hS=>?_;refine Cg (ZZ lp dp k.g hg.ok hN) λw hS=>?_;refine Cg (Zu lp dp k.g hg.ok hN) λw hS=>?_;rw[h3];have hS:=iu.put k hS hr Xp;exact dW hS
def Qw(kp gp dp lp pp:Nat)(H:bw)(k:gF)(hq:k.reqs.length<=64):SP 33 [mV kp] [.ob (iu kp gp dp lp pp H k),.mem H] (λv post=>∃H',H.le H'/\nh H' v k.reqs/\post=[.ob (iu kp gp dp lp pp H' k),.mem H']):=by
 refine Enzz λW F w hS=>?_;apply h_v;delta RO bW;obtain⟨rv,hr,hS⟩:=iu.iff.1 hS;refine Gp ?_;refine Cc (z7 H rv k.reqs hr (by omega)) ?_;clear hS;rintro u post rfl w hS;try simp only[app]at hS
 obtain⟨H',hh,hR,hS⟩:=zz (H:=H) (v:=u) (n:=k.reqs.length) (sz:=7) (t:=98) (cells:=(k.reqs.map mL).flatten) hS Xp;have hS:=iu.put (H:=H') k hS (hr.mono hh) Xp;exact⟨_,⟨H',hh,hR,rfl⟩,aW hS⟩
def gF.at(k:gF)(t:Tr):gF:={k with ts:=t.1,reqs:=t.2.1,aw:=t.2.2}
def L1{t:eF}(h:jE t=true):EE t/\∀o∈t.ops,pD o.key:=by
 obtain⟨⟨_,_,h1,h2⟩,h3,h4⟩:=tC.1 h;refine⟨⟨λn hn=>?_,by omega,by omega⟩,λo ho=>?_⟩
 ·have:=h4 n hn;unfold nm at this;rw[zzx]at this
  unfold pD;omega
 have:=h3 o ho;unfold ph at this;rw[zzx]at this
 unfold pD;omega
def T9{b:Δ}{t:eF}(h:sQ b= .ok t):jE t=true:=by
 unfold sQ at h;split at h
 ·cases h
 split at h
 ·rename_i x hx;cases h;unfold Dg at hx;simp only at hx;split at hx
  ·rename_i hc;cases hx;exact hc.2.2
  cases hx
 cases h
def fwx{ts:List (List Cell)}(h:wD ts){t:eF}(hm:jE t=true):wD (ks ts t.ops).1:=fww h (L1 hm).2
def f_w{ts:List (List Cell)}{m:Nat}(h:small ts (4096*(m+1))){t:eF}(hm:jE t=true):small (ks ts t.ops).1 (4096*m):=
 f_v (awx h (by have:=(tC.1 hm).1.2.2.1;omega))
def gF.pZ(k:gF):Option Tr:=if j7 k.g.bF≠1/\0<(gR k.g.bF).length then none else xD k.ts.length (gR k.g.bF) k.tr
structure By(t:Tr)(n m:Nat):Prop where
 len:t.1.length=n
 ok:wD t.1
 room:small t.1 (4096*m)
 rq:t.2.1.length<=64
def XI{L L':List Rq}:∀{l:List mn},kW L l=some L'->L.length<=64->L'.length<=64
 | [],h,hl=>by cases h;exact hl
 | n::l,h,hl=>by
  unfold kW at h;cases hn:tD L n with
  | none=>rw[hn]at h;cases h
  | some L2=>rw[hn]at h;exact XI h (XH hn)
def By.step{t t':Tr}{n m:Nat}(h:By t n (m+1)){x:eF}(hs:stepT n t x=some t'):By t' n m:=by
 unfold stepT at hs;cases hf:k9 n t.2.1 x with
 | none=>rw[hf]at hs;cases hs
 | some L=>
  rw[hf]at hs
  simp only at hs;split at hs
  ·cases hs;obtain⟨hm,_,hn⟩:=Ff hf;exact⟨by show (ks _ _).1.length=n;rw[MB,h.len],fwx h.ok hm,f_w h.room hm,XI hn h.rq⟩
  cases hs
def Qv(kp gp dp lp pp:Nat)(H:bw)(k:gF){N m:Nat}(hg:mH k.g N)(hN:N<=1000000000000)(ht:By k.tr k.ts.length m)(hm:(gR k.g.bF).length<=m)(A6:m<=100000):
  SP 143 [mV kp] [.ob (iu kp gp dp lp pp H k),.mem H] (λv post=>∃H',H.le H'/\match k.pZ with
   | none=>v= .bool false/\post=[.ob (cw dp k.d),.mem H']
   | some t=>v= .bool true/\post=[.ob (iu kp gp dp lp pp H' (k.at t)),.mem H']):=by
 refine Enzz λW F w hS=>?_;apply gId;delta N9 aI bW a_ b_ gi cW ai bI;have h2:=Xb hg.ok.bF;have hF:∀{w:Α} {H':bw} {t:Tr},k.pZ=none->H.le H'->SL W (.ob (iu kp gp dp lp pp H' (k.at t))::.mem H'::F) w->∃post,(∃H',H.le H'/\match k.pZ with
   | none=>(.bool false:Ω)= .bool false/\post=[.ob (cw dp k.d),.mem H']
   | some t=>(.bool false:Ω)= .bool true/\post=[.ob (iu kp gp dp lp pp H' (k.at t)),.mem H'])/\SL W (app post F) w:=λhr hh hS=>by
  rw[hr];obtain⟨rv,V9,hS⟩:=iu.iff.1 hS;exact⟨[.ob (cw dp k.d),.mem _],⟨_,hh,rfl,rfl⟩,SL.cR (show SL W (_::_::_::_::.ob (cw dp k.d)::_) _ from hS) Xi⟩
 refine⟨λus w=>us=[]/\¬(j7 k.g.bF≠1/\0<(gR k.g.bF).length)/\SL W (.ob (iu kp gp dp lp pp H k)::.mem H::F) w,?_,?_⟩
 ·obtain⟨rv,hr,hS⟩:=iu.iff.1 hS;refine Gp ?_;refine Cg (Zu lp dp k.g hg.ok hN) λw hS=>?_;have hS:=iu.put k hS hr Xp;refine za (λh1=>?_) (λh1=>?_)
  ·refine Cg (y0 kp gp dp lp pp H k hg hN) λw hS=>?_;refine za (λh3=>?_) (λh3=>?_)
   ·exact hF (t:=k.tr) (by unfold gF.pZ;rw[zzc ⟨h1,by omega⟩]) (bw.le_refl H) hS
   exact⟨rfl,λh=>by omega,aW hS⟩
  exact⟨rfl,λh=>h1 h.1,aW hS⟩
 clear hS;rintro w ⟨-,vp,hS⟩;have hK:k.pZ=xD k.ts.length (gR k.g.bF) k.tr:=by unfold gF.pZ;rw[zzb vp]
 refine⟨λus w=>∃(i:Nat) (t:Tr) (H2:bw),us=[.int .i64 ((i+1:Nat):Int)]/\i<=(gR k.g.bF).length/\k.pZ=xD k.ts.length ((gR k.g.bF).drop i) t/\By t k.ts.length (m-i)/\H.le H2/\SL W (.ob (iu kp gp dp lp pp H2 (k.at t))::.mem H2::F) w,
  λus _=>match us with|[.int _ i]=>((gR k.g.bF).length+1-i).toNat|_=>0,⟨0,k.tr,H,rfl,zz8 _,hK,ht,bw.le_refl H,hS⟩,?_⟩
 clear hS;rintro v3 w ⟨i,t,H2,gW,hi,iP,hT,kG,hS⟩;cases gW;refine Cc (y0 kp gp dp lp pp H2 (k.at t) hg hN) ?_;clear hS;rintro _ post ⟨rfl,rfl⟩ w hS;try simp only[app]at hS
 rw[show (gR (k.at t).g.bF).length=(gR k.g.bF).length from rfl];refine cF (λh=>?_) (λh=>?_)
 ·have d_:i<(gR k.g.bF).length:=by omega
  have A4:j7 k.g.bF=1:=by
   rcases Int.lt_trichotomy (j7 k.g.bF) 1 with h|h|h
   ·omega
   ·exact h
   exact absurd ⟨by omega,by omega⟩ vp
  have FT:=hg.seq.read i;rw[A4,zzd d_]at FT
  rw[yyq d_]at iP
  generalize hbb:(gR k.g.bF)[i]=bs at *
  have iP:k.pZ=match sQ bs with
   | .ok x=>match stepT k.ts.length t x with
    | some t'=>xD k.ts.length ((gR k.g.bF).drop (i+1)) t'
    | none=>none
   | .error _=>none:=iP
  obtain⟨rv,hr,hS⟩:=iu.iff.1 hS;refine Gp ?_;refine Cc (Z9 lp dp (k.at t).g hg.ok hN ((i+1:Nat):Int) (by omega)) ?_;clear hS;rintro r post hq w hS;have hq:GU [.ob (ir lp dp (k.at t).g)] (rV k.g.bF ((i+1:Nat):Int)) r post:=hq;rw[show ((i+1:Nat):Int)=1+(i:Int) by omega,FT]at hq
  obtain⟨u,rfl,rfl⟩:=hq;try simp only[app]at hS
  have hS:=iu.put (k.at t) hS hr Xp;refine Gp ?_;refine Cc (YG (.ob (bR u 5 1 bs.length (bs.map ic))) H2 u bs iV.own) ?_;clear hS;rintro r post hq w hS;unfold Bp at hq;cases hd:sQ bs with
  | error e=>
   rw[hd]at hq iP
   obtain⟨iX,H3,kT,rfl,rfl⟩:=hq;try simp only[app]at hS
   have hS:=iu.mono kT (Has.front (c:=.ob (iu kp gp dp lp pp H2 (k.at t))) hS Xr);refine Gm λb w hS=>?_;refine Cc (Zt kp gp dp lp pp H3 (k.at t) ⟨0,.slice none 0 0,.slice none 0 0⟩ ⟨0,[],[]⟩ ⟨rfl,iD.nil _ _,iD.nil _ _⟩ ⟨by simp,by simp,by simp⟩ hT.rq) ?_;clear hS;rintro u2 post ⟨H4,w_,oB,rfl⟩ w hS;have hu:∃y b,u2= .tuple #[y,.bool b]:=by
    unfold C7 at oB;split at oB
    ·obtain⟨y,e⟩:=oB;exact⟨y,_,e⟩
    obtain⟨y,e,_⟩:=oB;exact⟨y,_,e⟩
   obtain⟨y,qb,rfl⟩:=hu;refine Gn λw hS=>?_;refine za (λ_=>?_) (λh=>absurd iX h);exact hF iP (bw.le_trans kG (bw.le_trans kT w_)) (aW hS)
  | ok x=>
   rw[hd]at hq iP
   obtain⟨xv,H3,kT,rfl,hx,rfl⟩:=hq;obtain⟨K4,Cl⟩:=L1 (T9 hd);have DZ:=(tC.1 (T9 hd)).1.2.2.1;have Ik:jP xv=[.int .i64 x.aw,xv.ov,xv.nv]:=by unfold jP;rw[hx.aw]
   try simp only[app]at hS
   have hS:=iu.mono kT (Has.front (c:=.ob (iu kp gp dp lp pp H2 (k.at t))) hS Xr);have h1:=rK hx;refine Gp ?_;refine zD hS λxb w hS=>?_;refine zr hS Xu rfl rfl h1 λw hS=>?_;refine zC hS Xh rfl ?_;refine Cc (Zt kp gp dp lp pp H3 (k.at t) xv x hx K4 hT.rq) ?_;clear hS;rintro u2 post ⟨H4,w_,oB,rfl⟩ w hS;have Kw:=bw.le_trans kG (bw.le_trans kT w_);have uP:k9 (k.at t).ts.length (k.at t).reqs x=k9 k.ts.length t.2.1 x:=by rw[show (k.at t).ts.length=k.ts.length from hT.len];rfl
   rw[uP]at oB
   simp only at iP;unfold stepT at iP;cases hc:k9 k.ts.length t.2.1 x with
   | none=>
    rw[hc]at oB iP
    obtain⟨y,rfl⟩:=oB;refine Gn λw hS=>?_;refine za (λh=>absurd rfl h) (λ_=>?_);refine Gp ?_;refine zq ?_;exact hF iP Kw (aW hS)
   | some L=>
    rw[hc]at oB iP
    obtain⟨y,rfl,hy⟩:=oB;refine Gn λw hS=>?_;refine za (λh=>absurd rfl h) (λ_=>?_);refine Gp ?_;refine zp ?_;obtain⟨rv2,Cv,hS⟩:=iu.open (k:=k.at t) hS Xr;rw[Ik]at hS
    refine Gp ?_;have hS:=iu.put (k.at t) hS Cv Xp;rw[show (k.at t).aw=t.2.2 from rfl];refine za (λh5=>?_) (λh5=>?_)
    ·simp only at iP;rw[zzb (by omega)]at iP
     exact hF iP Kw (aW hS)
    simp only at iP;rw[zzc (by omega)]at iP
    rw[<- Ik]at hS
    refine zC hS Xh rfl ?_;refine Cg (qu kp gp dp lp pp H4 (k.at t) xv x L y (hx.mono w_) hy (by omega) Cl) λw hS=>?_;have k_:stepT k.ts.length t x=some ((ks t.1 x.ops).1,L,x.aw):=MV hc (by omega);have hT':By ((ks t.1 x.ops).1,L,x.aw) k.ts.length (m-(i+1)):=by
     have:m-i=(m-(i+1))+1:=by omega
     rw[this]at hT
     exact hT.step k_
    have hS:SL W (.ob (iu kp gp dp lp pp H4 (k.at ((ks t.1 x.ops).1,L,x.aw)))::_) _:=hS;exact⟨⟨i+1,((ks t.1 x.ops).1,L,x.aw),H4,rfl,by omega,iP,hT',Kw,aW hS⟩,by dsimp only;omega⟩
 have nX:i=(gR k.g.bF).length:=by omega
 subst nX;rw[vv0]at iP
 have iP:k.pZ=some t:=iP;rw[iP];exact⟨_,⟨H2,kG,rfl,rfl⟩,aW hS⟩
def Nv(dp:Nat)(H:bw)(y:DS × Except Int gF)(r:Ω)(post:Ψ):Prop:=match y.2 with
 | .error e=>e≠0/\∃H',H.le H'/\r= .tuple #[.pointer none,.int .i64 e]/\post=[.ob (cw dp y.1),.mem H']
 | .ok k=>∃(kp gp lp pp:Nat) (H':bw),H.le H'/\r= .tuple #[mV kp,.int .i64 0]/\post=[.ob (iu kp gp dp lp pp H' k),.mem H']
def awy(n m:Nat)(hm:4096*m<=1000000):small (List.replicate n []) (4096*m):=λC hC=>by
 rw[vvb hC];simpa using hm
def XU(n:Nat):wD (List.replicate n []):=λC hC=>by
 rw[vvb hC];exact⟨.nil,by simp⟩
def Qu(H:bw)(dp:Nat)(d:DS)(gw size:Int){N:Nat}(eW:d.Ok N)(hN:N<=100000000)(iY:d.ops<=90000)(hn:∀d' g,jX d 8192 size=(d',.ok g)->(gR g.bF).length<=200):
  SP 97 [mV dp,.int .i64 gw,.int .i64 size] [.ob (cw dp d),.mem H] (Nv dp H (oX d gw size)):=by
 refine Enzz λW F w hS=>?_;apply ib3;delta S6 aI gi ai h_ bI;have hR:=eW.Gt;by_cases ht:gw<1\/8<gw
 ·have e:oX d gw size=(d,.error 1):=by unfold oX;rw[zzc ht]
  rw[e];refine Cg (cWv gw ht) λw hS=>?_;refine za (λ_=>?_) (λh=>absurd (by decide) h);exact⟨_,⟨by decide,H,bw.le_refl H,rfl,rfl⟩,aW hS⟩
 obtain⟨n,rfl⟩:∃n:Nat,gw=n:=⟨gw.toNat,by omega⟩;refine Cc (cWw n (by omega) (by omega)) ?_;clear hS;rintro _ post ⟨gp,rfl,rfl⟩ w hS;(try simp only[app]at hS);refine Gp ?_
 refine za (λh=>absurd rfl h) (λ_=>?_);refine Cc (QA dp d 8192 size eW (by omega) (by omega) (by omega)) ?_;clear hS;rintro r post hq w hS;unfold oX;rw[zzb ht];unfold EL at hq;cases xp:jX d 8192 size with
 | mk d' o=>
  rw[xp]at hq
  cases o with
  | error e=>
   obtain⟨he,rfl,rfl⟩:=hq;(try simp only[app]at hS);refine Gp ?_
   refine za (λ_=>?_) (λh=>absurd he h);exact⟨_,⟨he,H,bw.le_refl H,rfl,rfl⟩,aW hS⟩
  | ok g=>
   obtain⟨lp,rfl,rfl⟩:=hq;(try simp only[app]at hS);refine Gp ?_
   refine za (λh=>absurd rfl h) (λ_=>?_);refine Cc (cIq) ?_;clear hS;rintro _ post ⟨pp,rfl,rfl⟩ w hS;(try simp only[app]at hS);refine Gp ?_
   refine zw hS λkp w hS=>?_;have wm:=Mn eW (by omega) xp;have hS:SL W (.ob (iu kp gp dp lp pp H ⟨g,d',List.replicate n [],[],0,[]⟩)::_) _:=iu.jT (rv:=.slice none 0 0) hS (iD.nil H 7) Xp;have DH:(List.replicate n ([]:List Cell)).length=n:=xxf;refine Cc (Qv kp gp dp lp pp H ⟨g,d',List.replicate n [],[],0,[]⟩ wm (by omega) ⟨rfl,XU n,awy n 200 (by decide),by simp[gF.tr]⟩ (hn d' g xp) (by omega)) ?_;clear hS;rintro v post ⟨H1,iA,hm⟩ w hS;have uN:=Ts wm.seq;have e:(gF.mk g d' (List.replicate n []) [] 0 []).pZ=if j7 g.bF≠1/\j7 g.bF<=f_ g.bF then none else xD (Int.toNat (n:Int)) (gR g.bF) (vG (Int.toNat (n:Int))):=by
    unfold gF.pZ;simp only[DH];rw[zzv];by_cases hc:j7 g.bF≠1/\j7 g.bF<=f_ g.bF
    ·rw[zzc hc,zzc ⟨hc.1,by omega⟩]
    rw[zzb hc,zzb (λh=>hc ⟨h.1,by omega⟩)];rfl
   rw[e]at hm
   simp only;by_cases hc:j7 g.bF≠1/\j7 g.bF<=f_ g.bF
   ·rw[zzc hc]at hm ⊢
    obtain⟨rfl,rfl⟩:=hm;(try simp only[app]at hS);refine Gp ?_
    refine zq ?_;exact⟨_,⟨by decide,H1,iA,rfl,rfl⟩,aW hS⟩
   rw[zzb hc]at hm ⊢
   cases Ig:xD (Int.toNat (n:Int)) (gR g.bF) (vG (Int.toNat (n:Int))) with
   | none=>
    rw[Ig]at hm
    obtain⟨rfl,rfl⟩:=hm;(try simp only[app]at hS);refine Gp ?_
    refine zq ?_;exact⟨_,⟨by decide,H1,iA,rfl,rfl⟩,aW hS⟩
   | some t=>
    rw[Ig]at hm
    obtain⟨rfl,rfl⟩:=hm;(try simp only[app]at hS);refine Gp ?_
    refine zp ?_;have hS:SL W (.ob (iu kp gp dp lp pp H1 ⟨g,d',t.1,[],t.2.2,t.2.1⟩)::_) _:=hS;exact⟨_,⟨kp,gp,lp,pp,H1,iA,rfl,rfl⟩,aW hS⟩
structure TX(t:Tr)(n m:Nat):Prop where
 k:By t n m
 l0:0<=t.2.2
 l1:t.2.2<=1099511627776
 rq:lr t.2.1
def XJ{L L':List Rq}:∀{l:List mn},kW L l=some L'->lr L->lr L'
 | [],h,hl=>by cases h;exact hl
 | n::l,h,hl=>by
  unfold kW at h;cases hn:tD L n with
  | none=>rw[hn]at h;cases h
  | some L2=>
   rw[hn]at h
   refine XJ h ?_;unfold tD at hn;split at hn
   ·exact G9 hn
   split at hn
   ·rename_i L3 h3;split at hn
    ·cases hn;exact ES h3
    cases hn
   cases hn
def TX.step{t t':Tr}{n m:Nat}(h:TX t n (m+1)){x:eF}(hs:stepT n t x=some t'):TX t' n m:=by
 have hk:=h.k.step hs;unfold stepT at hs;cases hf:k9 n t.2.1 x with
 | none=>rw[hf]at hs;cases hs
 | some L=>
  rw[hf]at hs
  simp only at hs;split at hs
  ·cases hs;obtain⟨hm,_,hn⟩:=Ff hf;have h1:=(tC.1 hm).1;exact⟨hk,by show 0<=x.aw;omega,by show x.aw<=_;omega,XJ hn h.rq⟩
  cases hs
def TX.run{n:Nat}:∀(xs:List eF) (t t':Tr) (m:Nat),TX t n (m+xs.length)->runT n xs t=some t'->TX t' n m
 | [],t,t',m,h,hr=>by cases hr;exact h
 | x::xs,t,t',m,h,hr=>by
  have hr:(match stepT n t x with|some t'=>runT n xs t'|none=>none)=some t':=hr;cases hs:stepT n t x with
  | none=>rw[hs]at hr;cases hr
  | some t1=>
   rw[hs]at hr
   rw[zzj,show m+(xs.length+1)=(m+xs.length)+1 by omega]at h
   exact TX.run xs t1 t' m (h.step hs) hr
def eW2:lr []:=⟨by simp,λi h=>by simp at h⟩
def TX.zero(n m:Nat)(hm:4096*m<=1000000):TX (vG n) n m:=⟨⟨xxf,XU n,awy n m hm,by simp[vG]⟩,by show (0:Int)<=0;decide,by show (0:Int)<=_;decide,eW2⟩
structure Js(n:Nat)(k:gF)(j:Nat)(xs:List eF)(m:Option eF):Prop where
 s:mW n k xs m
 len:xs.length<=j
 g:mH k.g (1000000*(j+1))
 d:k.d.Ok (1000000*(j+1))
 ops:k.d.ops<=10*(j+1)
 pl:k.plan.length<=j
 rT:∀f∈k.plan,nc f=true
 keep:∀f∈k.plan,f.keep<=9223372036854775807
def bFx(k:gF)(x:eF):((k.kR x).1.g=k.g/\(k.kR x).1.d=k.d)\/(jE x=true/\(((k.kR x).1.g=(ki k.g k.d (lu x)).1.1/\(k.kR x).1.d=(ki k.g k.d (lu x)).1.2)\/∃n,(k.kR x).1.g=(lz k.g k.d (lu x) n).1.1/\(k.kR x).1.d=(lz k.g k.d (lu x) n).1.2)):=by
 unfold gF.kR;split
 ·exact .inl ⟨rfl,rfl⟩
 rename_i hn;have hm:jE x=true:=by
  cases hb:jE x with
  | true=>rfl
  | false=>exact absurd (.inl hb) hn
 have hw:∀(k':gF) (L:List Rq),k'.g=k.g->k'.d=k.d->(k'.lE x L).1.g=(ki k.g k.d (lu x)).1.1/\(k'.lE x L).1.d=(ki k.g k.d (lu x)).1.2:=λk' L h1 h2=>by
  unfold gF.lE;simp only;rw[h1,h2];split<;>exact⟨rfl,rfl⟩
 split
 ·exact .inl ⟨rfl,rfl⟩
 simp only;split
 ·split
  ·exact .inr ⟨hm,.inl (hw _ _ rfl rfl)⟩
  exact .inl ⟨rfl,rfl⟩
 split
 ·split
  ·exact .inr ⟨hm,.inl (hw _ _ rfl rfl)⟩
  exact .inl ⟨rfl,rfl⟩
 split
 ·exact .inr ⟨hm,.inr ⟨_,rfl,rfl⟩⟩
 exact .inl ⟨rfl,rfl⟩
def Js.first{n:Nat}(n1:1<=n)(n8:n<=8){size:Int}(s0:64<=size)(s1:size<=65536):∃k,oX lS ((n:Nat):Int) size=(k.d,.ok k)/\Js n k 0 [] none/\k.plan=[]/\k.d=lS/\k.aw=0/\(∀d' g,jX lS 8192 size=(d',.ok g)->(gR g.bF).length<=200):=by
 have xp:jX lS 8192 size=(lS,.ok ⟨[],8192,size,none⟩):=by
  unfold jX;rw[zzb (by omega)];rfl
 have hl:lI ⟨[],8192,size,none⟩ lS 8192 1 []:=⟨trivial,rfl,rfl,λ_=>⟨rfl,rfl⟩,yyc _,by show (0:Int)<=8192;decide,by show (8192:Int)<=12288;decide,s0,s1,by decide,by show (8192:Int)+(0:Nat)+2<=8192+4096;decide,rfl,rfl⟩;refine⟨⟨⟨[],8192,size,none⟩,lS,(vG n).1,[],0,[]⟩,?_,⟨⟨hl.st rfl _,by simp,rfl,xxf,λx hx=>by cases hx⟩,zzi _,⟨⟨by simp,by show (0:Int)<=8192;decide,by show (8192:Int)<=12288;decide,s0,s1,by simp⟩,trivial,by show (0:Int)<=_;decide,λx hx=>by cases hx⟩,Gv _,by show lS.ops<=_;decide,by simp,by simp,by simp⟩,rfl,rfl,rfl,λd' g hg=>?_⟩
 ·unfold oX;rw[zzb (by omega),zzv];simp only[xp];rfl
 rw[xp]at hg
 cases hg;simp[gR]

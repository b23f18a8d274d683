/-
  Texts of the proof, joined: Lib3, LawS, FldS3, SegS, SegS2, R01S, R01S2, BatchE, ItemR, BatchD, BatchR, TxnM, ImgM, WalM, WalP, SrcM, WinM, WalP2, WalP3, WalP4, WalM2, FrameM, SrcP, WalP5, SrcI, SrcK, SrcT, RefFS, IdxM.
-/
import Derived.Test.YtfenmffiidchcaaGreatJ7
import Derived.ProofKit
import Derived.OpenShut
import Derived.SizedLaws
import Derived.Deep.Slices
import Derived.JoinedCond
import Derived.Test.YtfenmffiidchcaaGreatQVcM
import Derived.Test.YtfenmffiidchcaaGreatQVcF
namespace Go.Proofs.YtfenmffiidchcaaGreat
set_option linter.unusedVariables false
open Go.RowKit Go.ChangeShapes Go.WideShapes Go.ChangeAt
def C2:lC Unit:=.plain 0 (λ_=>[]) (λ_=>rfl) (λ_ u hu=>by cases hu)
def nM{α β:Type}(S:lC α)(T:lC β):lC (α × β) where
 n:=S.n+T.n
 rd:=λw M x cs=>∃c1 c2,cs=c1++c2/\S.rd w M x.1 c1/\T.rd w M x.2 c2
 len:=λ⟨c1,c2,h,h1,h2⟩=>by rw[h,List.length_append,S.len h1,T.len h2]
 one:=λ⟨c1,c2,h,h1,h2⟩ u hu=>by
  subst h
  rcases List.mem_append.1 hu with hu|hu
  ·exact S.one h1 u hu
  ·exact T.one h2 u hu
 oA:=λ⟨c1,c2,h,h1,h2⟩ hf hM=>⟨c1,c2,h,S.oA h1 hf hM,T.oA h2 hf hM⟩
def lC.via{α β:Type}(T:lC α)(f:β->α):lC β where
 n:=T.n
 rd:=λw M y cs=>T.rd w M (f y) cs
 len:=λh=>T.len h
 one:=λh=>T.one h
 oA:=λh=>T.oA h
def Small{H:Type}(P:Program)(t:TypeId)(d:DataW H):Prop:=(d.weights P t).all (·<=reachBytes)=true
def pD{α:Type}(P:Program)(t:TypeId)(T:lC α)(ok:α->Prop):Prop:=
 P.cellsOf t=T.n/\∀{H:Type} (enc:TypeId × Value->H) (w:World) (sp:Nat->Bool) (hd:Bool) (fuel:Nat) (cs:List Value) (x:DataW H × List MemPlace),
  DataW.trod enc P w 0 sp hd fuel t cs=some x->Small P t x.1->∃a,T.rd w rK a cs/\ok a
def R6(k:IntKind)(n:Int):Prop:=(Lit.int k n).wf=true
theorem zN{P:Program}{t:TypeId}{k:IntKind}(ht:P.underlying t=some (.int k))(hc:P.cellsOf t=1):pD P t (pX k) (R6 k):=
 ⟨hc,λenc w sp hd fuel cs x h _=>by
  obtain⟨n,rfl,rfl,hw⟩:=DataW.trod_int ht h
  exact⟨n,rfl,hw⟩⟩
theorem qO{P:Program}{t:TypeId}(ht:P.underlying t=some .bool)(hc:P.cellsOf t=1):pD P t Ug (λ_=>True):=
 ⟨hc,λenc w sp hd fuel cs x h _=>by
  obtain⟨n,rfl,rfl⟩:=DataW.trod_bool ht h
  exact⟨n,rfl,trivial⟩⟩
def a7m(s:ByteArray):Prop:=s.size<=140737488351232
theorem a7x{P:Program}{t:TypeId}(ht:P.underlying t=some .string)(hc:P.cellsOf t=1):pD P t C1 a7m:=
 ⟨hc,λenc w sp hd fuel cs x h hs=>by
  obtain⟨n,rfl,rfl,hw⟩:=DataW.trod_string ht h
  refine⟨n,rfl,?_⟩
  simp[Small,DataW.weights,reachBytes]at hs
  exact (of_decide_eq_true hs:n.size<=140737488351232)⟩
def a7l{α:Type}(b:Nat)(ok:α->Prop)(xs:List α):Prop:=xs.length*b<=140737488351232/\∀x∈xs,ok x
theorem UD{H:Type}{P:Program}{e:TypeId}{n:Nat}:∀{l:List (DataW H)},(DataW.weightsAll P e l).all (·<=n)=true->∀d∈l,(d.weights P e).all (·<=n)=true
 | [],_,_,h=>by cases h
 | x::r,h,d,hd=>by
  simp only[DataW.weightsAll,List.all_append,Bool.and_eq_true]at h
  rcases List.mem_cons.1 hd with rfl|hd
  ·exact h.1
  ·exact UD h.2 d hd
theorem N_{α:Type}{p:Nat->α->Prop}:∀(n:Nat),(∀i,i<n->∃y,p i y)->∃ys:List α,ys.length=n/\∀i (h:i<ys.length),p i ys[i]
 | 0,_=>⟨[],rfl,λi h=>by simp at h⟩
 | n+1,h=>by
  obtain⟨ys,hl,hy⟩:=N_ n (λi hi=>h i (by omega))
  obtain⟨y,hy'⟩:=h n (by omega)
  refine⟨ys++[y],by simp[hl],λi hi=>?_⟩
  by_cases ix:i<ys.length
  ·rw[List.getElem_append_left ix];exact hy i ix
  ·have:i=n:=by simp at hi;omega
   subst this
   rw[List.getElem_append_right (by omega)]
   simpa [hl] using hy'
theorem cFf{α:Type}{P:Program}{t e:TypeId}{T:lC α}{ok:α->Prop}{b:Nat}(h:pD P e T ok)(ht:P.underlying t=some (.slice e))(hc:P.cellsOf t=1)(hb:P.bytesOf e=b)(xC:0<T.n):pD P t (I2 T) (a7l b ok):=by
 refine⟨hc,λenc w sp hd fuel cs x hx hs=>?_⟩
 rcases Go.Deep.open_slice ht hx with ⟨rfl,rfl⟩|⟨a,len,cap,m,n,D,Pl,rfl,_,hl,hm,Rw,rfl,pO⟩
 ·exact⟨[],⟨_,rfl,sn.nil T w rK⟩,by simp,λx hx=>by cases hx⟩
 ·have hle:len<=m:=by rw[Rw];split<;>omega
  simp only[Small,DataW.weights,ht,hb,List.all_cons,List.all_append,Bool.and_eq_true,decide_eq_true_eq,List.length_map,List.length_range]at hs
  have aik:∀i,i<len->∃y:α,ok y/\∃rQ,T.rd w rK y rQ/\At w rK a.block (a.off+i*T.n) rQ/\a=⟨a.block,a.off,none⟩:=λi hi=>by
   obtain⟨rQ,h1,h2⟩:=pO i (by omega)
   obtain⟨y,hy,b5⟩:=h.2 enc w sp hd n rQ _ h2 (UD hs.2.1 _ (List.mem_map.2 ⟨i,by simpa using hi,rfl⟩))
   obtain⟨_,hlen,mB⟩:=World.cells?_some h1
   have tG:a.spot=none:=by
    have h0:=mB 0 (by rw[h.1];exact xC)
    rw[List.getElem?_eq_getElem (by rw[hlen,h.1];exact xC)]at h0
    cases tG:a.spot with
    | none=>rfl
    | some q=>
     exfalso
     by_cases AE:i*P.cellsOf e=0
     ·simp[Addr.add,AE,World.cell?,tG]at h0
      split at h0<;>cases h0
     ·have Gz:=pO 0 (by omega)
      obtain⟨cs0,vR,_⟩:=Gz
      obtain⟨_,G8,X_⟩:=World.cells?_some vR
      have DF:=X_ 0 (by rw[h.1];exact xC)
      rw[List.getElem?_eq_getElem (by rw[G8,h.1];exact xC)]at DF
      simp[Addr.add,World.cell?,tG]at DF
      split at DF<;>cases DF
   obtain⟨ab,ao,asp⟩:=a
   simp only at tG
   subst tG
   refine⟨y,b5,rQ,hy,⟨λ_ x=>x,λj u hu=>?_⟩,rfl⟩
   have hj:=(List.getElem?_eq_some_iff.1 hu).1
   have:=mB j (by omega)
   rw[Addr.add_lit,Addr.add_lit,hu,h.1]at this
   exact this
  obtain⟨ys,tI,hy⟩:=N_ len aik
  subst tI
  refine⟨ys,⟨_,rfl,some a,cap,rfl,hl,λi hi=>?_⟩,?_,λx hx=>?_⟩
  ·obtain⟨_,rQ,h1,h2,h3⟩:=hy i hi
   exact⟨a.block,a.off,rQ,congrArg some h3,h1,h2⟩
  ·have:=hs.1
   simp only[reachBytes]at this
   rw[Nat.add_mul]at this
   omega
  ·obtain⟨i,hi,rfl⟩:=List.getElem_of_mem hx
   exact (hy i hi).1
def C8{α:Type}(P:Program)(fs:List Field)(o:Nat)(T:lC α)(ok:α->Prop):Prop:=
 ∀{H:Type} (enc:TypeId × Value->H) (w:World) (sp:Nat->Bool) (hd:Bool) (n:Nat) (cs:List Value) (xs:List (DataW H × List MemPlace)),xs.length=fs.length ->
  (∀(i:Nat) (f:Field),fs[i]?=some f->DataW.trod enc P w 0 sp hd n f.type ((cs.drop f.offset).take (P.cellsOf f.type))=xs[i]?) ->
  (DataW.weightsEach P (fs.map (·.type)) (xs.map (·.1))).all (·<=reachBytes)=true->cs.length=o+T.n->∃a,T.rd w rK a (cs.drop o)/\ok a
theorem O3(P:Program)(o:Nat):C8 P [] o C2 (λ_=>True):=λenc w sp hd n cs xs _ _ _ hl=>⟨(),by
 show cs.drop o=[]
 rw[List.drop_eq_nil_iff];have:C2.n=0:=rfl;omega,trivial⟩
theorem q_{α β:Type}{P:Program}{f:Field}{fs:List Field}{o:Nat}{S:lC α}{T:lC β}{S6:α->Prop}{S7:β->Prop}(h1:pD P f.type S S6)(ho:f.offset=o)(h2:C8 P fs (o+S.n) T S7):
  C8 P (f::fs) o (nM S T) (λx=>S6 x.1/\S7 x.2):=λenc w sp hd n cs xs hl hx hs hc=>by
 match xs,hl with
 | y::ys,hl=>
  have P5:(nM S T).n=S.n+T.n:=rfl
  simp only[List.map_cons,DataW.weightsEach,List.all_append,Bool.and_eq_true]at hs
  have e0:=hx 0 f rfl
  rw[ho,h1.1]at e0
  obtain⟨a,ha,awt⟩:=h1.2 enc w sp hd n _ y e0 hs.1
  obtain⟨b,hb,awu⟩:=h2 enc w sp hd n cs ys (by simpa using hl) (λi g hg=>by simpa using hx (i+1) g (by simpa using hg)) hs.2 (by omega)
  refine⟨(a,b),⟨_,_,?_,ha,hb⟩,awt,awu⟩
  rw[<- List.drop_drop]
  exact (List.take_append_drop _ _).symm
theorem Zn{α:Type}{P:Program}{t:TypeId}{fs:Array Field}{T:lC α}{ok:α->Prop}(ht:P.underlying t=some (.struct fs))(hc:P.cellsOf t=T.n)(h:C8 P fs.toList 0 T ok):pD P t T ok:=
 ⟨hc,λenc w sp hd fuel cs x hx hs=>by
  obtain⟨xs,n,_,rfl,hl,hlen,hf⟩:=DataW.trod_struct ht hx
  simp only[Small,DataW.weights,ht]at hs
  obtain⟨a,ha,b5⟩:=h enc w sp hd n cs xs (by simpa using hlen) (λi f hi=>hf i f (by simpa using hi)) hs (by omega)
  exact⟨a,by simpa using ha,b5⟩⟩
theorem Yp{α β:Type}{P:Program}{t:TypeId}{T:lC α}{ok:α->Prop}(f:β->α)(g:α->β)(hg:∀a,f (g a)=a)(h:pD P t T ok):pD P t (T.via f) (λb=>ok (f b)):=
 ⟨h.1,λenc w sp hd fuel cs x hx hs=>by
  obtain⟨a,ha,b5⟩:=h.2 enc w sp hd fuel cs x hx hs
  exact⟨g a,by show T.rd w rK (f (g a)) cs;rw[hg];exact ha,by show ok (f (g a));rw[hg];exact b5⟩⟩
theorem qb{α:Type}{P:Program}{t:TypeId}{T:lC α}{ok S5:α->Prop}(h:pD P t T ok)(hi:∀a,ok a->S5 a):pD P t T S5:=
 ⟨h.1,λenc w sp hd fuel cs x hx hs=>let ⟨a,ha,b5⟩:=h.2 enc w sp hd fuel cs x hx hs;⟨a,ha,hi a b5⟩⟩
theorem Ur{H:Type}{enc:TypeId × Value->H}{P:Program}(hl:laidOutB P=true){W W':World}(hb:Below W.heap.size W W'):∀{ts:List TypeId} {vs:List Value} {ds:List (DataW H)} {ps:List MemPlace},
  (∀t∈ts,P.readableRec t=true/\t<P.types.size)->DataW.TrodAll enc P W 0 (λ_=>true) true ts vs ds ps->(∀x∈ps,x.block<W.heap.size)->DataW.TrodAll enc P W' 0 (λb=>decide (b<W.heap.size)) true ts vs ds ps
 | [],_,_,_,_,h,_=>by
  obtain⟨rfl,rfl,rfl⟩:=trodAll_nil h
  exact trodAll_mk0
 | t::ts,_,_,_,hr,h,ix=>by
  obtain⟨v,vs1,d,WG,a,b,rfl,rfl,rfl,h1,h2⟩:=trodAll_cons h
  exact⟨a,b,Below.trod hl (hr t (by simp)).1 (hr t (by simp)).2 h1 hb (λx hx=>ix x (by simp[hx])),Ur hl hb (λt ht=>hr t (by simp[ht])) h2 (λx hx=>ix x (by simp[hx])),rfl⟩
theorem cw8{H:Type}{enc:TypeId × Value->H}{P:Program}{f:Func}{s:ChangeSpec}{tb:TypeId}(hl:laidOutB P=true)(hr:∀t∈f.params.toList,P.readableRec t=true/\t<P.types.size)
  (RO:s.vars=[]) (awz:f.resultTypes = #[tb]) (hb:P.underlying tb=some .bool) (hfn:∀ds:List (DataW H),ds.length=f.params.size->(s.fn H ds).results=[.lit (.bool true)]/\(s.fn H ds).args=ds/\(s.fn H ds).vars=[])
  {W W':World} {args:Array Value} {ds gs:List (DataW H)} {before:List MemPlace} (hW:DataW.Whole enc P f.params.toList s.vars false W args.toList ds gs before) (P0:Below W.heap.size W W') :
  s.post enc P f false true false false W args (.bool true) W':=by
 have ix:=hW.lt
 have pk:=hW
 obtain⟨p,q,hA,hV,rfl,hfz,_⟩:=hW
 rw[RO]at hV
 obtain⟨rfl,rfl⟩:=trodVars_none hV
 have hlen:∀{ts:List TypeId} {vs:List Value} {ds:List (DataW H)} {ps:List MemPlace} {w:World} {base:Nat} {sp:Nat->Bool} {hd:Bool},DataW.TrodAll enc P w base sp hd ts vs ds ps->ds.length=ts.length:=by
  intro ts
  induction ts with
  | nil=>intro vs ds ps w base sp hd h;obtain⟨rfl,rfl,rfl⟩:=trodAll_nil h;rfl
  | cons t ts ih=>intro vs ds ps w base sp hd h;obtain⟨v,vs1,d,WG,a,b,rfl,rfl,rfl,_,h2⟩:=trodAll_cons h;simp[ih h2]
 obtain⟨e1,e2,e3⟩:=hfn ds (by simpa using hlen hA)
 refine⟨ds,[],p++[],[],p,[],pk,?_,?_,?_,P0.frame _,λh=>by cases h⟩
 ·rw[List.append_nil,e1,awz]
  exact trodAll_mk1 (shut_bool hb true)
 ·rw[List.append_nil,e2]
  exact Ur hl P0 hr hA (λx hx=>ix x (by simp[hx]))
 ·rw[List.append_nil,e3,RO]
  rfl
def Sd:Option TypeDesc->Bool
 | some .bool|some (.int _)|some .string|some (.slice _)=>true
 | _=>false
theorem Xj{P:Program}{w:World}{r:Reach}{b0:Nat}{t:TypeId}{v:Value}(hf:Sd (P.underlying t)=true)(o8:Value.okWide P w r b0 t v):v.cells.toList=[v]:=by
 unfold Value.okWide at o8
 cases hu:P.underlying t with
 | none=>rw[hu]at hf;cases hf
 | some d=>
  rw[hu]at hf o8
  cases d<;>first|(cases hf;done)|(unfold Cell.okWide Cell.ok at o8;rw[hu]at o8;cases v<;>first|rfl|(exfalso;simp_all))
theorem b_c{α:Type}{P:Program}{t:TypeId}{T:lC α}{ok:α->Prop}{H:Type}{enc:TypeId × Value->H}{W:World}{r:Reach}{b0:Nat}{v:Value}{d:DataW H}{ps:List MemPlace}{sp:Nat->Bool}{hd:Bool}
  (h:pD P t T ok) (hf:Sd (P.underlying t)=true) (o8:Value.okWide P W r b0 t v) (h0:DataW.Trod enc P W 0 sp hd t v d ps) (hs:Small P t d):∃a,T.rd W rK a [v]/\ok a:=by
 obtain⟨fuel,hx⟩:=h0
 rw[Xj hf o8]at hx
 exact h.2 enc W sp hd fuel [v] _ hx hs
theorem b_b{α:Type}{P:Program}{t:TypeId}{fs:Array Field}{T:lC α}{ok:α->Prop}{H:Type}{enc:TypeId × Value->H}{W:World}{r:Reach}{b0:Nat}{v:Value}{d:DataW H}{ps:List MemPlace}{sp:Nat->Bool}{hd:Bool}
  (h:pD P t T ok) (ht:P.underlying t=some (.struct fs)) (o8:Value.okWide P W r b0 t v) (h0:DataW.Trod enc P W 0 sp hd t v d ps) (hs:Small P t d):∃a cs,v= .agg cs/\T.rd W rK a cs.toList/\ok a:=by
 obtain⟨fuel,hx⟩:=h0
 unfold Value.okWide at o8
 rw[ht]at o8
 obtain⟨cs,rfl,_⟩:=o8
 obtain⟨a,h1,h2⟩:=h.2 enc W sp hd fuel _ _ hx hs
 exact⟨a,cs,rfl,h1,h2⟩
open Go.RowKit
def Fi(P:Program)(f:FuncId)(args:List Value)(w:World):Prop:=zU P f args w λv w'=>v= .bool true/\Below w.heap.size w w'
theorem Y8{P:Program}{f:FuncId}{args:List Value}{w:World}(h:Spec P f args [.mem (bw.of w)] λv post=>v= .bool true/\∃H l,(bw.of w).le H/\post= .mem H::l):Fi P f args w:=by
 refine (h w [] w (SL.init w)).mono ?_
 rintro v w' ⟨post,⟨rfl,H,l,hH,rfl⟩,hS⟩
 exact⟨rfl,hS.below (.hd) hH⟩
theorem Fi.calls{P:Program}{f:FuncId}{args:List Value}{w:World}(h:Fi P f args w):Calls P f args.toArray w λe w'=>e= .returned (.bool true)/\Below w.heap.size w w':=
 Calls.mono h λe w' ⟨v,he,hv,hb⟩=>⟨by rw[he,hv],hb⟩
theorem sn.flat{α:Type}{T:lC α}{enc:α->List Value}{w:World}{xs:List α}{v:Value}(h:sn T w rK xs v)(he:∀{M x cs},T.rd w M x cs->cs=enc x)(hn:∀x,(enc x).length=T.n):
  gi (bw.of w) T.n v xs.length (xs.map enc).flatten:=by
 obtain⟨a,cap,rfl,hc,hx⟩:=h.out
 have hlen:(xs.map enc).flatten.length=xs.length*T.n:=by
  rw[Pa (n:=T.n) _ (λx hx=>by obtain⟨y,_,rfl⟩:=List.mem_map.1 hx;exact hn y),List.length_map]
 refine⟨hlen,a,cap,rfl,hc,?_⟩
 rcases Nat.eq_zero_or_pos xs.length with h0|h0
 ·exact .inl h0
 ·right
  obtain⟨b,off,_,rfl,_,_⟩:=hx 0 h0
  refine⟨b,off,rfl,λj u hu=>?_⟩
  have hj:=(List.getElem?_eq_some_iff.1 hu).1
  rcases Nat.eq_zero_or_pos T.n with hz|hz
  ·rw[hlen,hz]at hj;omega
  have hi:j / T.n<xs.length:=by rw[hlen]at hj;exact (Nat.div_lt_iff_lt_mul hz).2 hj
  obtain⟨b',cFe,cs,Aw,hr,kG⟩:=hx (j / T.n) hi
  simp at Aw
  obtain⟨rfl,rfl⟩:=Aw
  have nH:=he hr
  subst nH
  have Hf:j % T.n<(enc xs[j / T.n]).length:=by rw[hn];exact Nat.mod_lt _ hz
  have hg:=Gr (n:=T.n) (xs.map enc) (λx hx=>by obtain⟨y,_,rfl⟩:=List.mem_map.1 hx;exact hn y) (j / T.n) (j % T.n) (by simpa using hi) ((enc xs[j / T.n])[j % T.n]'Hf) (by simp[List.getElem?_eq_getElem Hf])
  have hdm:j / T.n*T.n+j % T.n=j:=by rw[Nat.mul_comm];exact Nat.div_add_mod j T.n
  rw[hdm]at hg
  rw[hu]at hg
  have hu':u=(enc xs[j / T.n])[j % T.n]:=Option.some.inj hg
  have:=kG.2 (j % T.n) u (by rw[hu'];exact List.getElem?_eq_getElem Hf)
  rw[show off+j / T.n*T.n+j % T.n=off+j by omega]at this
  unfold World.cell? at this
  unfold bw.cell bw.of
  simp only at this ⊢
  split at this
  ·rename_i c t f u9;rw[u9];simpa using this
  ·cases this
theorem w7{α:Type}{enc:α->List Value}{n:Nat}{xs:List α}(hn:∀x,(enc x).length=n){j i:Nat}(hj:j<xs.length){u:Value}(hu:(enc xs[j])[i]?=some u):((xs.map enc).flatten)[j*n+i]?=some u:=
 Gr (n:=n) (xs.map enc) (λx hx=>by obtain⟨y,_,rfl⟩:=List.mem_map.1 hx;exact hn y) j i (by simpa using hj) u (by simpa using hu)
set_option maxRecDepth 100000
structure pZ(X:Chunk)(sz:Nat)(v:Value)(n:Nat)(cs:List Value):Prop where
 sl:∀{W w:World} {l:List Chunk},SL W l w->Has X l->∃a c,v= .slice a n c/\n<=c
 src:∀{W w:World} {l:List Chunk},SL W l w->Has X l->mN w sz v n cs
theorem pZ.own{v:Value}{t:TypeId}{sz n:Nat}{cs:List Value}:pZ (.ob (a_ v t sz n cs)) sz v n cs:=
 ⟨λh m=>by
  obtain⟨l2,r⟩:=m.rem
  rcases a_.open (h.perm r.perm) with ⟨⟨a',rfl⟩,rfl,_,_⟩|⟨b',uS,rest,rfl,hc,_⟩
  ·exact⟨a',0,rfl,Nat.le_refl _⟩
  ·exact⟨_,_,rfl,hc⟩,λh m=>pW h m⟩
theorem pZ.pt{p n sz:Nat}{t:TypeId}{cs:List Value}(h:cs.length=n*sz):pZ (.pt p cs t) sz (.slice (some ⟨p,0,none⟩) n n) n cs:=
 ⟨λ_ _=>⟨_,_,rfl,Nat.le_refl _⟩,λhS m=>lP hS m h⟩
section
variable {W w:World} {l:List Chunk} {X:Chunk} {v:Value} {sz n:Nat} {cs:List Value}
theorem ZC{K:Value->Prop}(hS:SL W l w)(m:Has X l)(hb:pZ X sz v n cs)(k:K (.int .i64 n)):zd v K:=by
 obtain⟨a,c,rfl,_⟩:=hb.sl hS m
 exact yo k
theorem qv{α:Type}{enc:α->List Value}{xs:List α}{j:Nat}{kk:IntKind}{K:Value->Prop}(hS:SL W l w)(m:Has X l)(hb:pZ X sz v n (xs.map enc).flatten)(he:∀x,(enc x).length=sz)(nU:0<sz)(hx:xs.length=n)(hj:j<n)
  (hK:K (.agg (enc (xs[j]'(by omega))).toArray)):ze sz v (.int kk (j:Int)) λp=>zj sz p w K:=by
 obtain⟨a,c,rfl,hc⟩:=hb.sl hS m
 have hs:=hb.src hS m
 have hlen:(xs.map enc).flatten.length=n*sz:=by
  rw[<- hx];clear hx hs hb hK hj hc
  induction xs with
  | nil=>simp
  | cons x xs ih=>simp[he,ih,Nat.add_mul];omega
 cases a with
 | none=>
  have e:(xs.map enc).flatten=[]:=hs.2
  have e2:(enc (xs[j]'(by omega))).length=0:=by
   rw[e]at hlen
   simp only[List.length_nil]at hlen
   rw[he]
   rcases Nat.eq_zero_or_pos sz with h|h
   ·exact h
   ·have:0<n*sz:=Nat.mul_pos (by omega) h
    omega
  rw[he]at e2;omega
 | some p=>
  refine⟨p,_,c,kk,j,rfl,rfl,hj,?_⟩
  refine⟨_,enc (xs[j]'(by omega)),rfl,he _,λi u hu=>?_,hK⟩
  rw[Fx]
  refine hs.2.2 (j*sz+i) u ?_
  exact w7 he (by omega) hu
end
def rI(X:Chunk)(l:List gW)(u:Value)(post:List Chunk):Prop:=match oS l with
 | .error e=>u= .tuple #[.slice none 0 0,.int .i64 e]/\post=[X]
 | .ok b=>∃v,u= .tuple #[v,.int .i64 0]/\post=[.ob (a_ v 5 1 b.length (b.map cR)),X]
theorem rI.er{X:Chunk}{l:List gW}{e:Int}(h:oS l= .error e):rI X l (.tuple #[.slice none 0 0,.int .i64 e]) [X]:=by
 unfold rI;rw[h];exact⟨rfl,rfl⟩
theorem rI.ok{X:Chunk}{l:List gW}{b:List UInt8}(h:oS l= .ok b)(v:Value):rI X l (.tuple #[v,.int .i64 0]) [.ob (a_ v 5 1 b.length (b.map cR)),X]:=by
 unfold rI;rw[h];exact⟨v,rfl,rfl⟩
theorem WN{x:gW}(h:mV x=true):(iZ x).length<=5000:=by
 unfold iZ
 unfold mV at h
 by_cases h1:x.kind=1
 ·rw[if_pos h1];simp[mf]
 ·rw[if_neg h1]at h ⊢
  by_cases h2:x.kind=2
  ·rw[if_pos h2]at h
   have h3:x.s.size<=4096:=by
    rw[Bool.and_eq_true]at h
    exact of_decide_eq_true h.2
   have:x.s.data.toList.length=x.s.size:=rfl
   simp only[List.length_cons,List.length_append,mf];omega
  ·rw[if_neg h2]at h;cases h
theorem F7:∀{l:List gW},l.all mV=true->(l.map iZ).flatten.length<=l.length*5000
 | [],_=>by simp
 | x::l,h=>by
  rw[List.all_cons,Bool.and_eq_true]at h
  have h1:=WN h.1
  have h2:=F7 h.2
  simp only[List.map_cons,List.flatten_cons,List.length_append,List.length_cons];omega
theorem ZF(X:Chunk)(v:Value)(xs:List gW)(hx:pZ X 3 v xs.length (xs.map iD).flatten)(hN:xs.length<=140737488355328):SP 228 [v] [X] (rI X xs):=by
 intro W F w hS;apply b5x;delta Lf aF a7 aW c_ ai cI bI;(try simp only[app]at hS)
 refine ZC hS .hd hx ?_
 refine bW (λh=>?_) (λh=>?_)
 ·exact⟨_,.er (by unfold oS;rw[if_pos (by omega)]),hS⟩
 ·refine ZC hS .hd hx ?_
  refine zL ?_
  rw[wrap_u64 (by omega) (by omega)]
  have hS:=a_.nil (t:=5) (sz:=1) hS
  have hS:SL W (.ob (a_ (.slice none 0 0) 5 1 ([]:List UInt8).length (([]:List UInt8).map cR))::X::F) w:=hS
  refine Cc (Zx [] (.slice none 0 0) xs.length 2 (by omega) (by simp)) ?_;clear hS
  rintro wC post rfl w hS;(try simp only[app]at hS)
  rw[List.nil_append]at hS
  refine ZC hS Xh hx ?_
  have hb:∀i,i<=xs.length->(xs.take i).all mV=true->(iu xs.length 2++((xs.take i).map iZ).flatten).length<=200000000:=λi hi ha=>by
   have:=F7 ha
   rw[List.length_append,mf]
   rw[List.length_take]at this
   omega
  refine⟨λvs w=>∃(i:Nat) (u:Value),i<=xs.length/\vs=[u,.int .i64 i]/\(xs.take i).all mV=true/\SL W (.ob (a_ u 5 1 (iu xs.length 2++((xs.take i).map iZ).flatten).length ((iu xs.length 2++((xs.take i).map iZ).flatten).map cR))::X::F) w,λvs _=>match vs with
   | [_,.int _ i]=>xs.length-i.toNat
   | _=>0,⟨0,wC,by omega,rfl,rfl,(by simpa using hS)⟩,?_⟩
  clear hS
  rintro u1 u2 w1 ⟨i,u,hi,hv,ha,hS⟩
  cases hv
  have X5:=hb i hi ha
  refine bW (λh=>?_) (λh=>?_)
  ·have hi:i<xs.length:=by omega
   refine qv hS Xh hx pL (by omega) rfl hi ?_
   have tH:xs[i]∈xs:=List.getElem_mem hi
   have xF:xs.take (i+1)=xs.take i++[xs[i]]:=by rw[List.take_add_one];simp[hi]
   generalize xs[i]=x at *
   unfold iD
   refine Gm λb w hS=>?_
   refine Cc (ql x) ?_;clear hS
   rintro v post ⟨rfl,rfl⟩ w hS;(try simp only[app]at hS)
   refine zP ?_
   cases hr:mV x with
   | false=>
    refine zw ?_
    refine⟨[X],.er ?_,aR hS⟩
    unfold oS
    rw[if_neg (by omega),if_neg]
    intro h
    have:=List.all_eq_true.1 h x tH
    rw[hr]at this;cases this
   | true=>
    refine zq ?_
    have xe:(xs.take (i+1)).all mV=true:=by rw[xF,List.all_append,ha];simp[hr]
    have po:=hb (i+1) (by omega) xe
    have oX:((xs.take (i+1)).map iZ).flatten=((xs.take i).map iZ).flatten++iZ x:=by rw[xF];simp
    rw[oX]at po
    rw[List.length_append,List.length_append]at po
    have hk:x.kind=1\/x.kind=2:=by
     unfold mV at hr
     by_cases h1:x.kind=1
     ·exact .inl h1
     ·rw[if_neg h1]at hr
      by_cases h2:x.kind=2
      ·exact .inr h2
      ·rw[if_neg h2]at hr;cases hr
    generalize hc:iu xs.length 2++((xs.take i).map iZ).flatten=c at *
    have kH:c.length+(iZ x).length<=200000000:=by rw[<- hc,List.length_append];omega
    refine Gp ?_
    refine zL ?_
    rw[wrap_u8]
    refine zz (cells:=[cR (jQ x.kind)]) hS rfl ?_
    clear hS;intro p w hS
    refine zx (m:=1) (cs:=[cR (jQ x.kind)]) hS Xr (lP hS .hd rfl) rfl rfl (by intro v hv;simp only[List.mem_singleton]at hv;subst hv;rfl) (by omega) (by omega) ?_
    clear hS;intro u' w hS
    refine Gp ?_
    have hS:SL W (.ob (a_ u' 5 1 (c++[jQ x.kind]).length ((c++[jQ x.kind]).map cR))::.pt b [.int .i64 x.kind,.int .i64 x.n,.string x.s] 174::X::F) w:=by
     simp only[List.length_append,List.length_cons,List.length_nil,List.map_append,List.map_cons,List.map_nil]
     exact aR hS
    refine za (λh1=>?_) (λh1=>?_)
    ·refine Gp ?_
     refine zL ?_
     have eu:IntKind.u64.wrap x.n=rE x.n:=rfl
     rw[eu]
     refine Cc (Zx (c++[jQ x.kind]) u' (rE x.n) 8 (by omega) (by simp;omega)) ?_;clear hS
     rintro v36 post rfl w hS;(try simp only[app]at hS);refine Gp ?_
     refine⟨⟨i+1,v36,by omega,rfl,xe,?_⟩,?_⟩
     ·have e:iu xs.length 2++((xs.take (i+1)).map iZ).flatten=c++[jQ x.kind]++iu (rE x.n) 8:=by
       rw[oX,<- List.append_assoc,hc]
       have:iZ x=jQ x.kind::iu (rE x.n) 8:=by unfold iZ;rw[if_pos h1]
       rw[this];simp
      rw[e]
      exact aR hS
     ·simp only[Int.toNat_natCast];omega
    ·have nU:x.s.size<=4096:=by
      unfold mV at hr
      rw[if_neg h1,if_pos (by omega),Bool.and_eq_true]at hr
      exact of_decide_eq_true hr.2
     have B6:iZ x=jQ x.kind::(iu x.s.size 2++x.s.data.toList):=by unfold iZ;rw[if_neg h1]
     refine Gn λw hS=>?_
     refine zL ?_
     rw[wrap_u64 (by omega) (by omega)]
     refine Gp ?_
     refine Cc (Zx (c++[jQ x.kind]) u' x.s.size 2 (by omega) (by simp;omega)) ?_;clear hS
     rintro v42 post rfl w hS;(try simp only[app]at hS);refine Gp ?_
     have Eb:x.s.data.toList.length=x.s.size:=rfl
     have pO:(iZ x).length=1+(2+x.s.size):=by rw[B6];simp only[List.length_cons,List.length_append,mf];omega
     refine zx (m:=x.s.size) (cs:=x.s.data.toList.map cR) hS Xr T' (by simp) rfl (nk _) (by simp only[List.length_append,List.length_cons,List.length_nil,mf];omega) (by simp only[List.length_append,List.length_cons,List.length_nil,mf];omega) ?_
     clear hS;intro v45 w hS
     refine Gp ?_
     refine⟨⟨i+1,v45,by omega,rfl,xe,?_⟩,?_⟩
     ·have e:iu xs.length 2++((xs.take (i+1)).map iZ).flatten=(c++[jQ x.kind]++iu x.s.size 2)++x.s.data.toList:=by
       rw[oX,<- List.append_assoc,hc,B6];simp
      rw[e]
      generalize c++[jQ x.kind]++iu x.s.size 2=A at *
      rw[List.length_append,List.map_append,Eb]
      exact aR hS
     ·simp only[Int.toNat_natCast];omega
  ·obtain rfl:i=xs.length:=by omega
   rw[List.take_length]at hS ha
   exact⟨_,.ok (by unfold oS;rw[if_neg (by omega),if_pos ha]) u1,hS⟩
abbrev oa:=Value × List UInt8
def ji(x:oa):zC:=a_ x.1 5 1 x.2.length (x.2.map cR)
def iS(es:List oa):List Value:=es.map Prod.fst
def nq(es:List oa):List (List UInt8):=es.map Prod.snd
def Jz(X:Chunk)(q:List UInt8)(r:Value)(post:List Chunk):Prop:=∃(u:Value) (es:List oa),nq es=(lA q).1/\r= .tuple #[u,.int .i64 ((lA q).2:Nat)]/\post=[.ob (a_ u 62 1 es.length (iS es)),.ob (zh ji es),X]
theorem bRc(X:Chunk)(v:Value)(q:List UInt8)(hq:ie X v q)(hN:q.length<=10000000000):SP 279 [v] [X] (Jz X q):=by
 intro W F w hS;apply b6w;delta LP aF ai bI;(try simp only[app]at hS)
 have hS:=a_.nil (t:=62) (sz:=1) (zh.nil (A:=ji) hS)
 refine⟨λvs w=>∃(u:Value) (es:List oa) (at_:Nat),vs=[u,.int .i64 at_]/\at_<=q.length/\es.length*8<=at_/\nq es++(lA (q.drop at_)).1=(lA q).1/\at_+(lA (q.drop at_)).2=(lA q).2 /\
   SL W (.ob (a_ u 62 1 es.length (iS es))::.ob (zh ji es)::X::F) w,λvs _=>match vs with
  | [_,.int _ i]=>q.length-i.toNat
  | _=>0,⟨_,[],0,rfl,Nat.zero_le _,Nat.le_refl _,rfl,by simp,hS⟩,?_⟩
 clear hS
 rintro u1 u2 w1 ⟨u,es,i,hv,hi,h8,h1,h2,hS⟩
 cases hv
 refine YS hS Xh hq hi ?_
 intro oK iB
 refine Cc (Yx X oK (q.drop i) iB (by rw[List.length_drop];omega)) ?_;clear hS
 intro wC post hQ w hS
 unfold so at hQ
 cases ht:kR (q.drop i) with
 | error e=>
  rw[ht]at hQ
  obtain⟨rfl,rfl⟩:=hQ
  (try simp only[app]at hS);refine Gp ?_
  have he:=E5 ht
  rw[CW ht]at h1 h2
  refine za (λ_=>?_) (λh=>by omega)
  refine⟨_,⟨u1,es,by simpa using h1,?_,rfl⟩,aR hS⟩
  rw[<- h2];rfl
 | ok x=>
  obtain⟨p,n⟩:=x
  rw[ht]at hQ
  obtain⟨y,rfl,rfl⟩:=hQ
  (try simp only[app]at hS);refine Gp ?_
  have hl:=xU ht
  rw[ER ht]at h1 h2
  rw[List.length_drop]at hl
  refine za (λh=>absurd rfl h) (λ_=>?_)
  have lW:=hS.nZ .hd
  obtain⟨ay,cy,ey,_⟩:=a_.at hS .hd
  subst ey
  refine zz (cells:=[.slice ay p.length cy]) hS rfl ?_
  clear hS;intro b w hS
  refine zx (m:=1) (cs:=[.slice ay p.length cy]) hS Xr (lP hS .hd rfl) rfl rfl (by intro v hv;simp only[List.mem_singleton]at hv;subst hv;rfl) (by omega) (by omega) ?_
  clear hS;intro u' w hS
  have hS:=zh.snoc (A:=ji) (xs:=es) (x:=(.slice ay p.length cy,p)) (SL.b4 hS (t:=.ob (zh ji es)::.ob (a_ (.slice ay p.length cy) 5 1 p.length (p.map cR))::.ob (a_ u' 62 1 (es.length+1) (iS es++[.slice ay p.length cy]))::X::F) Xi)
  refine ye (a:=i) (b:=n) (by omega) ?_
  refine⟨⟨u',es++[(.slice ay p.length cy,p)],i+n,rfl,by omega,by simp;omega,?_,?_,?_⟩,?_⟩
  ·rw[<- h1,<- List.drop_drop];simp[nq]
  ·rw[<- h2,<- List.drop_drop];simp only;omega
  ·rw[show (es++[((Value.slice ay p.length cy,p):oa)]).length=es.length+1 by simp,show iS (es++[((Value.slice ay p.length cy,p):oa)])=iS es++[.slice ay p.length cy] by simp[iS]]
   exact aR hS
  ·simp only[Int.toNat_natCast];omega
theorem OK{n:Nat}(h:n<=1099511627776):oS [⟨1,n,⟨#[]⟩⟩]= .ok (jN n):=by
 have e:rE (n:Int)=(n:Int):=by unfold rE;omega
 unfold oS
 rw[if_neg (by simp),if_pos (by simp[mV])]
 show Except.ok (iu ((1:Nat):Int) 2++(iZ ⟨1,n,⟨#[]⟩⟩++[]))=_
 unfold iZ
 rw[if_pos rfl,e]
 show Except.ok ([jQ ((1:Int).fdiv (2 ^ (8*1))),jQ ((1:Int).fdiv (2 ^ (8*0)))]++(jQ 1::iu n 8++[]))=_
 rw[List.append_nil]
 rfl
def x_(n:Int)(r:Value)(post:List Chunk):Prop:=if n<1\/1099511627776<n then r= .tuple #[.slice none 0 0,.int .i64 1]/\post=[] else ∃u,r= .tuple #[u,.int .i64 0]/\post=[.ob (a_ u 5 1 (gR (jN n.toNat)).length ((gR (jN n.toNat)).map cR))]
theorem YT(n:Int):SP 328 [.int .i64 n] [] (x_ n):=by
 intro W F w hS;apply b7x;delta Mq aF ai cI bI;(try simp only[app]at hS)
 unfold x_
 refine bW (λh=>?_) (λh=>?_)
 ·exact⟨[],by rw[if_pos (.inl h)];exact⟨rfl,rfl⟩,hS⟩
 ·refine bW (λh2=>?_) (λh2=>?_)
  ·exact⟨[],by rw[if_pos (.inr h2)];exact⟨rfl,rfl⟩,hS⟩
  ·obtain⟨k,rfl⟩:=Int.eq_ofNat_of_zero_le (show 0<=n by omega)
   have hx:=OK (n:=k) (by omega)
   refine yx (cells:=iD ⟨1,k,⟨#[]⟩⟩) rfl ?_
   refine zz (cells:=iD ⟨1,k,⟨#[]⟩⟩) hS rfl ?_
   clear hS;intro p w hS
   refine Cc (ZF (.pt p (iD ⟨1,k,⟨#[]⟩⟩) 174) _ [⟨1,k,⟨#[]⟩⟩] (pZ.pt rfl) (by simp)) ?_;clear hS
   intro v post hQ w hS
   unfold rI at hQ
   rw[hx]at hQ
   obtain⟨u,rfl,rfl⟩:=hQ
   (try simp only[app]at hS);refine Gp ?_
   refine za (λh=>absurd rfl h) (λ_=>?_)
   refine Cc (qg (.ob (a_ u 5 1 (jN k).length ((jN k).map cR))) u (jN k) ie.own (by rw[u7];omega)) ?_;clear hS
   intro v post hQ w hS
   unfold rL at hQ
   rw[if_neg (by rw[u7];omega)]at hQ
   obtain⟨y,rfl,rfl⟩:=hQ
   (try simp only[app]at hS);refine Gp ?_
   refine⟨[.ob (a_ y 5 1 (gR (jN k)).length ((gR (jN k)).map cR))],?_,aR hS⟩
   rw[if_neg (by omega)]
   exact⟨y,rfl,rfl⟩
abbrev Jy(rp:Nat)(lv:Value)(n f:Int)(es:List oa):List Chunk:=[.pt rp [lv,.int .i64 n,.int .i64 f] 371,.ob (a_ lv 62 1 es.length (iS es)),.ob (zh ji es)]
def B1(es:List oa):Option Int:=match es with
 | []=>none
 | e::_=>pr e.2
theorem Z5(rp:Nat)(lv:Value)(n f:Int)(es:List oa):SP 280 [.pointer (some ⟨rp,0,none⟩)] (Jy rp lv n f es) (dW (.bool (B1 es).isSome) (Jy rp lv n ((B1 es).getD f) es)):=by
 intro W F w hS;apply b6y;delta LR aF a7 fI dI b7 ai;(try simp only[app]at hS)
 refine Gp ?_
 refine zt hS (t:=62) (sz:=1) (n:=es.length) (cells:=iS es) Xh ?_
 refine bW (λh=>?_) (λh=>?_)
 ·have:es=[]:=List.eq_nil_of_length_eq_zero (by omega)
  subst this
  exact⟨_,⟨rfl,rfl⟩,hS⟩
 ·obtain⟨e,es,rfl⟩:∃e w6,es=e::w6:=by
   cases es with
   | nil=>simp at h
   | cons e w6=>exact⟨e,w6,rfl⟩
  refine Gp ?_
  refine z8 (j:=0) hS (t:=62) (n:=(e::es).length) (cells:=iS (e::es)) Xh (by simp) (u:=e.1) rfl ?_
  have hS:=zh.take (t:=0) (x:=e) (SL.b4 hS (t:=.ob (zh ji (e::es))::.pt rp [lv,.int .i64 n,.int .i64 f] 371::.ob (a_ lv 62 1 (e::es).length (iS (e::es)))::F) Xi) rfl
  have mu:∀{w:World} {k:Int},SL W (.ob (ji e)::.ob (zh ji ((e::es).eraseIdx 0))::.pt rp [lv,.int .i64 n,.int .i64 k] 371::.ob (a_ lv 62 1 (e::es).length (iS (e::es)))::F) w ->
    SL W (.pt rp [lv,.int .i64 n,.int .i64 k] 371::.ob (a_ lv 62 1 (e::es).length (iS (e::es)))::.ob (zh ji (e::es))::F) w:=λ{w k} h=>by
   have h2:SL W (.ob (zh ji (e::es))::.pt rp [lv,.int .i64 n,.int .i64 k] 371::.ob (a_ lv 62 1 (e::es).length (iS (e::es)))::F) w:=zh.put h (by simp)
   exact SL.b4 h2 Xi
  have hR:ie (.ob (ji e)) e.1 e.2:=ie.own
  refine Cc (yW (.ob (ji e)) e.1 e.2 hR) ?_;clear hS
  intro v post hQ w hS
  unfold rH at hQ
  have hh:B1 (e::es)=pr e.2:=rfl
  rw[hh]
  unfold pr
  cases hd:lu e.2 with
  | error k=>
   rw[hd]at hQ
   obtain⟨rfl,rfl⟩:=hQ
   (try simp only[app]at hS);refine Gp ?_
   have hk:k≠0:=by
    intro hk
    rw[BG]at hd
    split at hd
    ·cases hd
    ·rename_i h0
     cases hd;exact h0 hk
   refine za (λ_=>?_) (λh=>absurd hk h)
   exact⟨_,⟨rfl,rfl⟩,mu hS⟩
  | ok l=>
   rw[hd]at hQ
   obtain⟨y,rfl,rfl⟩:=hQ
   (try simp only[app]at hS);refine Gp ?_
   refine za (λh=>absurd rfl h) (λ_=>?_)
   refine zt hS (t:=174) (sz:=3) (n:=l.length) (cells:=(l.map iD).flatten) Xh ?_
   refine bW (λh1=>?_) (λh1=>?_)
   ·have:AB l=none:=by
     match l,h1 with
     | [],_=>rfl
     | [x],h1=>simp at h1
     | _::_::_,_=>rfl
    simp only[this]
    exact⟨_,⟨rfl,rfl⟩,mu (k:=f) (aR hS)⟩
   ·obtain⟨x,rfl⟩:∃x,l=[x]:=List.length_eq_one_iff.1 (by omega)
    have hx:AB [x]=if x.kind=1/\1<=x.n/\x.n<=1099511627776 then some x.n else none:=rfl
    simp only[hx]
    refine zy (j:=0) (i:=0) (x:=x) (xs:=[x]) hS (t:=174) (sz:=3) (n:=1) Xh pL rfl (by omega) (u:=.int .i64 x.kind) rfl ?_
    refine bW (λh2=>?_) (λh2=>?_)
    ·rw[if_neg (by omega)]
     exact⟨_,⟨rfl,rfl⟩,mu (k:=f) (aR hS)⟩
    ·refine zy (j:=0) (i:=1) (x:=x) (xs:=[x]) hS (t:=174) (sz:=3) (n:=1) Xh pL rfl (by omega) (u:=.int .i64 x.n) rfl ?_
     refine bW (λh3=>?_) (λh3=>?_)
     ·rw[if_neg (by omega)]
      exact⟨_,⟨rfl,rfl⟩,mu (k:=f) (aR hS)⟩
     ·refine zy (j:=0) (i:=1) (x:=x) (xs:=[x]) hS (t:=174) (sz:=3) (n:=1) Xh pL rfl (by omega) (u:=.int .i64 x.n) rfl ?_
      refine bW (λh4=>?_) (λh4=>?_)
      ·rw[if_neg (by omega)]
       exact⟨_,⟨rfl,rfl⟩,mu (k:=f) (aR hS)⟩
      ·rw[if_pos ⟨by omega,by omega,by omega⟩]
       refine zy (j:=0) (i:=1) (x:=x) (xs:=[x]) hS (t:=174) (sz:=3) (n:=1) Xh pL rfl (by omega) (u:=.int .i64 x.n) rfl ?_
       refine Gn λw hS=>?_
       exact⟨_,⟨rfl,rfl⟩,mu (k:=x.n) (aR hS)⟩
def uL(X:Chunk)(q:List UInt8)(r:Value)(post:List Chunk):Prop:=match jK q with
 | none=>r= .tuple #[.int .i64 0,.slice none 0 0,.int .i64 0,.int .i64 3]/\post=[X]
 | some (f,l,n)=>∃(u:Value) (es:List oa),nq es=l/\r= .tuple #[.int .i64 f,u,.int .i64 (n:Nat),.int .i64 0]/\post=[.ob (f_ u 62 1 es.length (iS es)),.ob (zh ji es),X]
def Iy(es:List oa)(n:Nat):Option (Int × List (List UInt8) × Nat):=match es with
 | []=>none
 | e::w6=>(pr e.2).map λk=>(k,nq w6,n)
theorem Tw{q:List UInt8}{es:List oa}(he:nq es=(lA q).1):jK q=Iy es (lA q).2:=by
 unfold jK
 rw[<- he]
 cases es with
 | nil=>rfl
 | cons e es=>rfl
theorem YU(X:Chunk)(v:Value)(q:List UInt8)(hq:ie X v q)(hN:q.length<=10000000000):SP 218 [v] [X] (uL X q):=by
 intro W F w hS;apply b5m;delta K5 bF aW dI c_ ai bI;(try simp only[app]at hS)
 refine Cc (bRc X v q hq hN) ?_;clear hS
 rintro r post ⟨u,es,he,rfl,rfl⟩ w hS;(try simp only[app]at hS)
 have lW:=hS.nZ .hd
 obtain⟨au,cu,eu,_⟩:=a_.at hS .hd
 subst eu
 refine Gp ?_
 refine⟨_,rfl,zJ hS ?_⟩
 clear hS;intro rp w hS
 have hS:SL W (.pt rp [.slice au es.length cu,.int .i64 ((lA q).2:Nat),.int .i64 0] 371::.ob (a_ (.slice au es.length cu) 62 1 es.length (iS es))::.ob (zh ji es)::X::F) w:=hS
 refine Cc (Z5 rp (.slice au es.length cu) ((lA q).2:Nat) 0 es) ?_;clear hS
 rintro v post ⟨rfl,rfl⟩ w hS;(try simp only[app]at hS)
 refine zP ?_
 have hr:=Tw he
 cases hd:B1 es with
 | none=>
  refine zw ?_
  refine⟨[X],?_,aR hS⟩
  unfold uL
  have:jK q=none:=by
   rw[hr]
   cases es with
   | nil=>rfl
   | cons e es=>have hd:pr e.2=none:=hd;show (pr e.2).map _=none;rw[hd];rfl
  rw[this];exact⟨rfl,rfl⟩
 | some k=>
  refine zq ?_
  cases es with
  | nil=>cases hd
  | cons e es=>
   have hd:pr e.2=some k:=hd
   have hr:jK q=some (k,nq es,(lA q).2):=by
    rw[hr];show (pr e.2).map _=_;rw[hd];rfl
   rw[show (B1 (e::es)).getD 0=k by show (pr e.2).getD 0=k;rw[hd];rfl]at hS
   refine Gn λw hS=>?_
   have hS:=zh.take (t:=0) (x:=e) (SL.b4 hS (t:=.ob (zh ji (e::es))::.pt rp [.slice au (e::es).length cu,.int .i64 ((lA q).2:Nat),.int .i64 k] 371::.ob (a_ (.slice au (e::es).length cu) 62 1 (e::es).length (iS (e::es)))::X::F) Xi) rfl
   have hS:=f_.of (SL.b4 hS (t:=.ob (a_ (.slice au (e::es).length cu) 62 1 (e::es).length (iS (e::es)))::.pt rp [.slice au (e::es).length cu,.int .i64 ((lA q).2:Nat),.int .i64 k] 371::.ob (zh ji ((e::es).eraseIdx 0))::X::F) Xi)
   refine Qp (k:=1) hS (by simp) ?_
   clear hS;intro y hS
   have e1:(e::es).length-1=es.length:=by simp
   have e2:(iS (e::es)).drop (1*1)=iS es:=rfl
   have e3:(e::es).eraseIdx 0=es:=rfl
   rw[e1,e2,e3]at hS
   refine Gp ?_
   refine⟨[.ob (f_ y 62 1 es.length (iS es)),.ob (zh ji es),X],?_,aR hS⟩
   unfold uL
   rw[hr]
   exact⟨y,es,rfl,rfl,rfl⟩
theorem Zg(X:Chunk)(s:Int)(v:Value)(b:List UInt8)(hb:ie X v b)(hN:b.length<=140737488355328):SP 187 [.int .u32 s,v] [X] (dW (.int .u32 (l_ s b)) [X]):=by
 intro W F w hS;apply b43;delta KL aF ai;(try simp only[app]at hS)
 refine ZN ?_
 refine⟨λvs w=>∃i:Nat,i<=b.length/\vs=[.int .u32 ((b.take i).foldl CZ (Ag s)),.int .i64 i]/\SL W (X::F) w,λvs _=>match vs with
  | [_,.int _ i]=>b.length-i.toNat
  | _=>0,⟨0,by omega,rfl,hS⟩,?_⟩
 clear hS
 rintro v1 v2 w1 ⟨i,hi,hv,hS⟩
 cases hv
 refine zI hS .hd hb ?_
 refine bW (λh=>?_) (λh=>?_)
 ·have hi:i<b.length:=by omega
  have hx:=b[i].toNat_lt
  refine yF hS .hd hb hi ?_
  refine zL ?_
  rw[wrap_u32 (by omega) (by omega)]
  refine ZP ?_
  refine⟨λvs w=>∃k:Nat,k<=8/\vs=[.int .u32 (vL k (xX ((b.take i).foldl CZ (Ag s)) (b[i].toNat:Int))),.int .i64 k]/\SL W (X::F) w,λvs _=>match vs with
   | [_,.int _ k]=>8-k.toNat
   | _=>0,⟨0,by omega,rfl,hS⟩,?_⟩
  clear hS
  rintro u1 u2 w2 ⟨k,hk,hu,hS⟩
  cases hu
  refine bW (λh1=>?_) (λh1=>?_)
  ·have PZ:∀c,vL (k+1) c=wS (vL k c):=λc=>rfl
   refine QC ?_
   refine IN ?_
   refine Zt (n:=1) (by omega) ?_
   refine za (λh2=>?_) (λh2=>?_)
   ·refine ZP ?_
    refine Gp ?_
    refine⟨⟨k+1,by omega,?_,hS⟩,?_⟩
    ·rw[PZ,wS,if_pos h2]
    ·simp only[Int.toNat_natCast];omega
   ·refine Gp ?_
    refine⟨⟨k+1,by omega,?_,hS⟩,?_⟩
    ·rw[PZ,wS,if_neg h2]
    ·simp only[Int.toNat_natCast];omega
  ·obtain rfl:k=8:=by omega
   refine Gp ?_
   refine⟨⟨i+1,by omega,?_,hS⟩,?_⟩
   ·rw[show b.take (i+1)=b.take i++[b[i]] by rw[List.take_add_one];simp[hi],List.foldl_append];rfl
   ·simp only[Int.toNat_natCast];omega
 ·obtain rfl:i=b.length:=by omega
  refine ZN ?_
  rw[List.take_length]
  exact⟨_,⟨rfl,rfl⟩,hS⟩
theorem Ys(X:Chunk)(v:Value)(b:List UInt8)(hb:ie X v b)(hN:b.length<=140737488355328):SP 188 [v] [X] (dW (.int .u32 (l_ 0 b)) [X]):=by
 intro W F w hS;apply b44;unfold KM;(try simp only[app]at hS)
 refine Cg (Zg X 0 v b hb hN) λw hS=>?_
 exact⟨_,⟨rfl,rfl⟩,hS⟩
theorem yJ(x:Int)(n:Nat)(hn:n<=8):SP 185 [.int .u64 x,.int .i64 n] [] (λu post=>post=[.ob (a_ u 5 1 (iu x n).length ((iu x n).map cR))]):=by
 intro W F w hS;apply b41;delta KJ aF ai bI;(try simp only[app]at hS)
 refine Gp ?_
 have hS:=a_.nil (t:=5) (sz:=1) hS
 have hS:SL W (.ob (a_ (.slice none 0 0) 5 1 ([]:List UInt8).length (([]:List UInt8).map cR))::F) w:=hS
 refine⟨λvs w=>∃(u:Value) (c:List UInt8) (k:Nat),vs=[u,.int .i64 ((k:Int)-1)]/\k<=n/\c++iu x k=iu x n/\SL W (.ob (a_ u 5 1 c.length (c.map cR))::F) w,λvs _=>match vs with
  | [_,.int _ i]=>(i+1).toNat
  | _=>0,⟨_,[],n,rfl,Nat.le_refl _,rfl,hS⟩,?_⟩
 clear hS
 rintro u1 u2 w1 ⟨u,c,k,hv,hk,hc,hS⟩
 cases hv
 refine bW (λh=>?_) (λh=>?_)
 ·obtain⟨j,rfl⟩:∃j,k=j+1:=⟨k-1,by omega⟩
  have e0:((j+1:Nat):Int)-1=(j:Int):=by omega
  rw[e0]
  refine TO (by omega) ?_
  have e1:(8:Int)*(j:Int)=((8*j:Nat):Int):=by omega
  rw[e1]
  refine zL ?_
  rw[wrap_u64 (by omega) (by omega)]
  refine TR (by omega) ?_
  refine zL ?_
  rw[wrap_u8]
  refine zz (cells:=[cR (jQ (x.fdiv (2 ^ (8*j))))]) hS rfl ?_
  clear hS;intro p w hS
  have kH:c.length+(j+1)=n:=by
   have:=congrArg List.length hc
   simpa [mf] using this
  refine zx (m:=1) (cs:=[cR (jQ (x.fdiv (2 ^ (8*j))))]) hS Xr (lP hS .hd rfl) rfl rfl (by intro v hv;simp only[List.mem_singleton]at hv;subst hv;rfl) (by omega) (by omega) ?_
  clear hS;intro u' w hS
  refine Gp ?_
  refine⟨⟨u',c++[jQ (x.fdiv (2 ^ (8*j)))],j,rfl,by omega,?_,?_⟩,?_⟩
  ·rw[<- hc];simp[iu]
  ·simp only[List.length_append,List.length_cons,List.length_nil,List.map_append,List.map_cons,List.map_nil]
   exact aR hS
  ·show ((j:Int)-1+1).toNat<((j:Int)+1).toNat
   omega
 ·obtain rfl:k=0:=by omega
  have e:c=iu x n:=by simpa [iu] using hc
  rw[e]at hS
  exact⟨_,rfl,hS⟩
theorem bI1{x:Nat}{K:Value->Prop}(h:K (.int .u64 (((x*256) % 18446744073709551616:Nat):Int))):zc .shl (.int .u64 (x:Int)) (.int .u64 8) K:=by
 refine⟨.int .u64 (((x*256) % 18446744073709551616:Nat):Int),?_,h⟩
 show (if (8:Int)<0 then none else some (Value.int .u64 (IntKind.u64.wrap ((x:Int)*2 ^ (min (8:Int).toNat IntKind.u64.bits)))))=_
 rw[if_neg (by omega)]
 congr 2
theorem bIw{x:Nat}{c:UInt8}{K:Value->Prop}(h:K (.int .u64 (((x*256+c.toNat) % 18446744073709551616:Nat):Int))):
  zG .u64 (cR c) λy=>zc .or (.int .u64 (((x*256) % 18446744073709551616:Nat):Int)) y K:=by
 have hc:=c.toNat_lt
 refine zL ?_
 rw[wrap_u64 (by omega) (by omega)]
 refine⟨_,Tf (by omega) (by omega),?_⟩
 have e:(x*256) % 18446744073709551616=((x*256) % 18446744073709551616 / 256) <<< 8:=by rw[Nat.shiftLeft_eq];omega
 have e2:(x*256) % 18446744073709551616 ||| c.toNat=(x*256+c.toNat) % 18446744073709551616:=by
  rw[e,<- Nat.shiftLeft_add_eq_or_of_lt (show c.toNat<2 ^ 8 by omega),Nat.shiftLeft_eq];omega
 rw[e2];exact h
theorem yi(X:Chunk)(v:Value)(b:List UInt8)(hb:ie X v b)(hN:b.length<=140737488355328):SP 300 [v] [X] (dW (.int .u64 (jM b:Nat)) [X]):=by
 intro W F w hS;apply b7g;delta Md aF ai;(try simp only[app]at hS)
 refine⟨λvs w=>∃i:Nat,i<=b.length/\vs=[.int .u64 (jM (b.take i):Nat),.int .i64 i]/\SL W (X::F) w,λvs _=>match vs with
  | [_,.int _ i]=>b.length-i.toNat
  | _=>0,⟨0,by omega,rfl,hS⟩,?_⟩
 clear hS
 rintro v1 v2 w1 ⟨i,hi,hv,hS⟩
 cases hv
 refine zI hS Xh hb ?_
 refine bW (λh=>?_) (λh=>?_)
 ·have hi:i<b.length:=by omega
  refine bI1 ?_
  refine yF hS Xh hb hi ?_
  refine bIw ?_
  refine Gp ?_
  refine⟨⟨i+1,by omega,?_,hS⟩,?_⟩
  ·rw[FI hi]
  ·simp only[Int.toNat_natCast];omega
 ·have:b.take i=b:=List.take_of_length_le (by omega)
  rw[this]
  exact⟨_,⟨rfl,rfl⟩,hS⟩
theorem ZA(X:Chunk)(v:Value)(q:List UInt8)(hq:ie X v q)(hN:q.length<=140737488355328):SP 95 [v] [X] (rL X q):=by
 intro W F w hS;apply b9o;delta Ns aF ai bI;(try simp only[app]at hS)
 refine zI hS .hd hq ?_
 refine bW (λh=>?_) (λh=>?_)
 ·exact⟨_,.NW (by omega),hS⟩
 ·have uy:q.length<=1048576:=by omega
  refine zI hS .hd hq ?_
  refine zL ?_
  rw[wrap_u64 (by omega) (by omega)]
  refine Cc (yJ q.length 4 (by omega)) ?_;clear hS
  rintro oK post rfl w hS;(try simp only[app]at hS)
  rw[S2]at hS
  have Ct:ie (.ob (a_ oK 5 1 (four q.length).length ((four q.length).map cR))) oK (four q.length):=ie.own
  refine Cc (Ys _ oK (four q.length) Ct (by rw[tj];omega)) ?_;clear hS
  rintro v post ⟨rfl,rfl⟩ w hS;(try simp only[app]at hS)
  refine Cc (Zg X (l_ 0 (four q.length)) v q hq hN) ?_;clear hS
  rintro v post ⟨rfl,rfl⟩ w hS;(try simp only[app]at hS)
  have hs:l_ (l_ 0 (four q.length)) q=sumOf q:=rfl
  have RK:=Ia (l_ 0 (four q.length)) q
  rw[hs]at RK ⊢
  refine zL ?_
  rw[wrap_u64 (by omega) (by omega)]
  refine Cc (yJ (sumOf q) 4 (by omega)) ?_;clear hS
  rintro v20 post rfl w hS;(try simp only[app]at hS)
  rw[S2]at hS
  refine zx (t:=5) (sz:=1) (x:=oK) (n:=(four q.length).length) (cells:=(four q.length).map cR) (m:=(four (sumOf q)).length) (cs:=(four (sumOf q)).map cR) hS Xr (pW hS Xh) (by simp) rfl (nk _) (by simp[tj]) (by simp[tj]) ?_
  clear hS;intro E9 w hS
  rw[<- List.map_append,<- List.length_append]at hS
  refine zx (t:=5) (sz:=1) (m:=q.length) (cs:=q.map cR) hS .hd (hq.src hS Xh) (by simp) rfl (nk _) (by simp only[List.length_append,tj];omega) (by simp only[List.length_append,tj];omega) ?_
  clear hS;intro v24 w hS
  rw[<- List.map_append,<- List.length_append]at hS
  have e:four (q.length:Nat)++four (sumOf q)++q=gR q:=rfl
  rw[e]at hS
  exact⟨_,.ok uy v24,aR hS⟩
theorem Z1(X:Chunk)(v:Value)(q:List UInt8)(hq:ie X v q)(hN:q.length<=140737488355328):SP 243 [v] [X] (so X q):=by
 intro W F w hS;apply b6a;delta Ls aF ai bI;(try simp only[app]at hS)
 refine zI hS .hd hq ?_
 refine bW (λh=>?_) (λh=>?_)
 ·exact⟨_,.er (Ul (by omega)),hS⟩
 ·have h8:8<=q.length:=by omega
  refine ZO (hi:=4) hS .hd hq (by omega) ?_
  intro v11 xa
  refine Cc (yi X v11 (q.take 4) xa (by rw[List.length_take];omega)) ?_;clear hS
  rintro v post ⟨rfl,rfl⟩ w hS;(try simp only[app]at hS)
  rw[NX (by omega)]
  have ix:=S1 q
  refine yn (by omega) ?_
  have hsm:=λ(p:List UInt8) hp=>bRz (q:=q) (p:=p) h8 hp
  have te2:=Um (q:=q) h8
  have te3:=Un (q:=q) h8
  have te4:=Uo (q:=q) h8
  have tok:=Up (q:=q) h8
  generalize kW q=k at *
  refine bW (λh2=>?_) (λh2=>?_)
  ·exact⟨_,.er (te2 (by omega)),hS⟩
  ·refine zI hS .hd hq ?_
   refine bW (λh3=>?_) (λh3=>?_)
   ·exact⟨_,.er (te3 (by omega) (by omega)),hS⟩
   ·refine ye (a:=8) (b:=k) (by omega) ?_
    refine Z4 (lo:=8) (hi:=8+k) hS .hd hq (by omega) (by omega) ?_
    intro v44 vS
    rw[show 8+k-8=k by omega]at vS
    have Ck:((q.drop 8).take k).length=k:=by rw[List.length_take,List.length_drop];omega
    generalize hp:(q.drop 8).take k=p at *
    refine Gn λw hS=>?_
    refine ZO (hi:=4) hS .hd hq (by omega) ?_
    intro v26 XI
    refine Z4 (lo:=4) (hi:=8) hS Xh hq (by omega) (by omega) ?_
    intro v32 Ps
    rw[show 8-4=4 from rfl]at Ps
    refine Cc (Ys X v26 (q.take 4) XI (by rw[List.length_take];omega)) ?_;clear hS
    rintro v post ⟨rfl,rfl⟩ w hS;(try simp only[app]at hS)
    refine Cc (Zg X (l_ 0 (q.take 4)) v44 p vS (by omega)) ?_;clear hS
    rintro v post ⟨rfl,rfl⟩ w hS;(try simp only[app]at hS)
    have RK:=Ia (l_ 0 (q.take 4)) p
    refine zL ?_
    rw[wrap_u64 (by omega) (by omega)]
    refine Cc (yi X v32 ((q.drop 4).take 4) Ps (by rw[List.length_take];omega)) ?_;clear hS
    rintro v post ⟨rfl,rfl⟩ w hS;(try simp only[app]at hS);refine Gp ?_
    rw[show decide (l_ (l_ 0 (q.take 4)) p≠((jM ((q.drop 4).take 4):Nat):Int))=decide (four (sumOf p)≠(q.drop 4).take 4) from hsm p Ck]
    refine za (λh4=>?_) (λh4=>?_)
    ·exact⟨_,.er (te4 (by omega) (by omega) h4),aR hS⟩
    ·refine Gm λb w hS=>?_
     have hS:=a_.full (n:=0) (sz:=1) rfl hS
     refine zx (t:=5) (sz:=1) (n:=0) (m:=k) (cs:=p.map cR) hS .hd (by have:=vS.src hS Xh;rw[Ck]at this;exact this) (by simp[Ck]) rfl (nk _) (by omega) (by omega) ?_
     clear hS;intro v37 w hS
     rw[Nat.zero_add,List.nil_append]at hS
     refine ye (a:=8) (b:=k) (by omega) ?_
     have ht:=tok (by omega) (by omega) (Classical.not_not.1 h4)
     rw[<- Ck]at hS
     exact⟨_,.ok ht v37,aR hS⟩
theorem Qi(X:Chunk)(v:Value)(q:List UInt8)(hq:ie X v q)(hN:q.length<=10000000000):SP 241 [v] [X] (Jz X q):=by
 intro W F w hS;apply b58;delta Lq aF ai bI;(try simp only[app]at hS)
 have hS:=a_.nil (t:=62) (sz:=1) (zh.nil (A:=ji) hS)
 refine⟨λvs w=>∃(u:Value) (es:List oa) (at_:Nat),vs=[u,.int .i64 at_]/\at_<=q.length/\es.length*8<=at_/\nq es++(lA (q.drop at_)).1=(lA q).1/\at_+(lA (q.drop at_)).2=(lA q).2 /\
   SL W (.ob (a_ u 62 1 es.length (iS es))::.ob (zh ji es)::X::F) w,λvs _=>match vs with
  | [_,.int _ i]=>q.length-i.toNat
  | _=>0,⟨_,[],0,rfl,Nat.zero_le _,Nat.le_refl _,rfl,by simp,hS⟩,?_⟩
 clear hS
 rintro u1 u2 w1 ⟨u,es,i,hv,hi,h8,h1,h2,hS⟩
 cases hv
 refine zI hS Xh hq ?_
 refine bW (λh0=>?_) (λh0=>?_)
 ·refine YS hS Xh hq hi ?_
  intro oK iB
  refine Cc (Z1 X oK (q.drop i) iB (by rw[List.length_drop];omega)) ?_;clear hS
  intro wC post hQ w hS
  unfold so at hQ
  cases ht:kR (q.drop i) with
  | error e=>
   rw[ht]at hQ
   obtain⟨rfl,rfl⟩:=hQ
   (try simp only[app]at hS);refine Gp ?_
   have he:=E5 ht
   rw[CW ht]at h1 h2
   refine za (λ_=>?_) (λh=>by omega)
   refine⟨_,⟨u1,es,by simpa using h1,?_,rfl⟩,aR hS⟩
   rw[<- h2];rfl
  | ok x=>
   obtain⟨p,n⟩:=x
   rw[ht]at hQ
   obtain⟨y,rfl,rfl⟩:=hQ
   (try simp only[app]at hS);refine Gp ?_
   have hl:=xU ht
   rw[ER ht]at h1 h2
   rw[List.length_drop]at hl
   refine za (λh=>absurd rfl h) (λ_=>?_)
   have lW:=hS.nZ .hd
   obtain⟨ay,cy,ey,_⟩:=a_.at hS .hd
   subst ey
   refine zz (cells:=[.slice ay p.length cy]) hS rfl ?_
   clear hS;intro b w hS
   refine zx (m:=1) (cs:=[.slice ay p.length cy]) hS Xr (lP hS .hd rfl) rfl rfl (by intro v hv;simp only[List.mem_singleton]at hv;subst hv;rfl) (by omega) (by omega) ?_
   clear hS;intro u' w hS
   have hS:=zh.snoc (A:=ji) (xs:=es) (x:=(.slice ay p.length cy,p)) (SL.b4 hS (t:=.ob (zh ji es)::.ob (a_ (.slice ay p.length cy) 5 1 p.length (p.map cR))::.ob (a_ u' 62 1 (es.length+1) (iS es++[.slice ay p.length cy]))::X::F) Xi)
   refine ye (a:=i) (b:=n) (by omega) ?_
   refine⟨⟨u',es++[(.slice ay p.length cy,p)],i+n,rfl,by omega,by simp;omega,?_,?_,?_⟩,?_⟩
   ·rw[<- h1,<- List.drop_drop];simp[nq]
   ·rw[<- h2,<- List.drop_drop];simp only;omega
   ·rw[show (es++[((Value.slice ay p.length cy,p):oa)]).length=es.length+1 by simp,show iS (es++[((Value.slice ay p.length cy,p):oa)])=iS es++[.slice ay p.length cy] by simp[iS]]
    exact aR hS
   ·simp only[Int.toNat_natCast];omega
 ·have hd:q.drop i=[]:=List.drop_eq_nil_of_le (by omega)
  rw[hd,CW Uj]at h1 h2
  refine⟨_,⟨u1,es,by simpa using h1,?_,rfl⟩,aR hS⟩
  rw[<- h2];rfl
section
variable {W w:World} {l:List Chunk} {X:Chunk} {v:Value} {sz n:Nat}
theorem yK{α:Type}{enc:α->List Value}{xs:List α}{j i:Nat}{u:Value}{kk:IntKind}{K:Value->Prop}(hS:SL W l w)(m:Has X l)(hb:pZ X sz v n (xs.map enc).flatten)(he:∀x,(enc x).length=sz)(nU:0<sz)(hx:xs.length=n)(hj:j<n)
  (hu:(enc (xs[j]'(by omega)))[i]?=some u) (hK:K u):ze sz v (.int kk (j:Int)) λp=>zr i p λq=>b6 q w K:=by
 obtain⟨a,c,rfl,hc⟩:=hb.sl hS m
 have hs:=hb.src hS m
 have hlen:(xs.map enc).flatten.length=n*sz:=by rw[<- hx];exact mH he xs
 have hg:=w7 he (by omega) hu
 cases a with
 | none=>
  have e:(xs.map enc).flatten=[]:=hs.2
  rw[e]at hg;simp at hg
 | some p=>
  refine⟨p,_,c,kk,j,rfl,rfl,hj,?_⟩
  refine⟨_,rfl,?_⟩
  refine⟨_,u,rfl,?_,hK⟩
  rw[Fx]
  exact hs.2.2 (j*sz+i) u hg
end
theorem zM(n:Int):SP 92 [.int .i64 n] [] (dW (.agg (iD ⟨1,n,⟨#[]⟩⟩).toArray) []):=by
 intro W F w hS;apply b9l;delta Np ai cI;(try simp only[app]at hS)
 refine Gm λb w hS=>?_
 exact eF hS
theorem Za(s:ByteArray):SP 93 [.string s] [] (dW (.agg (iD ⟨2,0,s⟩).toArray) []):=by
 intro W F w hS;apply b9m;delta Nq ai cI;(try simp only[app]at hS)
 refine Gm λb w hS=>?_
 exact eF hS
theorem YM(x:gW):SP 186 [.agg (iD x).toArray] [] (dW (.bool (mV x)) []):=by
 intro W F w hS;apply b42;delta KK aF a7 b7 ai;(try simp only[app]at hS)
 refine⟨iD x,rfl,?_⟩
 unfold iD
 refine Gm λb w hS=>?_
 unfold mV
 refine za (λh=>?_) (λh=>?_)
 ·rw[if_pos h]
  refine bW (λh1=>?_) (λh1=>?_)
  ·rw[decide_eq_true h1]
   exact eF hS
  ·refine Gp ?_
   refine za (λh2=>by omega) (λh2=>?_)
   rw[decide_eq_false h1]
   exact eF hS
 ·rw[if_neg h]
  refine bW (λh2=>?_) (λh2=>?_)
  ·rw[if_pos h2]
   refine bW (λh3=>?_) (λh3=>?_)
   ·refine Gp ?_
    rw[decide_eq_true h3,Bool.true_and]
    have e:decide ((x.s.size:Int)<=4096)=decide (x.s.size<=4096):=by congr 1;exact propext ⟨λ_=>by omega,λ_=>by omega⟩
    rw[e]
    exact eF hS
   ·rw[decide_eq_false h3,Bool.false_and]
    exact eF hS
  ·rw[if_neg h2]
   exact eF hS
theorem yQ(X:Chunk)(v:Value)(xs:List gW)(hx:pZ X 3 v xs.length (xs.map iD).flatten)(hN:xs.length<=140737488355328):SP 94 [v] [X] (rI X xs):=by
 intro W F w hS;apply b9n;delta Nr aF a7 c_ ai bI;(try simp only[app]at hS)
 refine ZC hS .hd hx ?_
 refine bW (λh=>?_) (λh=>?_)
 ·exact⟨_,.er (by unfold oS;rw[if_pos (by omega)]),hS⟩
 ·refine ZC hS .hd hx ?_
  refine zL ?_
  rw[wrap_u64 (by omega) (by omega)]
  refine Cc (yJ xs.length 2 (by omega)) ?_;clear hS
  rintro wC post rfl w hS;(try simp only[app]at hS)
  have hb:∀i,i<=xs.length->(xs.take i).all mV=true->(iu xs.length 2++((xs.take i).map iZ).flatten).length<=200000000:=λi hi ha=>by
   have:=F7 ha
   rw[List.length_append,mf]
   rw[List.length_take]at this
   omega
  refine⟨λvs w=>∃(i:Nat) (u:Value),i<=xs.length/\vs=[u,.int .i64 i]/\(xs.take i).all mV=true/\SL W (.ob (a_ u 5 1 (iu xs.length 2++((xs.take i).map iZ).flatten).length ((iu xs.length 2++((xs.take i).map iZ).flatten).map cR))::X::F) w,λvs _=>match vs with
   | [_,.int _ i]=>xs.length-i.toNat
   | _=>0,⟨0,wC,by omega,rfl,rfl,(by simpa using hS)⟩,?_⟩
  clear hS
  rintro u1 u2 w1 ⟨i,u,hi,hv,ha,hS⟩
  cases hv
  have X5:=hb i hi ha
  refine ZC hS Xh hx ?_
  refine bW (λh=>?_) (λh=>?_)
  ·have hi:i<xs.length:=by omega
   refine qv hS Xh hx pL (by omega) rfl hi ?_
   have tH:xs[i]∈xs:=List.getElem_mem hi
   have xF:xs.take (i+1)=xs.take i++[xs[i]]:=by rw[List.take_add_one];simp[hi]
   refine Cc (YM xs[i]) ?_;clear hS
   rintro v post ⟨rfl,rfl⟩ w hS;(try simp only[app]at hS)
   refine zP ?_
   cases hr:mV xs[i] with
   | false=>
    refine zw ?_
    refine⟨[X],.er ?_,aR hS⟩
    unfold oS
    rw[if_neg (by omega),if_neg]
    intro h
    have:=List.all_eq_true.1 h xs[i] tH
    rw[hr]at this;cases this
   | true=>
    refine zq ?_
    have xe:(xs.take (i+1)).all mV=true:=by rw[xF,List.all_append,ha];simp[hr]
    have po:=hb (i+1) (by omega) xe
    have oX:((xs.take (i+1)).map iZ).flatten=((xs.take i).map iZ).flatten++iZ xs[i]:=by rw[xF,List.map_append,List.flatten_append];simp only[List.map_cons,List.map_nil,List.flatten_cons,List.flatten_nil,List.append_nil]
    rw[oX]at po
    rw[List.length_append,List.length_append]at po
    have hk:xs[i].kind=1\/xs[i].kind=2:=by
     unfold mV at hr
     by_cases h1:xs[i].kind=1
     ·exact .inl h1
     ·rw[if_neg h1]at hr
      by_cases h2:xs[i].kind=2
      ·exact .inr h2
      ·rw[if_neg h2]at hr;cases hr
    generalize hc:iu xs.length 2++((xs.take i).map iZ).flatten=c at *
    have kH:c.length+(iZ xs[i]).length<=200000000:=by rw[<- hc,List.length_append];omega
    refine yK (i:=0) hS Xh hx pL (by omega) rfl hi (u:=.int .i64 xs[i].kind) rfl ?_
    refine zL ?_
    rw[wrap_u8]
    refine zz (cells:=[cR (jQ xs[i].kind)]) hS rfl ?_
    clear hS;intro p w hS
    refine zx (m:=1) (cs:=[cR (jQ xs[i].kind)]) hS Xr (lP hS .hd rfl) rfl rfl (by intro v hv;simp only[List.mem_singleton]at hv;subst hv;rfl) (by omega) (by omega) ?_
    clear hS;intro u' w hS
    have hS:SL W (.ob (a_ u' 5 1 (c++[jQ xs[i].kind]).length ((c++[jQ xs[i].kind]).map cR))::X::F) w:=by
     simp only[List.length_append,List.length_cons,List.length_nil,List.map_append,List.map_cons,List.map_nil]
     exact aR hS
    refine yK (i:=0) hS Xh hx pL (by omega) rfl hi (u:=.int .i64 xs[i].kind) rfl ?_
    refine bW (λh1=>?_) (λh1=>?_)
    ·refine yK (i:=1) hS Xh hx pL (by omega) rfl hi (u:=.int .i64 xs[i].n) rfl ?_
     refine zL ?_
     have eu:IntKind.u64.wrap xs[i].n=rE xs[i].n:=rfl
     rw[eu]
     refine Cc (yJ (rE xs[i].n) 8 (by omega)) ?_;clear hS
     rintro v47 post rfl w hS;(try simp only[app]at hS)
     refine zx (t:=5) (sz:=1) (x:=u') (n:=(c++[jQ xs[i].kind]).length) (cells:=(c++[jQ xs[i].kind]).map cR) (m:=(iu (rE xs[i].n) 8).length) (cs:=(iu (rE xs[i].n) 8).map cR) hS Xr (pW hS Xh) (by simp) rfl (nk _) (by rw[mf,List.length_append,List.length_singleton];omega) (by rw[mf,List.length_append,List.length_singleton];omega) ?_
     clear hS;intro I9 w hS
     rw[<- List.map_append,<- List.length_append]at hS
     refine Gp ?_
     refine⟨⟨i+1,I9,by omega,rfl,xe,?_⟩,?_⟩
     ·have e:iu xs.length 2++((xs.take (i+1)).map iZ).flatten=c++[jQ xs[i].kind]++iu (rE xs[i].n) 8:=by
       rw[oX,<- List.append_assoc,hc]
       have:iZ xs[i]=jQ xs[i].kind::iu (rE xs[i].n) 8:=by unfold iZ;rw[if_pos h1]
       rw[this];simp
      rw[e]
      exact aR hS
     ·simp only[Int.toNat_natCast];omega
    ·have nU:xs[i].s.size<=4096:=by
      unfold mV at hr
      rw[if_neg h1,if_pos (by omega),Bool.and_eq_true]at hr
      exact of_decide_eq_true hr.2
     have B6:iZ xs[i]=jQ xs[i].kind::(iu xs[i].s.size 2++xs[i].s.data.toList):=by unfold iZ;rw[if_neg h1]
     refine yK (i:=2) hS Xh hx pL (by omega) rfl hi (u:=.string xs[i].s) rfl ?_
     refine Gp ?_
     refine zL ?_
     rw[wrap_u64 (by omega) (by omega)]
     refine Cc (yJ xs[i].s.size 2 (by omega)) ?_;clear hS
     rintro v57 post rfl w hS;(try simp only[app]at hS)
     refine zx (t:=5) (sz:=1) (x:=u') (n:=(c++[jQ xs[i].kind]).length) (cells:=(c++[jQ xs[i].kind]).map cR) (m:=(iu xs[i].s.size 2).length) (cs:=(iu xs[i].s.size 2).map cR) hS Xr (pW hS Xh) (by simp) rfl (nk _) (by rw[mf,List.length_append,List.length_singleton];omega) (by rw[mf,List.length_append,List.length_singleton];omega) ?_
     clear hS;intro Uy w hS
     rw[<- List.map_append,<- List.length_append]at hS
     refine yK (i:=2) hS Xh hx pL (by omega) rfl hi (u:=.string xs[i].s) rfl ?_
     have Eb:xs[i].s.data.toList.length=xs[i].s.size:=rfl
     have pO:(iZ xs[i]).length=1+(2+xs[i].s.size):=by rw[B6];simp only[List.length_cons,List.length_append,mf];omega
     refine zx (m:=xs[i].s.size) (cs:=xs[i].s.data.toList.map cR) hS Xr T' (by simp) rfl (nk _) (by simp only[List.length_append,List.length_cons,List.length_nil,mf];omega) (by simp only[List.length_append,List.length_cons,List.length_nil,mf];omega) ?_
     clear hS;intro I' w hS
     refine Gp ?_
     refine⟨⟨i+1,I',by omega,rfl,xe,?_⟩,?_⟩
     ·have e:iu xs.length 2++((xs.take (i+1)).map iZ).flatten=(c++[jQ xs[i].kind]++iu xs[i].s.size 2)++xs[i].s.data.toList:=by
       rw[oX,<- List.append_assoc,hc,B6];simp
      rw[e]
      generalize c++[jQ xs[i].kind]++iu xs[i].s.size 2=A at *
      rw[List.length_append,List.map_append,Eb]
      exact aR hS
     ·simp only[Int.toNat_natCast];omega
  ·obtain rfl:i=xs.length:=by omega
   rw[List.take_length]at hS ha
   exact⟨_,.ok (by unfold oS;rw[if_neg (by omega),if_pos ha]) u1,aR hS⟩
theorem q6(n:Int):SP 303 [.int .i64 n] [] (x_ n):=by
 intro W F w hS;apply b7j;delta Mg aF ai cI bI;(try simp only[app]at hS)
 refine Gp ?_
 unfold x_
 refine za (λh=>?_) (λh=>?_)
 ·refine⟨[],?_,hS⟩
  rw[if_pos (.inl (by omega))]
  exact⟨rfl,rfl⟩
 ·refine bW (λh2=>?_) (λh2=>?_)
  ·refine⟨[],?_,hS⟩
   rw[if_pos (.inr (by omega))]
   exact⟨rfl,rfl⟩
  ·simp only[if_neg (c:=n<1\/1099511627776<n) (by omega)]
   obtain⟨k,rfl⟩:∃k:Nat,n=(k:Int):=⟨n.toNat,by omega⟩
   refine Cc (zM (k:Int)) ?_;clear hS
   rintro v post ⟨rfl,rfl⟩ w hS;(try simp only[app]at hS)
   refine zz (cells:=iD ⟨1,(k:Int),⟨#[]⟩⟩) hS rfl ?_
   clear hS;intro b w hS
   refine Cc (yQ (.pt b (iD ⟨1,(k:Int),⟨#[]⟩⟩) 174) (.slice (some ⟨b,0,none⟩) 1 1) [⟨1,(k:Int),⟨#[]⟩⟩] (pZ.pt rfl) (by simp)) ?_;clear hS
   intro r post hQ w hS
   unfold rI at hQ
   rw[OK (by omega)]at hQ
   obtain⟨u,rfl,rfl⟩:=hQ
   (try simp only[app]at hS);refine Gp ?_
   have Ct:ie (.ob (a_ u 5 1 (jN k).length ((jN k).map cR))) u (jN k):=ie.own
   refine Cc (ZA _ u (jN k) Ct (by rw[u7];omega)) ?_;clear hS
   intro r post hQ w hS
   unfold rL at hQ
   rw[if_neg (by rw[u7];omega)]at hQ
   obtain⟨y,rfl,rfl⟩:=hQ
   (try simp only[app]at hS);refine Gp ?_
   rw[Int.toNat_natCast]
   exact⟨_,⟨y,rfl,rfl⟩,aR hS⟩
theorem yP(X:Chunk)(v:Value)(q:List UInt8)(hq:ie X v q)(hN:q.length<=140737488355328):SP 242 [v] [X] (rH X q):=by
 intro W F w hS;apply b59;delta Lr aF ai cI bI;(try simp only[app]at hS)
 have hE:∀{e:Int} {w:World},lu q= .error e->SL W (X::F) w->∃post,rH X q (.tuple #[.slice none 0 0,.int .i64 e]) post/\SL W (app post F) w:=λh hS=>⟨[X],by unfold rH;rw[h];exact⟨rfl,rfl⟩,hS⟩
 refine zI hS .hd hq ?_
 refine Gp ?_
 refine za (λh=>hE (Wp (by omega)) hS) (λh=>?_)
 have h2:2<=q.length:=by omega
 refine ZO (hi:=2) hS .hd hq h2 ?_
 intro E7 Xz
 refine Cc (yi X E7 (q.take 2) Xz (by rw[List.length_take];omega)) ?_;clear hS
 rintro v post ⟨rfl,rfl⟩ w hS;(try simp only[app]at hS)
 have ix:jM (q.take 2)<65536:=by
  have:=BC 2 (q.take 2) (by rw[List.length_take];omega)
  exact this
 refine yn (by omega) ?_
 refine Gp ?_
 refine za (λh3=>hE (Wn h2 (by omega)) hS) (λh3=>?_)
 have ly:=Oi h2 (by omega)
 generalize hm:jM (q.take 2)=m at *
 have hS:=a_.nil (t:=174) (sz:=3) hS
 refine⟨λvs w=>∃(i at_:Nat) (u:Value) (l:List gW),vs=[.int .i64 at_,u,.int .i64 i]/\i<=m/\l.length=i/\at_<=q.length/\lu q=oR l (m-i) ⟨q.drop at_,0⟩/\SL W (.ob (a_ u 174 3 l.length (l.map iD).flatten)::X::F) w,
  λvs _=>match vs with|[_,_,.int _ i]=>(m-i).toNat|_=>0,⟨0,2,_,[],rfl,by omega,rfl,h2,ly,hS⟩,?_⟩
 clear hS ly
 rintro v5 v6 v7 w ⟨i,at_,u,l,jy,sF,D2,kG,ly,hS⟩
 cases jy
 refine bW (λh4=>?_) (λh4=>?_)
 ·have sF:i<m:=by omega
  obtain⟨r,hr⟩:∃r,m-i=r+1:=⟨m-i-1,by omega⟩
  have D8:m-(i+1)=r:=by omega
  rw[hr]at ly
  refine zI hS Xh hq ?_
  refine bW (λh5=>?_) (λh5=>?_)
  ·have:q.drop at_=[]:=List.drop_eq_nil_of_le (by omega)
   rw[this,Ws]at ly
   exact hE ly (aR hS)
  ·have BZ:at_<q.length:=by omega
   rw[List.drop_eq_getElem_cons BZ]at ly
   have hx:=q[at_].toNat_lt
   refine yF hS Xh hq BZ ?_
   refine yn (by omega) ?_
   refine bW (λh6=>?_) (λh6=>?_)
   ·rw[Om (by omega)]at ly
    rw[List.length_drop]at ly
    refine zI hS Xh hq ?_
    refine bW (λh7=>?_) (λh7=>?_)
    ·rw[if_pos (by omega)]at ly
     exact hE ly (aR hS)
    ·rw[if_neg (by omega)]at ly
     refine ye (a:=at_+1) (b:=8) (by omega) ?_
     refine Z4 (lo:=at_+1) (hi:=at_+1+8) hS Xh hq (by omega) (by omega) ?_
     intro I9 Pu
     rw[show at_+1+8-(at_+1)=8 by omega]at Pu
     refine Cc (yi X I9 ((q.drop (at_+1)).take 8) Pu (by rw[List.length_take];omega)) ?_;clear hS
     rintro v post ⟨rfl,rfl⟩ w hS;(try simp only[app]at hS)
     have X4:jM ((q.drop (at_+1)).take 8)<18446744073709551616:=BC 8 _ (by rw[List.length_take,List.length_drop];omega)
     refine zL ?_
     rw[TZ X4]
     refine Cc (zM (sig (jM ((q.drop (at_+1)).take 8)))) ?_;clear hS
     rintro v post ⟨rfl,rfl⟩ w hS;(try simp only[app]at hS)
     refine zz (cells:=iD ⟨1,sig (jM ((q.drop (at_+1)).take 8)),⟨#[]⟩⟩) hS rfl ?_
     clear hS;intro p w hS
     refine zx (m:=1) (cs:=iD ⟨1,sig (jM ((q.drop (at_+1)).take 8)),⟨#[]⟩⟩) hS Xr (lP hS .hd rfl) rfl rfl (Dx _) (by omega) (by omega) ?_
     clear hS;intro u' w hS
     refine ye (a:=at_+1) (b:=8) (by omega) ?_
     refine Gp ?_
     refine⟨⟨i+1,at_+1+8,u',l++[⟨1,sig (jM ((q.drop (at_+1)).take 8)),⟨#[]⟩⟩],rfl,by omega,by simp;omega,by omega,?_,?_⟩,by dsimp only;omega⟩
     ·rw[ly,D8,List.drop_drop]
     ·rw[show (l++[(⟨1,sig (jM ((q.drop (at_+1)).take 8)),⟨#[]⟩⟩:gW)]).length=l.length+1 by simp,show ((l++[(⟨1,sig (jM ((q.drop (at_+1)).take 8)),⟨#[]⟩⟩:gW)]).map iD).flatten=(l.map iD).flatten++iD ⟨1,sig (jM ((q.drop (at_+1)).take 8)),⟨#[]⟩⟩ by simp]
      exact aR hS
   ·refine bW (λh7=>?_) (λh7=>?_)
    ·rw[On (by omega)]at ly
     rw[List.length_drop]at ly
     refine zI hS Xh hq ?_
     refine bW (λh8=>?_) (λh8=>?_)
     ·rw[if_pos (by omega)]at ly
      exact hE ly (aR hS)
     ·rw[if_neg (by omega)]at ly
      refine ye (a:=at_+1) (b:=2) (by omega) ?_
      refine Z4 (lo:=at_+1) (hi:=at_+1+2) hS Xh hq (by omega) (by omega) ?_
      intro I_ rU
      rw[show at_+1+2-(at_+1)=2 by omega]at rU
      refine Cc (yi X I_ ((q.drop (at_+1)).take 2) rU (by rw[List.length_take];omega)) ?_;clear hS
      rintro v post ⟨rfl,rfl⟩ w hS;(try simp only[app]at hS)
      have po:jM ((q.drop (at_+1)).take 2)<65536:=BC 2 _ (by rw[List.length_take,List.length_drop];omega)
      generalize jM ((q.drop (at_+1)).take 2)=z at *
      refine yn (by omega) ?_
      refine ye (a:=at_+1) (b:=2) (by omega) ?_
      refine bW (λh9=>?_) (λh9=>?_)
      ·rw[if_pos (by omega)]at ly
       exact hE ly (aR hS)
      ·rw[if_neg (by omega)]at ly
       refine zI hS Xh hq ?_
       refine bW (λvR=>?_) (λvR=>?_)
       ·rw[if_pos (by omega)]at ly
        exact hE ly (aR hS)
       ·rw[if_neg (by omega)]at ly
        refine ye (a:=at_+1+2) (b:=z) (by omega) ?_
        refine Z4 (lo:=at_+1+2) (hi:=at_+1+2+z) hS Xh hq (by omega) (by omega) ?_
        intro v86 GF
        rw[show at_+1+2+z-(at_+1+2)=z by omega]at GF
        obtain⟨a86,c86,rfl,_⟩:=GF.sl hS Xh
        refine Zh (bs:=(q.drop (at_+1+2)).take z) ⟨_,_,_,rfl⟩ (GF.src hS Xh) Tryz.underlying62 Tryz.underlying9 Tryz.underlying5 ?_
        refine Cc (Za (iQ ((q.drop (at_+1+2)).take z))) ?_;clear hS
        rintro v post ⟨rfl,rfl⟩ w hS;(try simp only[app]at hS)
        refine zz (cells:=iD ⟨2,0,iQ ((q.drop (at_+1+2)).take z)⟩) hS rfl ?_
        clear hS;intro p w hS
        refine zx (m:=1) (cs:=iD ⟨2,0,iQ ((q.drop (at_+1+2)).take z)⟩) hS Xr (lP hS .hd rfl) rfl rfl (Dx _) (by omega) (by omega) ?_
        clear hS;intro u' w hS
        refine ye (a:=at_+1+2) (b:=z) (by omega) ?_
        refine Gp ?_
        refine⟨⟨i+1,at_+1+2+z,u',l++[⟨2,0,iQ ((q.drop (at_+1+2)).take z)⟩],rfl,by omega,by simp;omega,by omega,?_,?_⟩,by dsimp only;omega⟩
        ·rw[ly,D8,List.drop_drop,List.drop_drop];rfl
        ·rw[show (l++[(⟨2,0,iQ ((q.drop (at_+1+2)).take z)⟩:gW)]).length=l.length+1 by simp,show ((l++[(⟨2,0,iQ ((q.drop (at_+1+2)).take z)⟩:gW)]).map iD).flatten=(l.map iD).flatten++iD ⟨2,0,iQ ((q.drop (at_+1+2)).take z)⟩ by simp]
         exact aR hS
    ·rw[Wq (by omega) (by omega)]at ly
     exact hE ly (aR hS)
 ·have AJ:m-i=0:=by omega
  rw[AJ,Oo,List.length_drop]at ly
  refine zI hS Xh hq ?_
  refine bW (λh5=>?_) (λh5=>?_)
  ·rw[if_pos (by omega)]at ly
   exact hE ly (aR hS)
  ·rw[if_neg (by omega)]at ly
   refine⟨[.ob (a_ v6 174 3 l.length (l.map iD).flatten),X],?_,aR hS⟩
   unfold rH
   rw[ly]
   exact⟨v6,rfl,rfl⟩
abbrev mj(u:Value)(L:List gW):Chunk:=.ob (a_ u 174 3 L.length (L.map iD).flatten)
theorem Xa(L:List gW):∀v∈(L.map iD).flatten,v.oneCell'=true:=pT OJ L
theorem yB{W w:World}{l F:List Chunk}{x y:Value}{L M:List gW}{K:Value->World->Prop}(hS:SL W l w)(hr:kL (mj x L) l F)(ld:mN w 3 y M.length (M.map iD).flatten)(hb:L.length+M.length<=1000000)
  (h:∀v' w',SL W (mj v' (L++M)::F) w'->K v' w'):zu 3 32 [.int .i64 0,.int .i64 0,.string ⟨#[]⟩] 174 x y w K:=
 zx hS hr ld (mH uW M) rfl (Xa M) (by omega) (by omega) λv' w' hS=>h v' w' (by
  have e:((L++M).map iD).flatten=(L.map iD).flatten++(M.map iD).flatten:=by simp
  show SL W (.ob (a_ v' 174 3 (L++M).length ((L++M).map iD).flatten)::F) w'
  rw[e,List.length_append];exact hS)
theorem CY{W w:World}{l:List Chunk}{b:Nat}{x:gW}(hS:SL W l w)(m:Has (.pt b (iD x) 174) l):mN w 3 (.slice (some ⟨b,0,none⟩) 1 1) [x].length ([x].map iD).flatten:=by
 simpa using lP (m:=1) (sz:=3) (cap:=1) hS m rfl
section
variable (b:Nat) (x1 x2 x3 x4 x5 x6 x7:Int) (t:TypeId)
theorem aIv:SP 225 [.slice (some ⟨b,0,none⟩) 1 1] [.pt b [.int .i64 x1] t] (λu post=>post=[mj u [iF x1]]):=Zw b [x1] t (by simp)
theorem aIx:SP 225 [.slice (some ⟨b,0,none⟩) 4 4] [.pt b [.int .i64 x1,.int .i64 x2,.int .i64 x3,.int .i64 x4] t] (λu post=>post=[mj u [iF x1,iF x2,iF x3,iF x4]]):=Zw b [x1,x2,x3,x4] t (by simp)
end
theorem Xg{α β:Type}{f:α->List β}{n:Nat}(hn:∀x,(f x).length=n)(xs:List α):((xs.map f).flatten).length=xs.length*n:=by
 induction xs with
 | nil=>simp
 | cons x xs ih=>simp[hn,ih,Nat.add_mul];omega
theorem q5(on:Bool):SP 302 [.bool on] [] (dW (agg (iD (iF (rO on)))) []):=by
 intro W F w hS;apply b7i;delta Mf ai cI;(try simp only[app]at hS)
 refine Gm λb w hS=>?_
 cases on with
 | true=>
  refine zw ?_
  refine Cg (zM 1) λw hS=>?_
  (exact eF hS)
 | false=>
  refine zq ?_
  refine Cg (zM 0) λw hS=>?_
  (exact eF hS)
section
variable (a b c d e f g:gW)
abbrev zF:List Value:=[.int .i64 0,.int .i64 0,.string ⟨#[]⟩]
theorem O4:lx (b_ zF 2) [(0,3,agg (iD a)),(3,3,agg (iD b))]=some ([a,b].map iD).flatten:=by simp[lx,b_,Value.cells,iD]
theorem O5:lx (b_ zF 4) [(0,3,agg (iD a)),(3,3,agg (iD b)),(6,3,agg (iD c)),(9,3,agg (iD d))]=some ([a,b,c,d].map iD).flatten:=by simp[lx,b_,Value.cells,iD]
end
def pj(c:ig):List gW:=[iF c.table,iF c.key,iF (rO c.gone),tF c.val]
theorem bw6(c:ig):SP 249 [agg (jA c)] [] (λu post=>post=[mj u (pj c)]):=by
 intro W F w hS;apply b6g;delta Ly a7 aW ai cI;(try simp only[app]at hS)
 refine zK hS λcb w hS=>?_
 unfold jA at hS
 refine Gn λw hS=>?_
 refine Cg (zM c.table) λw hS=>?_
 refine Cg (zM c.key) λw hS=>?_
 refine Cg (q5 c.gone) λw hS=>?_
 refine Cg (Za c.val) λw hS=>?_
 refine zz hS (O5 (iF c.table) (iF c.key) (iF (rO c.gone)) (tF c.val)) λb w hS=>?_
 have hS:=a_.full (n:=4) (sz:=3) rfl hS
 exact⟨_,rfl,SL.b4 (show SL W (mj _ (pj c)::_) _ from hS) Xi⟩
def fw(m:Int)(r:cF):Int × cF:=match r.bad,r.l with
 | false,f::l=>if f.kind=1/\0<=f.n/\f.n<=m then (f.n,⟨l,false⟩) else (0,⟨f::l,true⟩)
 | _,l=>(0,⟨l,true⟩)
def th(r:cF):Bool × cF:=(decide ((fw 1 r).1=1),(fw 1 r).2)
section
variable {α β γ:Type}
def j5(p:cF->α × cF):Prop:=∀r,r.bad=true->(p r).2.bad=true
structure lQ(p q:cF->α × cF)(V:α->Prop):Prop where
 same:∀r,(q r).2.bad=false->p r=q r
 bad:∀r,(q r).2.bad=true->(p r).2.bad=true\/V (p r).1
def i_(p:cF->α × cF)(f:α->cF->β × cF)(r:cF):(α × β) × cF:=(((p r).1,(f (p r).1 (p r).2).1),(f (p r).1 (p r).2).2)
def nV(g:α->β)(p:cF->α × cF)(r:cF):β × cF:=(g (p r).1,(p r).2)
theorem j5.seq{p:cF->α × cF}{f:α->cF->β × cF}(hp:j5 p)(hf:∀a,j5 (f a)):j5 (i_ p f):=λr h=>hf _ _ (hp r h)
theorem j5.map{p:cF->α × cF}(g:α->β)(hp:j5 p):j5 (nV g p):=λr h=>hp r h
theorem lQ.seq{p q:cF->α × cF}{f g:α->cF->β × cF}{V:α->Prop}{U:β->Prop}(h:lQ p q V)(k:∀a,lQ (f a) (g a) U)(hg:∀a,j5 (g a))(hf:∀a,j5 (f a)):lQ (i_ p f) (i_ q g) λx=>V x.1\/U x.2:=by
 refine⟨λr hr=>?_,λr hr=>?_⟩
 ·have h1:(q r).2.bad=false:=by
   cases hb:(q r).2.bad with
   | false=>rfl
   | true=>have h2:(g (q r).1 (q r).2).2.bad=false:=hr;rw[hg _ _ hb]at h2;cases h2
  unfold i_
  rw[h.same r h1,(k _).same _ hr]
 ·cases h1:(q r).2.bad with
  | false=>
   have e:=h.same r h1
   have AK:(g (q r).1 (q r).2).2.bad=true:=hr
   rcases (k _).bad _ AK with h2|h2
   ·left;unfold i_;rw[e];exact h2
   ·right;right;unfold i_;rw[e];exact h2
  | true=>
   rcases h.bad r h1 with h2|h2
   ·exact .inl (hf _ _ h2)
   ·exact .inr (.inl h2)
theorem lQ.map{p q:cF->α × cF}{V:α->Prop}{U:β->Prop}(h:lQ p q V)(g:α->β)(hv:∀x,V x->U (g x)):lQ (nV g p) (nV g q) U:=
 ⟨λr hr=>by unfold nV;rw[h.same r hr],λr hr=>(h.bad r hr).imp id (hv _)⟩
theorem j5.many{p:cF->α × cF}(hp:j5 p):∀i,j5 (iJ p i)
 | 0,r,h=>h
 | i+1,r,h=>by unfold iJ;rw[if_pos h];exact h
theorem lQ.many{p q:cF->α × cF}{V:α->Prop}(h:lQ p q V)(hp:j5 p)(hq:j5 q):∀i,lQ (iJ p i) (iJ q i) λl=>∃x∈l,V x
 | 0=>⟨λr _=>rfl,λr hr=>.inl hr⟩
 | i+1=>by
  have ih:=lQ.many h hp hq i
  refine⟨λr hr=>?_,λr hr=>?_⟩
  ·unfold iJ at hr ⊢
   cases hb:r.bad with
   | true=>simp[hb]at hr ⊢
   | false=>
    simp only[hb]at hr ⊢
    have hr:(iJ q i (q r).2).2.bad=false:=hr
    have h1:(q r).2.bad=false:=by
     cases h1:(q r).2.bad with
     | false=>rfl
     | true=>rw[j5.many hq i _ h1]at hr;cases hr
    rw[h.same r h1,ih.same _ hr]
  ·unfold iJ at hr ⊢
   cases hb:r.bad with
   | true=>left;simp[hb]
   | false=>
    simp only[hb]at hr ⊢
    have hr:(iJ q i (q r).2).2.bad=true:=hr
    show (iJ p i (p r).2).2.bad=true\/∃x∈(p r).1::(iJ p i (p r).2).1,V x
    cases h1:(q r).2.bad with
    | false=>
     rw[h.same r h1]
     rcases ih.bad _ hr with h2|⟨x,h2,h3⟩
     ·exact .inl h2
     ·exact .inr ⟨x,.tail _ h2,h3⟩
    | true=>
     rcases h.bad r h1 with h2|h2
     ·exact .inl (j5.many hp i _ h2)
     ·exact .inr ⟨_,.head _,h2⟩
end
theorem SZ(k:Int){r:cF}(h:r.bad=true):(oB k r).2.bad=true:=by unfold oB;rw[h]
theorem CI:j5 j7:=λr h=>SZ 1 h
theorem pC:j5 iV:=λr h=>SZ 2 h
theorem xR(m:Int):j5 (iA m):=λr h=>by unfold iA;split;rfl;exact CI r h
theorem N0:j5 p9:=λr h=>xR 1 r h
theorem tK(m:Int):j5 (fw m):=λr h=>by unfold fw;rw[h]
theorem O8:j5 th:=λr h=>tK 1 r h
theorem HO(m:Int)(f:gW)(l:List gW):fw m ⟨f::l,false⟩=if f.kind=1/\0<=f.n/\f.n<=m then (f.n,⟨l,false⟩) else (0,⟨f::l,true⟩):=rfl
theorem Sc(f:gW)(l:List gW):j7 ⟨f::l,false⟩=if f.kind=1 then (f.n,⟨l,false⟩) else (0,⟨f::l,true⟩):=by
 unfold j7 oB
 simp only
 split<;>rfl
theorem AT(m:Int):lQ j7 (fw m) λn=>¬(0<=n/\n<=m):=by
 refine⟨λr h=>?_,λr h=>?_⟩
 ·obtain⟨l,b⟩:=r
  cases b with
  | true=>cases h
  | false=>
   cases l with
   | nil=>cases h
   | cons f l=>
    rw[HO]at h ⊢
    rw[Sc]
    split at h
    ·rename_i hc;rw[if_pos hc,if_pos hc.1]
    ·cases h
 ·obtain⟨l,b⟩:=r
  cases b with
  | true=>exact .inl rfl
  | false=>
   cases l with
   | nil=>exact .inl rfl
   | cons f l=>
    rw[HO]at h
    rw[Sc]
    split at h
    ·cases h
    ·rename_i hc
     by_cases hk:f.kind=1
     ·right;rw[if_pos hk];exact λhh=>hc ⟨hk,hh⟩
     ·left;rw[if_neg hk]
theorem IT(m k:Int)(hk:k<=m):lQ (iA m) (fw k) λn=>¬(0<=n/\n<=k):=by
 have h0:=AT k
 have oZ:∀r,(fw k r).2.bad=false->0<=(fw k r).1/\(fw k r).1<=k:=λr h=>by
  obtain⟨l,b⟩:=r
  unfold fw at h ⊢
  cases b<;>cases l<;>simp only at h ⊢
  ·cases h
  ·split at h
   ·rename_i hc;rw[if_pos hc];exact⟨hc.2.1,hc.2.2⟩
   ·cases h
  ·cases h
  ·cases h
 refine⟨λr h=>?_,λr h=>?_⟩
 ·have:=oZ r h
  unfold iA
  rw[h0.same r h,if_neg (by omega)]
 ·unfold iA
  split
  ·exact .inl rfl
  ·exact h0.bad r h
theorem VH:lQ p9 th λ_=>False:=by
 have h0:=IT 1 1 (Int.le_refl _)
 refine⟨λr h=>?_,λr h=>?_⟩
 ·unfold p9 th;rw[h0.same r h]
 ·left
  rcases h0.bad r h with h1|h1
  ·exact h1
  ·show (iA 1 r).2.bad=true
   unfold iA at h1 ⊢
   split
   ·rfl
   ·rename_i hc
    rw[if_neg hc]at h1
    exact absurd ⟨by omega,by omega⟩ h1
theorem I6:lQ iV iV λ_=>False:=⟨λr h=>rfl,λr h=>.inl h⟩
theorem CX(m:Int):lQ (iA m) (fw m) λ_=>False:=by
 have h0:=IT m m (Int.le_refl _)
 refine⟨h0.same,λr h=>?_⟩
 rcases h0.bad r h with h1|h1
 ·exact .inl h1
 ·left
  unfold iA at h1 ⊢
  split
  ·rfl
  ·rename_i hc
   rw[if_neg hc]at h1
   exact absurd ⟨by omega,by omega⟩ h1
theorem Oj{b:List UInt8}{l:List gW}(h:lu b= .ok l):l.length<=32767:=by
 rw[BG]at h
 split at h
 ·have h1:=O2 (kn 32767 ⟨b,0⟩).1 (kn 32767 ⟨b,0⟩).2
  have h2:=SU 32767 ⟨b,0⟩
  cases h;omega
 ·cases h
theorem EU{m:Int}(hm:0<=m)(r:cF):0<=(iA m r).1/\(iA m r).1<=m:=by
 unfold iA
 split
 ·exact⟨Int.le_refl _,hm⟩
 ·omega
theorem Ek{m:Int}(hm:0<=m)(r:cF):0<=(fw m r).1/\(fw m r).1<=m:=by
 obtain⟨l,b⟩:=r
 unfold fw
 cases b with
 | true=>exact⟨Int.le_refl _,hm⟩
 | false=>
  cases l with
  | nil=>exact⟨Int.le_refl _,hm⟩
  | cons f l=>
   simp only
   split
   ·rename_i h;exact⟨h.2.1,h.2.2⟩
   ·exact⟨Int.le_refl _,hm⟩
theorem aWh{α:Type}(one:cF->α × cF){i:Nat}{r:cF}(h:i=0\/r.bad=true):iJ one i r=([],r):=by
 cases i with
 | zero=>rfl
 | succ i=>unfold iJ;rw[if_pos (by rcases h with h|h;cases h;exact h)]
theorem aWg{α:Type}(one:cF->α × cF){i:Nat}{r:cF}(h:r.bad=false):iJ one (i+1) r=((one r).1::(iJ one i (one r).2).1,(iJ one i (one r).2).2):=by
 conv=>lhs;unfold iJ
 rw[if_neg (by rw[h];decide)]
structure nD{α:Type}(one:cF->α × cF)(n:Nat)(r0:cF)(xs:List α)(k:Nat)(r:cF):Prop where
 eq:iJ one n r0=(xs++(iJ one k r).1,(iJ one k r).2)
 le:xs.length+k<=n
theorem nD.start{α:Type}(one:cF->α × cF)(n:Nat)(r:cF):nD one n r [] n r:=⟨rfl,by simp⟩
theorem nD.step{α:Type}{one:cF->α × cF}{n:Nat}{r0:cF}{xs:List α}{k:Nat}{r:cF}(h:nD one n r0 xs (k+1) r)(hb:r.bad=false):nD one n r0 (xs++[(one r).1]) k (one r).2:=
 ⟨by rw[h.eq,aWg one hb];simp,by have:=h.le;rw[List.length_append,List.length_singleton];omega⟩
theorem nD.stop{α:Type}{one:cF->α × cF}{n:Nat}{r0:cF}{xs:List α}{k:Nat}{r:cF}(h:nD one n r0 xs k r)(hb:k=0\/r.bad=true):iJ one n r0=(xs,r):=by
 rw[h.eq,aWh one hb,List.append_nil]
theorem Dr{b:List UInt8}{e:Int}(h:lu b= .error e):e≠0:=by
 rw[BG]at h
 split at h
 ·cases h
 ·rename_i h2;cases h;exact h2
def Jx(rp:Nat)(v:Value)(L:List gW)(k:Nat)(bad:Bool):List Chunk:=[.pt rp [v,.int .i64 k,.bool bad] 339,mj v L]
def j_(rp:Nat)(r:cF):zC:=mX λx:Value × List gW × Nat=>zQ (x.2.2<=x.2.1.length/\x.2.1.length<=32767/\r.l=x.2.1.drop x.2.2) (Jx rp x.1 x.2.1 x.2.2 r.bad)
theorem j_.iff{W w:World}{rp:Nat}{r:cF}{l:List Chunk}:SL W (.ob (j_ rp r)::l) w↔∃(v:Value) (L:List gW) (k:Nat),(k<=L.length/\L.length<=32767/\r.l=L.drop k)/\SL W (.pt rp [v,.int .i64 k,.bool r.bad] 339::mj v L::l) w:=by
 unfold j_ Jx
 simp only[SL.ex,SL.fact,List.cons_append,List.nil_append]
 exact⟨λ⟨x,h1,h2⟩=>⟨x.1,x.2.1,x.2.2,h1,h2⟩,λ⟨a,b,c,h1,h2⟩=>⟨(a,b,c),h1,h2⟩⟩
theorem drop_nil{α:Type}{L:List α}{k:Nat}(h:k<=L.length):L.drop k=[]↔k=L.length:=by
 rw[List.drop_eq_nil_iff];omega
theorem zO(rp:Nat)(r:cF)(m:Int):SP 244 [.pointer (some ⟨rp,0,none⟩),.int .i64 m] [.ob (j_ rp r)] (dW (.int .i64 (fw m r).1) [.ob (j_ rp (fw m r).2)]):=by
 obtain⟨l,bad⟩:=r
 intro W F w hS;apply b6b;delta Lt aF bF a7 fI ai;(try simp only[app]at hS)
 obtain⟨v,L,k,⟨hk,hL,hl⟩,hS⟩:=j_.iff.1 hS
 have hl:l=L.drop k:=hl
 subst hl
 simp only at hS
 have g9:∀{w:World},fw m ⟨L.drop k,bad⟩=(0,⟨L.drop k,true⟩)->SL W (.pt rp [v,.int .i64 k,.bool true] 339::mj v L::F) w->∃post,dW (.int .i64 (fw m ⟨L.drop k,bad⟩).1) [.ob (j_ rp (fw m ⟨L.drop k,bad⟩).2)] (.int .i64 0) post/\SL W (app post F) w:=λe hS=>by
  rw[e];exact⟨_,⟨rfl,rfl⟩,j_.iff.2 ⟨v,L,k,⟨hk,hL,rfl⟩,hS⟩⟩
 refine Gn λw hS=>?_
 cases bad with
 | true=>
  refine zw ?_
  refine Gn λw hS=>?_
  exact g9 rfl hS
 | false=>
  refine zq ?_
  refine Gp ?_
  refine zt hS (v:=v) Xh ?_
  refine bW (λh=>?_) (λh=>?_)
  ·refine Gn λw hS=>?_
   exact g9 (by rw[List.drop_eq_nil_of_le (by omega)];rfl) hS
  ·have lV:k<L.length:=by omega
   have hx:L[k]?=some L[k]:=List.getElem?_eq_getElem lV
   have hc:L.drop k=L[k]::L.drop (k+1):=List.drop_eq_getElem_cons lV
   have hI:∀bad,fw m ⟨L.drop k,bad⟩=match bad with|true=>(0,⟨L.drop k,true⟩)|false=>if L[k].kind=1/\0<=L[k].n/\L[k].n<=m then (L[k].n,⟨L.drop (k+1),false⟩) else (0,⟨L.drop k,true⟩):=λbad=>by
    cases bad with
    | true=>rfl
    | false=>rw[hc];exact HO m _ _
   have hI:=hI false
   simp only at hI
   refine Gp ?_
   refine zy (i:=0) hS (v:=v) Xh uW hx lV rfl ?_
   refine bW (λh1=>?_) (λh1=>?_)
   ·refine Gn λw hS=>?_
    exact g9 (by rw[hI,if_neg λh=>h1 h.1]) hS
   refine Gp ?_
   refine zy (i:=1) hS (v:=v) Xh uW hx lV rfl ?_
   refine bW (λh2=>?_) (λh2=>?_)
   ·refine Gn λw hS=>?_
    exact g9 (by rw[hI,if_neg λh=>by omega]) hS
   refine Gp ?_
   refine zy (i:=1) hS (v:=v) Xh uW hx lV rfl ?_
   refine bW (λh3=>?_) (λh3=>?_)
   ·refine Gn λw hS=>?_
    exact g9 (by rw[hI,if_neg λh=>by omega]) hS
   refine Gn λw hS=>?_
   rw[show ((k+1:Nat):Int)-1=(k:Int) by omega]
   refine zy (i:=1) hS (v:=v) Xh uW hx lV rfl ?_
   rw[hI,if_pos ⟨Classical.not_not.1 h1,by omega,by omega⟩]
   exact⟨_,⟨rfl,rfl⟩,j_.iff.2 ⟨v,L,k+1,⟨lV,hL,rfl⟩,aR hS⟩⟩
theorem qk(rp:Nat)(r:cF):SP 301 [.pointer (some ⟨rp,0,none⟩)] [.ob (j_ rp r)] (dW (.bool (th r).1) [.ob (j_ rp (th r).2)]):=by
 intro W F w hS;apply b7h;delta Me ai;(try simp only[app]at hS)
 refine Cg (zO rp r 1) λw hS=>?_
 exact⟨_,⟨rfl,rfl⟩,hS⟩
theorem y2(rp:Nat)(r:cF):SP 245 [.pointer (some ⟨rp,0,none⟩)] [.ob (j_ rp r)] (dW (.string (iV r).1) [.ob (j_ rp (iV r).2)]):=by
 obtain⟨l,bad⟩:=r
 intro W F w hS;apply b6c;delta Lu aF bF a7 fI ai;(try simp only[app]at hS)
 obtain⟨v,L,k,⟨hk,hL,hl⟩,hS⟩:=j_.iff.1 hS
 have hl:l=L.drop k:=hl
 subst hl
 simp only at hS
 have g9:∀{w:World},oB 2 ⟨L.drop k,bad⟩=(ud,⟨L.drop k,true⟩)->SL W (.pt rp [v,.int .i64 k,.bool true] 339::mj v L::F) w->∃post,dW (.string (iV ⟨L.drop k,bad⟩).1) [.ob (j_ rp (iV ⟨L.drop k,bad⟩).2)] (.string ⟨#[]⟩) post/\SL W (app post F) w:=λe hS=>by
  unfold iV
  rw[e];exact⟨_,⟨rfl,rfl⟩,j_.iff.2 ⟨v,L,k,⟨hk,hL,rfl⟩,hS⟩⟩
 refine Gn λw hS=>?_
 cases bad with
 | true=>
  refine zw ?_
  refine Gn λw hS=>?_
  exact g9 rfl hS
 | false=>
  refine zq ?_
  refine Gp ?_
  refine zt hS (v:=v) Xh ?_
  refine bW (λh=>?_) (λh=>?_)
  ·refine Gn λw hS=>?_
   exact g9 (by rw[List.drop_eq_nil_of_le (by omega)];rfl) hS
  ·have lV:k<L.length:=by omega
   have hx:L[k]?=some L[k]:=List.getElem?_eq_getElem lV
   have hc:L.drop k=L[k]::L.drop (k+1):=List.drop_eq_getElem_cons lV
   have hI:oB 2 ⟨L.drop k,false⟩=if L[k].kind=2 then (L[k],⟨L.drop (k+1),false⟩) else (ud,⟨L.drop k,true⟩):=by rw[hc];rfl
   refine Gp ?_
   refine zy (i:=0) hS (v:=v) Xh uW hx lV rfl ?_
   refine bW (λh1=>?_) (λh1=>?_)
   ·refine Gn λw hS=>?_
    exact g9 (by rw[hI,if_neg λh=>h1 h]) hS
   refine Gn λw hS=>?_
   rw[show ((k+1:Nat):Int)-1=(k:Int) by omega]
   refine zy (i:=2) hS (v:=v) Xh uW hx lV rfl ?_
   unfold iV
   rw[hI,if_pos (Classical.not_not.1 h1)]
   exact⟨_,⟨rfl,rfl⟩,j_.iff.2 ⟨v,L,k+1,⟨lV,hL,rfl⟩,aR hS⟩⟩
theorem Yr(rp:Nat)(r:cF):SP 246 [.pointer (some ⟨rp,0,none⟩)] [.ob (j_ rp r)] (dW (.bool (decide (r.bad=false/\r.l=[]))) [.ob (j_ rp r)]):=by
 obtain⟨l,bad⟩:=r
 intro W F w hS;apply b6d;delta Lv bF c_ b7;(try simp only[app]at hS)
 obtain⟨v,L,k,⟨hk,hL,hl⟩,hS⟩:=j_.iff.1 hS
 simp only at hl
 refine Gn λw hS=>?_
 cases bad with
 | true=>
  refine zq ?_
  rw[decide_eq_false (by simp)]
  exact⟨_,⟨rfl,rfl⟩,j_.iff.2 ⟨v,L,k,⟨hk,hL,hl⟩,aR hS⟩⟩
 | false=>
  refine zw ?_
  refine Gp ?_
  refine zt hS (v:=v) Xh ?_
  refine Gp ?_
  have e:decide ((k:Int)=(L.length:Int))=decide ((cF.mk l false).bad=false/\(cF.mk l false).l=[]):=by
   rw[decide_eq_decide]
   simp only[true_and]
   rw[hl,drop_nil hk];omega
  rw[e]
  exact⟨_,⟨rfl,rfl⟩,j_.iff.2 ⟨v,L,k,⟨hk,hL,hl⟩,aR hS⟩⟩
def mF(r:cF):ig × cF:=
 let b:=fw 7 r;let c:=fw 1099511627776 b.2;let d:=th c.2;let e:=iV d.2
 (⟨b.1,c.1,d.1,e.1⟩,e.2)
theorem bw7(rp:Nat)(r:cF):SP 247 [.pointer (some ⟨rp,0,none⟩)] [.ob (j_ rp r)] (dW (agg (jA (mF r).1)) [.ob (j_ rp (mF r).2)]):=by
 intro W F w hS;apply b6e;delta Lw ai cI;(try simp only[app]at hS)
 refine Gm λb w hS=>?_
 refine Cg (zO rp r 7) λw hS=>?_;refine Gm λb w hS=>?_
 refine Cg (zO rp _ 1099511627776) λw hS=>?_
 refine Cg (qk rp _) λw hS=>?_
 refine Cg (y2 rp _) λw hS=>?_
 simp only[mF]
 exact eF hS
theorem j_.Dl{W w:World}{rp:Nat}{r:cF}{l:List Chunk}(h:SL W (.ob (j_ rp r)::l) w){K:Value->Prop}(hK:K (.bool r.bad)):b6 (.pointer (some ⟨rp,2,none⟩)) w K:=by
 obtain⟨v,L,k,_,hS⟩:=j_.iff.1 h
 exact zX hS .hd rfl hK
def iM(t:dR):Bool:=decide (1<=t.aI/\t.aI<=1099511627776) &&
 (if t.kind=1 then decide (t.mark=0/\t.changes.length<=16/\t.signals.length<=2) && t.changes.all (λc=>lF c 8) && t.signals.all (λs=>decide (s.size<=40))
  else decide ((t.kind=2\/t.kind=3)/\1<=t.mark/\t.mark<=1099511627776/\t.changes=[]/\t.signals=[]))
theorem vm{c:ig}{k:Int}:lF c k=true↔0<=c.table/\c.table<k/\1<=c.key/\c.key<=1099511627776/\c.val.size<=32/\(c.gone=true->c.val=emp):=by unfold lF;rw[decide_eq_true_eq]
theorem uC{t:dR}:iM t=true↔(1<=t.aI/\t.aI<=1099511627776) /\
  ((t.kind=1/\t.mark=0/\t.changes.length<=16/\t.signals.length<=2/\(∀c∈t.changes,lF c 8=true)/\∀s∈t.signals,s.size<=40) \/
   ((t.kind=2\/t.kind=3)/\1<=t.mark/\t.mark<=1099511627776/\t.changes=[]/\t.signals=[])):=by
 unfold iM
 rw[Bool.and_eq_true,decide_eq_true_eq]
 refine and_congr_right λ_=>?_
 split
 ·rename_i hk
  rw[Bool.and_eq_true,Bool.and_eq_true,decide_eq_true_eq,List.all_eq_true,List.all_eq_true]
  constructor
  ·rintro ⟨⟨⟨h1,h2,h3⟩,h4⟩,h5⟩
   exact .inl ⟨hk,h1,h2,h3,h4,λs hs=>of_decide_eq_true (h5 s hs)⟩
  ·rintro (⟨_,h1,h2,h3,h4,h5⟩|⟨h,_⟩)
   ·exact⟨⟨⟨h1,h2,h3⟩,h4⟩,λs hs=>decide_eq_true (h5 s hs)⟩
   ·omega
 ·rename_i hk
  rw[decide_eq_true_eq]
  constructor
  ·exact λh=>.inr h
  ·rintro (⟨h,_⟩|h)
   ·exact absurd h hk
   ·exact h
theorem nW{t:dR}(h:iM t=true):(1<=t.aI/\t.aI<=1099511627776)/\(1<=t.kind/\t.kind<=3)/\(0<=t.mark/\t.mark<=1099511627776)/\t.changes.length<=16/\t.signals.length<=2/\(∀c∈t.changes,lF c 8=true)/\∀s∈t.signals,s.size<=40:=by
 obtain⟨h1,h2⟩:=uC.1 h
 rcases h2 with ⟨k,m,a,b,c,d⟩|⟨k,m1,m2,a,b⟩
 ·exact⟨h1,by omega,by omega,a,b,c,d⟩
 ·rw[a,b];exact⟨h1,by omega,by omega,by simp,by simp,by simp,by simp⟩
def mG(t:dR):List gW:=[iF t.aI,iF t.kind,iF t.mark,iF t.changes.length]++(t.changes.map pj).flatten++([iF t.signals.length]++t.signals.map tF)
def t_(t:dR):Except Int (List UInt8):=if iM t=true then oS (mG t) else .error 1
theorem W_(t:dR):(mG t).length=5+t.changes.length*4+t.signals.length:=by
 unfold mG
 simp only[List.length_append,List.length_cons,List.length_nil,List.length_map]
 rw[DC (f:=pj) (k:=4) (λ_=>rfl)]
 omega
theorem W9{t:dR}(h:iM t=true):∀f∈mG t,xK f:=by
 obtain⟨h1,h2,h3,h4,h5,h6,h7⟩:=nW h
 intro f hf
 unfold mG at hf
 simp only[List.mem_append,List.mem_cons,List.mem_flatten,List.mem_map,List.not_mem_nil,or_false]at hf
 rcases hf with ((rfl|rfl|rfl|rfl)|⟨l,⟨c,hc,rfl⟩,hf⟩)|rfl|⟨s,hs,rfl⟩
 ·exact sI (by omega)
 ·exact sI (by omega)
 ·exact sI (by omega)
 ·exact sI (by omega)
 ·have h8:=vm.1 (h6 c hc)
  have hb:=NZ c.gone
  unfold pj at hf
  simp only[List.mem_cons,List.not_mem_nil,or_false]at hf
  rcases hf with rfl|rfl|rfl|rfl
  ·exact sI (by omega)
  ·exact sI (by omega)
  ·exact sI (by omega)
  ·exact .inr ⟨rfl,rfl,by show c.val.size<=4096;omega⟩
 ·exact sI (by omega)
 ·have:=h7 s hs
  exact .inr ⟨rfl,rfl,by show s.size<=4096;omega⟩
theorem OR{t:dR}(h:iM t=true):t_ t= .ok (iu (mG t).length 2++((mG t).map iZ).flatten)/\lu (iu (mG t).length 2++((mG t).map iZ).flatten)= .ok (mG t):=by
 have hl:=W_ t
 obtain⟨_,_,_,h4,h5,_,_⟩:=nW h
 obtain⟨e1,e2⟩:=Oh (l:=mG t) (by omega) (W9 h)
 exact⟨by unfold t_;rw[if_pos h,e1],e2⟩
def iY{α:Type}(one:cF->α × cF):Nat->cF->List α × cF
 | 0,r=>([],r)
 | i+1,r=>((one r).1::(iY one i (one r).2).1,(iY one i (one r).2).2)
theorem j5.iY{α:Type}{p:cF->α × cF}(hp:j5 p):∀i,j5 (iY p i)
 | 0,r,h=>h
 | i+1,r,h=>j5.iY hp i _ (hp r h)
theorem lQ.iY{α:Type}{p q:cF->α × cF}{V:α->Prop}(h:lQ p q V)(hp:j5 p)(hq:j5 q):∀i,lQ (iY p i) (iJ q i) λl=>∃x∈l,V x
 | 0=>⟨λr _=>rfl,λr hr=>.inl hr⟩
 | i+1=>by
  have ih:=lQ.iY h hp hq i
  refine⟨λr hr=>?_,λr hr=>?_⟩
  ·unfold YtfenmffiidchcaaGreat.iY iJ
   unfold iJ at hr
   cases hb:r.bad with
   | true=>simp[hb]at hr
   | false=>
    simp only[hb]at hr ⊢
    have hr:(iJ q i (q r).2).2.bad=false:=hr
    have h1:(q r).2.bad=false:=by
     cases h1:(q r).2.bad with
     | false=>rfl
     | true=>rw[j5.many hq i _ h1]at hr;cases hr
    rw[h.same r h1,ih.same _ hr];rfl
  ·cases hb:r.bad with
   | true=>exact .inl (j5.iY hp (i+1) r hb)
   | false=>
    unfold iJ at hr
    simp only[hb]at hr
    have hr:(iJ q i (q r).2).2.bad=true:=hr
    show (YtfenmffiidchcaaGreat.iY p i (p r).2).2.bad=true\/∃x∈(p r).1::(YtfenmffiidchcaaGreat.iY p i (p r).2).1,V x
    cases h1:(q r).2.bad with
    | false=>
     rw[h.same r h1]
     rcases ih.bad _ hr with h2|⟨x,h2,h3⟩
     ·exact .inl h2
     ·exact .inr ⟨x,.tail _ h2,h3⟩
    | true=>
     rcases h.bad r h1 with h2|h2
     ·exact .inl (j5.iY hp i _ h2)
     ·exact .inr ⟨_,.head _,h2⟩
def mP(r:cF):ig × cF:=
 let b:=iA 8 r;let c:=j7 b.2;let d:=p9 c.2;let e:=iV d.2
 (⟨b.1,c.1,d.1,e.1⟩,e.2)
def CO(x:Int × Int × Bool × ByteArray):ig:=⟨x.1,x.2.1,x.2.2.1,x.2.2.2⟩
theorem N9:mP=nV CO (i_ (iA 8) λ_=>i_ j7 λ_=>i_ p9 λ_=>iV):=by funext r;simp only[mP,nV,i_,CO]
theorem N':mF=nV CO (i_ (fw 7) λ_=>i_ (fw 1099511627776) λ_=>i_ th λ_=>iV):=by funext r;simp only[mF,nV,i_,CO]
theorem FM:j5 mP:=by rw[N9];exact ((xR 8).seq λ_=>CI.seq λ_=>N0.seq λ_=>pC).map _
theorem FN:j5 mF:=by rw[N'];exact ((tK 7).seq λ_=>(tK _).seq λ_=>O8.seq λ_=>pC).map _
def De(c:ig):Prop:=¬(0<=c.table/\c.table<=7)\/¬(0<=c.key/\c.key<=1099511627776)
theorem V3:lQ mP mF De:=by
 rw[N9,N']
 have a4:=VH.seq (f:=λ_=>iV) (g:=λ_=>iV) (λ_=>I6) (λ_=>pC) (λ_=>pC)
 have Sy:j5 (i_ p9 λ_=>iV):=N0.seq λ_=>pC
 have Sz:j5 (i_ th λ_=>iV):=O8.seq λ_=>pC
 have a3:=(AT 1099511627776).seq (f:=λ_=>i_ p9 λ_=>iV) (g:=λ_=>i_ th λ_=>iV) (λ_=>a4) (λ_=>Sz) (λ_=>Sy)
 have m3p:j5 (i_ j7 λ_=>i_ p9 λ_=>iV):=CI.seq λ_=>Sy
 have m3q:j5 (i_ (fw 1099511627776) λ_=>i_ th λ_=>iV):=(tK _).seq λ_=>Sz
 have a2:=(IT 8 7 (by decide)).seq (f:=λ_=>i_ j7 λ_=>i_ p9 λ_=>iV) (g:=λ_=>i_ (fw 1099511627776) λ_=>i_ th λ_=>iV) (λ_=>a3) (λ_=>m3q) (λ_=>m3p)
 refine a2.map CO λx h=>?_
 rcases h with h|h|h|h
 ·exact .inl h
 ·exact .inr h
 ·exact h.elim
 ·exact h.elim
def ED(x:Int × Int × Int × (Int × List ig) × (Int × List ByteArray)):dR:=⟨x.1,x.2.1,x.2.2.2.1.2,x.2.2.2.2.2,x.2.2.1⟩
def jW{α:Type}(i:cF->Int × cF)(m:Nat->cF->List α × cF):cF->(Int × List α) × cF:=i_ i λn=>m n.toNat
def mW:cF->dR × cF:=nV ED (i_ j7 λ_=>i_ (iA 3) λ_=>i_ j7 λ_=>i_ (jW (iA 16) (iY mP)) λ_=>jW (iA 2) (iY iV))
def n_:cF->dR × cF:=nV ED (i_ (fw 1099511627776) λ_=>i_ (fw 3) λ_=>i_ (fw 1099511627776) λ_=>i_ (jW (fw 16) (iJ mF)) λ_=>jW (fw 2) (iJ iV))
def JG(t:dR):Prop:=¬(0<=t.aI/\t.aI<=1099511627776)\/¬(0<=t.mark/\t.mark<=1099511627776)\/∃c∈t.changes,De c
theorem Us:lQ mW n_ JG:=by
 unfold mW n_
 have c1:lQ (jW (iA 16) (iY mP)) (jW (fw 16) (iJ mF)) λx=>False\/∃o∈x.2,De o:=(CX 16).seq (λn=>V3.iY FM FN n.toNat) (λn=>FN.many _) (λn=>FM.iY _)
 have s1:lQ (jW (iA 2) (iY iV)) (jW (fw 2) (iJ iV)) λx=>False\/∃o∈x.2,False:=(CX 2).seq (λn=>I6.iY pC pC n.toNat) (λn=>pC.many _) (λn=>pC.iY _)
 have mc:j5 (jW (iA 16) (iY mP)):=(xR _).seq λn=>FM.iY _
 have HV:j5 (jW (fw 16) (iJ mF)):=(tK _).seq λn=>FN.many _
 have ms:j5 (jW (iA 2) (iY iV)):=(xR _).seq λn=>pC.iY _
 have SV:j5 (jW (fw 2) (iJ iV)):=(tK _).seq λn=>pC.many _
 have a4:=c1.seq (f:=λ_=>jW (iA 2) (iY iV)) (g:=λ_=>jW (fw 2) (iJ iV)) (λ_=>s1) (λ_=>SV) (λ_=>ms)
 have p4:=mc.seq (f:=λ_=>jW (iA 2) (iY iV)) λ_=>ms
 have q4:=HV.seq (f:=λ_=>jW (fw 2) (iJ iV)) λ_=>SV
 have a3:=(AT 1099511627776).seq (f:=λ_=>i_ (jW (iA 16) (iY mP)) λ_=>jW (iA 2) (iY iV)) (g:=λ_=>i_ (jW (fw 16) (iJ mF)) λ_=>jW (fw 2) (iJ iV)) (λ_=>a4) (λ_=>q4) (λ_=>p4)
 have p3:=CI.seq (f:=λ_=>i_ (jW (iA 16) (iY mP)) λ_=>jW (iA 2) (iY iV)) λ_=>p4
 have q3:=(tK 1099511627776).seq (f:=λ_=>i_ (jW (fw 16) (iJ mF)) λ_=>jW (fw 2) (iJ iV)) λ_=>q4
 have a2:=(CX 3).seq (f:=λ_=>i_ j7 λ_=>i_ (jW (iA 16) (iY mP)) λ_=>jW (iA 2) (iY iV)) (g:=λ_=>i_ (fw 1099511627776) λ_=>i_ (jW (fw 16) (iJ mF)) λ_=>jW (fw 2) (iJ iV)) (λ_=>a3) (λ_=>q3) (λ_=>p3)
 have p2:=(xR 3).seq (f:=λ_=>i_ j7 λ_=>i_ (jW (iA 16) (iY mP)) λ_=>jW (iA 2) (iY iV)) λ_=>p3
 have q2:=(tK 3).seq (f:=λ_=>i_ (fw 1099511627776) λ_=>i_ (jW (fw 16) (iJ mF)) λ_=>jW (fw 2) (iJ iV)) λ_=>q3
 have a1:=(AT 1099511627776).seq (f:=λ_=>i_ (iA 3) λ_=>i_ j7 λ_=>i_ (jW (iA 16) (iY mP)) λ_=>jW (iA 2) (iY iV)) (g:=λ_=>i_ (fw 3) λ_=>i_ (fw 1099511627776) λ_=>i_ (jW (fw 16) (iJ mF)) λ_=>jW (fw 2) (iJ iV)) (λ_=>a2) (λ_=>q2) (λ_=>p2)
 refine a1.map ED λx h=>?_
 rcases h with h|h|h|(h|h)|(h|⟨_,_,h⟩)
 ·exact .inl h
 ·exact h.elim
 ·exact .inr (.inl h)
 ·exact h.elim
 ·exact .inr (.inr h)
 ·exact h.elim
 ·exact h.elim
theorem aWm{t:dR}(h:iM t=true):¬JG t:=by
 obtain⟨h1,h2,h3,h4,h5,h6,h7⟩:=nW h
 rintro (hv|hv|⟨c,hc,hv⟩)
 ·omega
 ·omega
 ·have:=vm.1 (h6 c hc)
  unfold De at hv
  omega
def vM(l:List gW):Option dR:=
 let x:=mW ⟨l,false⟩
 if x.2.bad=false/\x.2.l=[]/\iM x.1=true then some x.1 else none
def Dt(l:List gW):Option dR:=
 let x:=n_ ⟨l,false⟩
 if x.2.bad=false/\x.2.l=[]/\iM x.1=true then some x.1 else none
theorem Ot(l:List gW):Dt l=vM l:=by
 unfold Dt vM
 simp only
 cases hb:(n_ ⟨l,false⟩).2.bad with
 | false=>rw[Us.same _ hb,hb]
 | true=>
  rw[if_neg (by simp),if_neg]
  rintro ⟨h1,_,h3⟩
  rcases Us.bad _ hb with h|h
  ·rw[h]at h1;cases h1
  ·exact aWm h3 h
def l6(b:List UInt8):Except Int dR:=match lu b with
 | .error e=>.error e
 | .ok l=>match vM l with
  | some t=>.ok t
  | none=>.error 3
theorem Ev{α:Type}{one:cF->α × cF}{f:α->List gW}:∀(xs:List α) (l:List gW),(∀x∈xs,∀l,one ⟨f x++l,false⟩=(x,⟨l,false⟩))->iY one xs.length ⟨(xs.map f).flatten++l,false⟩=(xs,⟨l,false⟩)
 | [],l,_=>rfl
 | x::xs,l,h=>by
  have ih:=Ev xs l λy hy=>h y (.tail _ hy)
  have h1:=h x (.head _) ((xs.map f).flatten++l)
  rw[List.map_cons,List.flatten_cons,List.append_assoc,List.length_cons,iY,h1,ih]
theorem V2{c:ig}{l:List gW}(h:0<=c.table/\c.table<=8):mP ⟨pj c++l,false⟩=(c,⟨l,false⟩):=by
 unfold mP pj
 have e2:iA 8 ⟨[iF c.table,iF c.key,iF (rO c.gone),tF c.val]++l,false⟩=(c.table,⟨[iF c.key,iF (rO c.gone),tF c.val]++l,false⟩):=xS h
 have e3:j7 ⟨[iF c.key,iF (rO c.gone),tF c.val]++l,false⟩=(c.key,⟨[iF (rO c.gone),tF c.val]++l,false⟩):=rfl
 have e4:p9 ⟨[iF (rO c.gone),tF c.val]++l,false⟩=(c.gone,⟨[tF c.val]++l,false⟩):=VI
 have e5:iV ⟨[tF c.val]++l,false⟩=(c.val,⟨l,false⟩):=rfl
 simp only[e2,e3,e4,e5]
theorem bWl{t:dR}(h:iM t=true):mW ⟨mG t,false⟩=(t,⟨[],false⟩):=by
 obtain⟨h1,h2,h3,h4,h5,h6,h7⟩:=nW h
 have e0:mG t=iF t.aI::(iF t.kind::(iF t.mark::(iF t.changes.length::((t.changes.map pj).flatten++(iF t.signals.length::((t.signals.map λs=>[tF s]).flatten++[])))))):=by
  unfold mG
  have:∀l:List ByteArray,l.map tF=(l.map λs=>[tF s]).flatten:=λl=>by induction l with
   | nil=>rfl
   | cons x l ih=>rw[List.map_cons,List.map_cons,List.flatten_cons,ih];rfl
  rw[this];simp
 rw[e0]
 have e1:∀n l,j7 ⟨iF n::l,false⟩=(n,⟨l,false⟩):=λn l=>rfl
 have e2:∀l,iA 3 ⟨iF t.kind::l,false⟩=(t.kind,⟨l,false⟩):=λl=>xS (by omega)
 have e3:∀l,iA 16 ⟨iF t.changes.length::l,false⟩=((t.changes.length:Int),⟨l,false⟩):=λl=>xS (by omega)
 have e4:∀l,iY mP t.changes.length ⟨(t.changes.map pj).flatten++l,false⟩=(t.changes,⟨l,false⟩):=λl=>Ev t.changes l λc hc l=>V2 (by have:=vm.1 (h6 c hc);omega)
 have e5:∀l,iA 2 ⟨iF t.signals.length::l,false⟩=((t.signals.length:Int),⟨l,false⟩):=λl=>xS (by omega)
 have e6:∀l,iY iV t.signals.length ⟨(t.signals.map λs=>[tF s]).flatten++l,false⟩=(t.signals,⟨l,false⟩):=λl=>Ev t.signals l λs hs l=>rfl
 unfold mW jW nV i_ ED
 simp only[e1,e2,e3,e4,e5,e6,Int.toNat_natCast]
theorem Ow{t:dR}(h:iM t=true):∃b,t_ t= .ok b/\l6 b= .ok t:=by
 obtain⟨e1,e2⟩:=OR h
 refine⟨_,e1,?_⟩
 unfold l6
 rw[e2]
 have e3:vM (mG t)=some t:=by
  unfold vM
  rw[bWl h]
  simp only
  rw[if_pos ⟨trivial,trivial,h⟩]
 simp only[e3]
theorem Ov{b:List UInt8}{t:dR}(h:l6 b= .ok t):iM t=true:=by
 unfold l6 at h
 split at h
 ·cases h
 ·split at h
  ·rename_i x hx
   cases h
   unfold vM at hx
   simp only at hx
   split at hx
   ·rename_i hc;cases hx;exact hc.2.2
   ·cases hx
  ·cases h
def pG(t:dR):List UInt8:=match t_ t with
 | .ok b=>b
 | .error _=>[]
theorem N5{t:dR}(h:iM t=true):l6 (pG t)= .ok t:=by
 obtain⟨b,e1,e2⟩:=Ow h
 unfold pG
 rw[e1];exact e2
theorem N6{t:dR}(h:iM t=true):t_ t= .ok (pG t):=by
 obtain⟨b,e1,_⟩:=Ow h
 unfold pG
 rw[e1]
theorem Dn{t:dR}(h:iM t=true):(pG t).length<=1200:=by
 obtain⟨h1,h2,h3,h4,h5,h6,h7⟩:=nW h
 unfold pG
 rw[(OR h).1]
 simp only
 rw[List.length_append,mf]
 unfold mG
 simp only[List.map_append,List.map_cons,List.map_nil,List.flatten_append,List.flatten_cons,List.flatten_nil,List.length_append,List.append_nil,BJ]
 rw[F6,List.map_map,List.map_map]
 have hT:∀s:ByteArray,(iZ (tF s)).length=3+s.size:=λs=>by
  show (jQ 2::(iu (s.size:Nat) 2++s.data.toList)).length=_
  rw[List.length_cons,List.length_append,mf]
  have:s.data.toList.length=s.size:=rfl
  omega
 have k1:=w9 (f:=(λx=>(x.map iZ).flatten)∘pj) (k:=62) t.changes λc hc=>by
  have:=(vm.1 (h6 c hc)).2.2.2.2.1
  show (((pj c).map iZ).flatten).length<=62
  unfold pj
  simp only[List.map_cons,List.map_nil,List.flatten_cons,List.flatten_nil,List.length_append,List.length_nil,BJ,hT]
  omega
 have k2:=w9 (f:=iZ∘tF) (k:=43) t.signals λs hs=>by
  have:=h7 s hs
  show (iZ (tF s)).length<=43
  rw[hT];omega
 omega
def CV(r:Row):Prop:=1<=r.key/\r.key<=1099511627776/\r.val.size<=32
instance (r:Row):Decidable (CV r):=by unfold CV;infer_instance
structure Bs(C:List Row):Prop where
 sorted:ke C
 rows:∀r∈C,CV r
 len:C.length<=1000
def sf:Int->List Row->Bool
 | _,[]=>true
 | k,r::C=>decide (k<r.key/\r.key<=1099511627776/\r.val.size<=32) && sf r.key C
theorem TC:∀{C:List Row} {k:Int},sf k C=true↔(∀r∈C,k<r.key)/\ke C/\∀r∈C,r.key<=1099511627776/\r.val.size<=32
 | [],k=>by simp[sf,ke]
 | r::C,k=>by
  unfold sf
  rw[Bool.and_eq_true,decide_eq_true_eq,TC (C:=C) (k:=r.key)]
  unfold ke
  rw[List.pairwise_cons]
  constructor
  ·rintro ⟨⟨h1,h2,h3⟩,h4,h5,h6⟩
   refine⟨λx hx=>?_,⟨λx hx=>h4 x hx,h5⟩,λx hx=>?_⟩
   ·rcases List.mem_cons.1 hx with rfl|hx
    ·exact h1
    ·have:=h4 x hx;omega
   ·rcases List.mem_cons.1 hx with rfl|hx
    ·exact⟨h2,h3⟩
    ·exact h6 x hx
  ·rintro ⟨h1,⟨h2,h3⟩,h4⟩
   exact⟨⟨h1 r (.head _),h4 r (.head _)⟩,λx hx=>h2 x hx,h3,λx hx=>h4 x (.tail _ hx)⟩
def ng(C:List Row):Bool:=sf 0 C && decide (C.length<=1000)
theorem SG{C:List Row}:ng C=true↔Bs C:=by
 unfold ng
 rw[Bool.and_eq_true,decide_eq_true_eq,TC]
 constructor
 ·rintro ⟨⟨h1,h2,h3⟩,h4⟩
  exact⟨h2,λr hr=>⟨by have:=h1 r hr;omega,(h3 r hr).1,(h3 r hr).2⟩,h4⟩
 ·rintro ⟨h1,h2,h3⟩
  exact⟨⟨λr hr=>by have:=(h2 r hr).1;omega,h1,λr hr=>⟨(h2 r hr).2.1,(h2 r hr).2.2⟩⟩,h3⟩
def lg(aI:Int)(ts:List (List Row)):Bool:=decide (0<=aI/\aI<=1099511627776/\1<=ts.length/\ts.length<=8) && ts.all ng
theorem tL{aI:Int}{ts:List (List Row)}:lg aI ts=true↔(0<=aI/\aI<=1099511627776/\1<=ts.length/\ts.length<=8)/\∀C∈ts,Bs C:=by
 unfold lg
 rw[Bool.and_eq_true,decide_eq_true_eq,List.all_eq_true]
 exact and_congr_right λ_=>⟨λh C hC=>SG.1 (h C hC),λh C hC=>SG.2 (h C hC)⟩
def ue(r:Row):List gW:=[iF r.key,tF r.val]
def pM(C:List Row):List gW:=iF C.length::(C.map ue).flatten
def oT(aI:Int)(ts:List (List Row)):List gW:=[iF aI,iF ts.length]++(ts.map pM).flatten
theorem O0(C:List Row):(pM C).length=1+C.length*2:=by
 unfold pM
 rw[List.length_cons,DC (f:=ue) (k:=2) (λ_=>rfl)]
 omega
theorem W8{aI:Int}{ts:List (List Row)}(h:lg aI ts=true):(oT aI ts).length<=16010:=by
 obtain⟨h1,h2⟩:=tL.1 h
 have k:=w9 (f:=pM) (k:=2001) ts λC hC=>by rw[O0];have:=(h2 C hC).len;omega
 unfold oT
 rw[List.length_append]
 simp only[List.length_cons,List.length_nil]
 have:ts.length*2001<=8*2001:=Nat.mul_le_mul_right _ h1.2.2.2
 omega
theorem W7{aI:Int}{ts:List (List Row)}(h:lg aI ts=true):∀f∈oT aI ts,xK f:=by
 obtain⟨h1,h2⟩:=tL.1 h
 intro f hf
 unfold oT at hf
 simp only[List.mem_append,List.mem_cons,List.mem_flatten,List.mem_map,List.not_mem_nil,or_false]at hf
 rcases hf with (rfl|rfl)|⟨l,⟨C,hC,rfl⟩,hf⟩
 ·exact sI (by omega)
 ·exact sI (by omega)
 ·have hT:=h2 C hC
  have hl:=hT.len
  unfold pM at hf
  simp only[List.mem_cons,List.mem_flatten,List.mem_map]at hf
  rcases hf with rfl|⟨l,⟨r,hr,rfl⟩,hf⟩
  ·exact sI (by omega)
  ·obtain⟨k1,k2,k3⟩:=hT.rows r hr
   unfold ue at hf
   simp only[List.mem_cons,List.not_mem_nil,or_false]at hf
   rcases hf with rfl|rfl
   ·exact sI (by omega)
   ·exact .inr ⟨rfl,rfl,by show r.val.size<=4096;omega⟩
def vl(aI:Int)(ts:List (List Row)):List UInt8:=iu (oT aI ts).length 2++((oT aI ts).map iZ).flatten
theorem WQ(s:ByteArray):(iZ (tF s)).length=3+s.size:=by
 show (jQ 2::(iu (s.size:Nat) 2++s.data.toList)).length=_
 rw[List.length_cons,List.length_append,mf]
 have:s.data.toList.length=s.size:=rfl
 omega
theorem R0{aI:Int}{ts:List (List Row)}(h:lg aI ts=true):(vl aI ts).length<=360000:=by
 obtain⟨h1,h2⟩:=tL.1 h
 unfold vl oT
 rw[List.length_append,mf]
 simp only[List.map_append,List.map_cons,List.map_nil,List.flatten_append,List.flatten_cons,List.flatten_nil,List.length_append,List.append_nil,BJ]
 rw[F6,List.map_map]
 have k:=w9 (f:=(λx=>(x.map iZ).flatten)∘pM) (k:=44009) ts λC hC=>by
  have hT:=h2 C hC
  have hl:=hT.len
  show (((pM C).map iZ).flatten).length<=44009
  unfold pM
  rw[List.map_cons,List.flatten_cons,List.length_append,BJ,F6,List.map_map]
  have k2:=w9 (f:=(λx=>(x.map iZ).flatten)∘ue) (k:=44) C λr hr=>by
   have:=(hT.rows r hr).2.2
   show (((ue r).map iZ).flatten).length<=44
   unfold ue
   simp only[List.map_cons,List.map_nil,List.flatten_cons,List.flatten_nil,List.length_append,List.length_nil,BJ,WQ]
   omega
  have:C.length*44<=1000*44:=Nat.mul_le_mul_right _ hl
  omega
 have:ts.length*44009<=8*44009:=Nat.mul_le_mul_right _ h1.2.2.2
 omega
theorem R1{aI:Int}{ts:List (List Row)}(h:lg aI ts=true):oS (oT aI ts)= .ok (vl aI ts)/\lu (vl aI ts)= .ok (oT aI ts):=
 Oh (l:=oT aI ts) (by have:=W8 h;omega) (W7 h)
def F8(aI:Int)(ts:List (List Row)):Except Int (List UInt8):=if lg aI ts=true then .ok (gR (vl aI ts)) else .error 1
def H_(x:Int × ByteArray):Row:=⟨x.1,x.2⟩
def sQ:cF->Row × cF:=nV H_ (i_ j7 λ_=>iV)
def tN:cF->Row × cF:=nV H_ (i_ (fw 1099511627776) λ_=>iV)
def oI:cF->List Row × cF:=nV Prod.snd (jW (iA 1000) (iJ sQ))
def rD:cF->List Row × cF:=nV Prod.snd (jW (fw 1000) (iJ tN))
def EC(x:Int × (Int × List (List Row))):Int × List (List Row):=(x.1,x.2.2)
def nJ:cF->(Int × List (List Row)) × cF:=nV EC (i_ j7 λ_=>jW (iA 8) (iY oI))
def oz:cF->(Int × List (List Row)) × cF:=nV EC (i_ (fw 1099511627776) λ_=>jW (fw 8) (iJ rD))
theorem IC:j5 sQ:=(CI.seq λ_=>pC).map _
theorem ID:j5 tN:=((tK _).seq λ_=>pC).map _
def Bv(r:Row):Prop:=¬(0<=r.key/\r.key<=1099511627776)
theorem bFo:lQ sQ tN Bv:=by
 unfold sQ tN
 have a1:=(AT 1099511627776).seq (f:=λ_=>iV) (g:=λ_=>iV) (λ_=>I6) (λ_=>pC) (λ_=>pC)
 refine a1.map H_ λx h=>?_
 rcases h with h|h
 ·exact h
 ·exact h.elim
theorem I3:j5 oI:=((xR _).seq λn=>IC.many _).map _
theorem I4:j5 rD:=((tK _).seq λn=>ID.many _).map _
theorem bR9:lQ oI rD λC=>∃r∈C,Bv r:=by
 unfold oI rD jW
 have a1:=(CX 1000).seq (f:=λn=>iJ sQ n.toNat) (g:=λn=>iJ tN n.toNat) (λn=>bFo.many IC ID n.toNat) (λn=>ID.many _) (λn=>IC.many _)
 refine a1.map Prod.snd λx h=>?_
 rcases h with h|h
 ·exact h.elim
 ·exact h
def JF(x:Int × List (List Row)):Prop:=¬(0<=x.1/\x.1<=1099511627776)\/∃C∈x.2,∃r∈C,Bv r
theorem R5:lQ nJ oz JF:=by
 unfold nJ oz
 have c1:lQ (jW (iA 8) (iY oI)) (jW (fw 8) (iJ rD)) λx=>False\/∃C∈x.2,∃r∈C,Bv r:=(CX 8).seq (λn=>bR9.iY I3 I4 n.toNat) (λn=>I4.many _) (λn=>I3.iY _)
 have mc:j5 (jW (iA 8) (iY oI)):=(xR _).seq λn=>I3.iY _
 have HV:j5 (jW (fw 8) (iJ rD)):=(tK _).seq λn=>I4.many _
 have a1:=(AT 1099511627776).seq (f:=λ_=>jW (iA 8) (iY oI)) (g:=λ_=>jW (fw 8) (iJ rD)) (λ_=>c1) (λ_=>HV) (λ_=>mc)
 refine a1.map EC λx h=>?_
 rcases h with h|h|h
 ·exact .inl h
 ·exact h.elim
 ·exact .inr h
theorem aWl{x:Int × List (List Row)}(h:lg x.1 x.2=true):¬JF x:=by
 obtain⟨h1,h2⟩:=tL.1 h
 rintro (hv|⟨C,hC,r,hr,hv⟩)
 ·omega
 ·have:=(h2 C hC).rows r hr
  unfold Bv CV at *
  omega
def r7(l:List gW):Option (Int × List (List Row)):=
 let x:=nJ ⟨l,false⟩
 if x.2.bad=false/\x.2.l=[]/\lg x.1.1 x.1.2=true then some x.1 else none
def Ej(l:List gW):Option (Int × List (List Row)):=
 let x:=oz ⟨l,false⟩
 if x.2.bad=false/\x.2.l=[]/\lg x.1.1 x.1.2=true then some x.1 else none
theorem R2(l:List gW):Ej l=r7 l:=by
 unfold Ej r7
 simp only
 cases hb:(oz ⟨l,false⟩).2.bad with
 | false=>rw[R5.same _ hb,hb]
 | true=>
  rw[if_neg (by simp),if_neg]
  rintro ⟨h1,_,h3⟩
  rcases R5.bad _ hb with h|h
  ·rw[h]at h1;cases h1
  ·exact aWl h3 h
def lO(b:List UInt8):Option (Int × List (List Row)):=match kR b with
 | .error _=>none
 | .ok (p,n)=>if n=b.length then (match lu p with
  | .error _=>none
  | .ok l=>r7 l) else none
theorem Oq{b:List UInt8}{x:Int × List (List Row)}(h:lO b=some x):lg x.1 x.2=true:=by
 unfold lO at h
 split at h
 ·cases h
 ·split at h
  ·split at h
   ·cases h
   ·unfold r7 at h
    simp only at h
    split at h
    ·rename_i hc;cases h;exact hc.2.2
    ·cases h
  ·cases h
theorem bFn{r:Row}{l:List gW}:sQ ⟨ue r++l,false⟩=(r,⟨l,false⟩):=rfl
theorem bR7{C:List Row}{l:List gW}(h:C.length<=1000):oI ⟨pM C++l,false⟩=(C,⟨l,false⟩):=by
 unfold oI jW nV i_ pM
 rw[List.cons_append,xS (by omega)]
 simp only[Int.toNat_natCast]
 rw[SA C l λr _ l=>bFn]
theorem aIq{aI:Int}{ts:List (List Row)}(h:lg aI ts=true):nJ ⟨oT aI ts,false⟩=((aI,ts),⟨[],false⟩):=by
 obtain⟨h1,h2⟩:=tL.1 h
 have e0:oT aI ts=iF aI::(iF ts.length::((ts.map pM).flatten++[])):=by unfold oT;simp
 rw[e0]
 have e1:∀l,j7 ⟨iF aI::l,false⟩=(aI,⟨l,false⟩):=λl=>rfl
 have e2:∀l,iA 8 ⟨iF ts.length::l,false⟩=((ts.length:Int),⟨l,false⟩):=λl=>xS (by omega)
 have e3:∀l,iY oI ts.length ⟨(ts.map pM).flatten++l,false⟩=(ts,⟨l,false⟩):=λl=>Ev ts l λC hC l=>bR7 (h2 C hC).len
 unfold nJ jW nV i_ EC
 simp only[e1,e2,e3,Int.toNat_natCast]
theorem FZ{b p:List UInt8}{n:Nat}(ht:kR b= .ok (p,n))(hn:n=b.length){l:List gW}(hd:lu p= .ok l):lO b=r7 l:=by
 unfold lO
 rw[ht]
 simp only
 rw[if_pos hn,hd]
theorem aIp{l:List gW}{x:Int × List (List Row)}(h:nJ ⟨l,false⟩=(x,⟨[],false⟩))(hm:lg x.1 x.2=true):r7 l=some x:=by
 unfold r7
 rw[h]
 simp only
 rw[if_pos ⟨trivial,trivial,hm⟩]
theorem Wu{aI:Int}{ts:List (List Row)}(h:lg aI ts=true):lO (gR (vl aI ts))=some (aI,ts):=by
 have hl:=R0 h
 have h1:=(R1 h).2
 have h2:=aIq h
 generalize vl aI ts=p at *
 have ht:=Uk (p:=p) (r:=[]) (by omega)
 rw[List.append_nil]at ht
 exact (FZ ht (oF p).symm h1).trans (aIp h2 h)
structure fW where
 file:Int
 first:Int
 size:Nat
 l:List (List UInt8)
structure wI where
 file:Int
 oq:Int
 fresh:Bool
structure g8 where
 bR:List fW
 base:Int
 size:Int
 ia:Option wI
def fW.next(s:fW):Int:=s.first+s.l.length
def b9(L:List fW):Int:=match L.getLast? with
 | none=>0
 | some s=>s.next-1
def jB(L:List fW):Int:=match L with
 | []=>1
 | s::_=>s.first
def lj:List fW->Int->Option (List UInt8)
 | [],_=>none
 | s::r,n=>if s.first<=n/\n<s.next then s.l[(n-s.first).toNat]? else lj r n
structure lI where
 file:Int
 fresh:Bool
 b:List UInt8
def m8(g:g8)(f:Int)(p:List UInt8):Except Int lI:=
 if g.base+4096<=f then .error 7 else .ok ⟨f,true,gR (jN (b9 g.bR+1).toNat)++gR p⟩
def jV(g:g8)(off:Bool)(p:List UInt8):Except Int lI:=
 if 1048576<p.length then .error 1
 else if off=true then .error 8
 else if 1099511627776<=b9 g.bR then .error 7
 else match g.bR.getLast? with
  | none=>m8 g g.base p
  | some s=>if s.l.length=0\/(s.size:Int)+(gR p).length<=g.size then .ok ⟨s.file,false,gR p⟩ else m8 g (s.file+1) p
def g6(g:g8)(d:DS):(g8 × DS) × Int:=match g.ia with
 | none=>((g,d),0)
 | some x=>(({g with ia:=if (if x.fresh=true then d.remove x.file else d.cut x.file x.oq).2=0 then none else some x},(if x.fresh=true then d.remove x.file else d.cut x.file x.oq).1),(if x.fresh=true then d.remove x.file else d.cut x.file x.oq).2)
def lM(L:List fW)(x:lI)(p:List UInt8):List fW:=
 let L:=if x.fresh=true then L++[⟨x.file,b9 L+1,0,[]⟩] else L
 L.dropLast++L.getLast?.toList.map λs=>{s with size:=s.size+x.b.length,l:=s.l++[p]}
def j6(g:g8)(d:DS)(p:List UInt8):(g8 × DS) × (Int × Int):=match jV g d.off p with
 | .error e=>((g,d),(0,e))
 | .ok x=>
  let m:=g6 g d
  if m.2≠0 then (m.1,(0,m.2)) else
  let a:=m.1.2.append x.file x.b
  if a.2≠0 then ((m.1.1,a.1),(0,a.2)) else
  let s:=a.1.sync x.file
  if s.2≠0 then ((m.1.1,s.1),(0,s.2)) else
  (({m.1.1 with bR:=lM m.1.1.bR x p},s.1),(b9 (lM m.1.1.bR x p),0))
def r8(L:List fW):Int:=match L.getLast? with
 | none=>0
 | some s=>s.size
def jD(base:Int)(R:List PF):List Int:=(R.map PF.id).filter λf=>decide (base<=f/\f<base+4096)
def l9(L:List fW)(R:List PF)(f:Int)(last:Bool):(Bool × Bool) × List fW:=
 let b:=((ij PF.id R f).map PF.b).getD []
 match jK b with
 | none=>((false,last),L)
 | some (first,l,n)=>
  if (last=false/\(n≠b.length\/l.length=0))\/(0<L.length/\first≠b9 L+1)\/1099511627776<first+l.length-1 then ((true,false),L)
  else ((true,true),L++[⟨f,first,n,l⟩])
def mK(R:List PF):List Int->Option Int->List fW->Bool->Option (List fW × Bool)
 | [],_,L,whole=>some (L,whole)
 | f::r,prev,L,whole=>
  let x:=l9 L R f r.isEmpty
  if x.1.2=false then none else if (match prev with|none=>false|some g=>decide (f≠g+1))=true then none else mK R r (some f) x.2 x.1.1
def lr(L:List fW)(d:DS)(ids:List Int)(whole:Bool):DS × Int:=match ids.getLast? with
 | none=>(d,0)
 | some f=>if whole=false then d.remove f else if r8 L<pS d.R f then d.cut f (r8 L) else (d,0)
def kE(d:DS)(base size:Int):DS × Except Int g8:=
 if base<0\/12288<base\/size<64\/65536<size then (d,.error 1)
 else if d.off=true then (d,.error 8)
 else match mK d.R (jD base d.R) none [] true with
  | none=>(d,.error 3)
  | some (L,whole)=>if (lr L d (jD base d.R) whole).2≠0 then ((lr L d (jD base d.R) whole).1,.error (lr L d (jD base d.R) whole).2) else ((lr L d (jD base d.R) whole).1,.ok ⟨L,base,size,none⟩)
structure mO(s:fW)(N:Nat):Prop where
 f0:0<=s.file
 f1:s.file<=100000
 n0:1<=s.first
 n1:s.first<=1099511627776
 sz:s.size<=N
 ln:s.l.length<=N
 bl:∀b∈s.l,b.length<=1048576
structure g8.Ok(g:g8)(N:Nat):Prop where
 bR:∀s∈g.bR,mO s N
 b0:0<=g.base
 b1:g.base<=12288
 s0:64<=g.size
 s1:g.size<=65536
 ln:g.bR.length<=N
theorem u_{L:List fW}{N:Nat}(h:∀s∈L,mO s N):0<=b9 L/\b9 L<=1099511627776+N:=by
 unfold b9
 split
 ·omega
 ·rename_i s hs
  have:=h s (List.mem_of_getLast? hs)
  have h1:=this.n0;have h2:=this.n1;have h3:=this.ln
  simp only[fW.next]
  omega
section
variable {A:List PF} {x:PF}
theorem Wd(hs:kf PF.id (A++[x])):iI PF.id (A++[x]) x.id=A.length:=FR hs (j:=A.length) (by simp) (by simp)
theorem Se(hs:kf PF.id (A++[x])):j8 PF.id (A++[x]) x.id=true:=(Em hs).2 ⟨x,by simp,rfl⟩
theorem Pj(hs:kf PF.id (A++[x])):ij PF.id (A++[x]) x.id=some x:=Aq hs (by simp)
theorem To(hs:kf PF.id (A++[x])){y:PF}(hy:y.id=x.id):lY PF.id (A++[x]) y=A++[y]:=by
 have h1:j8 PF.id (A++[x]) y.id=true:=by rw[hy];exact Se hs
 rw[EI h1,hy,Wd hs];simp
theorem bWo(hs:kf PF.id (A++[x]))(g:PF->PF):nN (A++[x]) x.id g=A++[{g x with id:=x.id}]:=by
 unfold nN
 rw[Pj hs]
 exact To hs rfl
theorem Vj(hs:kf PF.id (A++[x]))(b:List UInt8):nE (A++[x]) x.id b=A++[⟨x.id,x.safe,x.b++b⟩]:=by
 unfold nE
 rw[Pj hs]
 exact To hs rfl
theorem Vk(hs:kf PF.id A){f:Int}(h:∀y∈A,y.id<f)(b:List UInt8):nE A f b=A++[⟨f,0,b⟩]:=by
 have h1:ij PF.id A f=none:=(Gv hs).2 λy hy=>by have:=h y hy;omega
 have h2:j8 PF.id A f=false:=by
  cases e:j8 PF.id A f with
  | false=>rfl
  | true=>obtain⟨y,hy,e⟩:=(Em hs).1 e;have:=h y hy;omega
 have h3:iI PF.id A f=A.length:=by
  unfold iI
  rw[List.filter_eq_self.2 λy hy=>by simpa using h y hy]
 unfold nE
 rw[h1]
 unfold lY
 simp only[h2,h3]
 simp[nY]
end
def sU(f:Int)(R:List PF):Prop:=∀i (h:i<R.length),R[i].id=f+i
theorem sU.sorted{f:Int}{R:List PF}(h:sU f R):kf PF.id R:=by
 unfold kf
 rw[List.pairwise_iff_getElem]
 intro i j hi hj vg
 rw[h i hi,h j hj];omega
theorem sU.mem{f:Int}{R:List PF}(h:sU f R){x:PF}(hx:x∈R):f<=x.id/\x.id<f+R.length:=by
 obtain⟨i,hi,rfl⟩:=List.mem_iff_getElem.1 hx
 rw[h i hi];omega
theorem sU.snoc{f:Int}{R:List PF}(h:sU f R){x:PF}(hx:x.id=f+R.length):sU f (R++[x]):=by
 intro i hi
 by_cases hl:i<R.length
 ·rw[List.getElem_append_left hl];exact h i hl
 ·have:i=R.length:=by simp at hi;omega
  subst this
  simp[hx]
def nj(s:fW):List UInt8:=mC (jN s.first.toNat::s.l)
def mh(s:fW):PF:=⟨s.file,(nj s).length,nj s⟩
def lB:Int->Int->List fW->Prop
 | _,_,[]=>True
 | f,n,s::r=>s.file=f/\s.first=n/\s.size=(nj s).length/\(∀p∈s.l,p.length<=1048576)/\(r≠[]->s.l≠[])/\lB (f+1) (n+s.l.length) r
def iK(L:List fW):List (List UInt8):=(L.map fW.l).flatten
theorem w5(s:fW)(L:List fW):iK (s::L)=s.l++iK L:=by simp[iK]
theorem BM(A B:List fW):iK (A++B)=iK A++iK B:=by simp[iK]
theorem lB.app:∀{f n:Int} {A B:List fW},lB f n (A++B)↔lB f n A/\(B≠[]->∀s∈A,s.l≠[])/\lB (f+A.length) (n+(iK A).length) B
 | f,n,[],B=>by simp[lB,iK]
 | f,n,s::A,B=>by
  have ih:=lB.app (f:=f+1) (n:=n+s.l.length) (A:=A) (B:=B)
  have e1:f+1+(A.length:Int)=f+((s::A).length:Int):=by simp;omega
  have e2:n+(s.l.length:Int)+((iK A).length:Int)=n+((iK (s::A)).length:Int):=by rw[w5,List.length_append];omega
  rw[e1,e2]at ih
  rw[List.cons_append]
  simp only[lB,ih]
  constructor
  ·rintro ⟨h1,h2,h3,h4,h5,h6,h7,h8⟩
   refine⟨⟨h1,h2,h3,h4,λhA=>h5 (by simp[hA]),h6⟩,λhB t ht=>?_,h8⟩
   rcases List.mem_cons.1 ht with rfl|ht
   ·exact h5 (by simp[hB])
   ·exact h7 hB t ht
  ·rintro ⟨⟨h1,h2,h3,h4,h5,h6⟩,h7,h8⟩
   refine⟨h1,h2,h3,h4,λh=>?_,h6,λhB t ht=>h7 hB t (.tail _ ht),h8⟩
   by_cases hA:A=[]
   ·subst hA;exact h7 (by simpa using h) s (.head _)
   ·exact h5 hA
theorem lB.Af:∀{f n:Int} {L:List fW},lB f n L->sU f (L.map mh)
 | f,n,[],_=>λi h=>by simp at h
 | f,n,s::L,h=>by
  obtain⟨h1,_,_,_,_,h6⟩:=h
  have ih:=h6.Af
  intro i hi
  cases i with
  | zero=>simpa [mh] using h1
  | succ i=>
   have:=ih i (by simpa using hi)
   simp only[List.map_cons,List.getElem_cons_succ]
   rw[this];push_cast;omega
theorem lB.head{f n:Int}{L:List fW}(h:lB f n L)(hL:L≠[]):b9 L=n+(iK L).length-1:=by
 obtain⟨A,s,rfl⟩:∃A s,L=A++[s]:=⟨L.dropLast,L.getLast hL,(List.dropLast_concat_getLast hL).symm⟩
 obtain⟨_,_,h3⟩:=lB.app.1 h
 obtain⟨_,h4,_⟩:=h3
 unfold b9
 rw[List.getLast?_concat,BM]
 simp only[fW.next,h4,List.length_append]
 simp[iK];omega
theorem lB.low{f n:Int}{L:List fW}(h:lB f n L)(hL:L≠[]):jB L=n:=by
 cases L with
 | nil=>exact absurd rfl hL
 | cons s L=>exact h.2.1
theorem lB.read:∀{f n:Int} {L:List fW},lB f n L->∀i,lj L i=if n<=i then (iK L)[(i-n).toNat]? else none
 | f,n,[],_,i=>by simp[lj,iK]
 | f,n,s::L,h,i=>by
  obtain⟨_,h2,_,_,_,h6⟩:=h
  have ih:=h6.read i
  subst h2
  rw[lj,ih,w5]
  have o7:s.next=s.first+s.l.length:=rfl
  by_cases h1:s.first<=i
  ·rw[if_pos (c:=s.first<=i) h1]
   by_cases h3:i<s.next
   ·rw[if_pos (c:=s.first<=i/\i<s.next) ⟨h1,h3⟩,List.getElem?_append_left (by omega)]
   ·rw[if_neg (c:=s.first<=i/\i<s.next) (by omega),if_pos (by omega),List.getElem?_append_right (by omega)]
    congr 1;omega
  ·rw[if_neg (c:=s.first<=i/\i<s.next) (by omega),if_neg (by omega),if_neg h1]
theorem lB.bl:∀{f n:Int} {L:List fW},lB f n L->∀s∈L,s.size=(nj s).length/\∀p∈s.l,p.length<=1048576
 | f,n,[],_,s,hs=>by cases hs
 | f,n,t::L,h,s,hs=>by
  obtain⟨_,_,h3,h4,_,h6⟩:=h
  rcases List.mem_cons.1 hs with rfl|hs
  ·exact⟨h3,h4⟩
  ·exact h6.bl s hs
theorem aib(n:Nat):(jN n).length<=1048576:=by rw[u7];omega
theorem bFb{n:Nat}{l:List (List UInt8)}(h1:1<=n)(h2:n<=1099511627776)(hl:∀p∈l,p.length<=1048576):jK (mC (jN n::l))=some ((n:Int),l,(mC (jN n::l)).length):=by
 have:=bRb (jN n::l) [] (λp hp=>by rcases List.mem_cons.1 hp with rfl|hp;exact aib n;exact hl p hp) ⟨2,Uj⟩
 rw[List.append_nil]at this
 unfold jK
 rw[this]
 simp only[aic h1 h2,Option.map_some]
abbrev kq:=List (List Row)
def lk(ts:kq)(t:Int):List Row:=if t<0 then [] else (ts[t.toNat]?).getD []
def mo(ts:kq)(c:ig):kq:=ts.set c.table.toNat (ni (lk ts c.table) c)
def jz(ts:kq)(l:List ig):kq:=l.foldl mo ts
def ki(n:Nat)(c:ig):Bool:=decide (0<=c.table/\c.table<(n:Int))
def oU(ts:kq)(l:List ig):Bool:=l.all (ki ts.length) && (jz ts l).all λC=>decide (C.length<=1000)
theorem wN(ts:kq)(c:ig):(mo ts c).length=ts.length:=List.length_set
theorem tW(ts:kq):∀l:List ig,(jz ts l).length=ts.length:=λl=>by
 unfold jz
 induction l generalizing ts with
 | nil=>rfl
 | cons c l ih=>rw[List.foldl_cons,ih,wN]
theorem Vu(ts:kq)(l m:List ig):jz ts (l++m)=jz (jz ts l) m:=List.foldl_append
theorem FD(ts:kq)(l:List ig)(c:ig):jz ts (l++[c])=mo (jz ts l) c:=by rw[Vu];rfl
theorem pY(ts:kq)(t:Nat)(h:t<ts.length):lk ts t=ts[t]:=by
 unfold lk
 rw[if_neg (by omega),Int.toNat_natCast,List.getElem?_eq_getElem h];rfl
theorem EX{ts:kq}{t:Int}(h:0<=t/\t<ts.length):lk ts t∈ts:=by
 obtain⟨n,rfl⟩:∃n:Nat,t=n:=⟨t.toNat,by omega⟩
 rw[pY ts n (by omega)];exact List.getElem_mem _
structure oN(C:List Row):Prop where
 sorted:ke C
 rows:∀r∈C,CV r
theorem oN.app{C:List Row}(h:oN C){c:ig}{k:Int}(hc:lF c k=true):oN (ni C c):=by
 have hm:=vm.1 hc
 unfold ni
 split
 ·exact⟨T7 h.sorted _,λr hr=>h.rows r (SO hr)⟩
 ·refine⟨IU h.sorted _,λr hr=>?_⟩
  rcases SQ hr with rfl|hr
  ·exact⟨by show 1<=c.key;omega,by show c.key<=_;omega,by show c.val.size<=_;omega⟩
  ·exact h.rows r hr
theorem TE:oN []:=⟨List.Pairwise.nil,by simp⟩
theorem bFk(C:List Row)(c:ig):(ni C c).length<=C.length+1:=by
 unfold ni
 split
 ·have:=Sn C c.key;omega
 ·exact HR C _
theorem HY{ts:kq}{c:ig}{C:List Row}(h:C∈mo ts c):C∈ts\/C=ni (lk ts c.table) c:=by
 unfold mo at h
 exact List.mem_or_eq_of_mem_set h
theorem Vh{ts:kq}(h:∀C∈ts,oN C){c:ig}{k:Int}(hc:lF c k=true)(ht:ki ts.length c=true):∀C∈mo ts c,oN C:=λC hC=>by
 rcases HY hC with hC|rfl
 ·exact h C hC
 ·exact (h _ (EX (of_decide_eq_true ht))).app hc
theorem FC{k:Int}:∀{l:List ig} {ts:kq},(∀C∈ts,oN C)->(∀c∈l,lF c k=true)->(∀c∈l,ki ts.length c=true)->∀C∈jz ts l,oN C
 | [],ts,h,_,_=>h
 | c::l,ts,h,h1,h2=>by
  show ∀C∈jz (mo ts c) l,oN C
  refine FC (Vh h (h1 c (.head _)) (h2 c (.head _))) (λx hx=>h1 x (.tail _ hx)) λx hx=>?_
  rw[wN];exact h2 x (.tail _ hx)
theorem Aa(N:Nat):∀{l:List ig} {ts:kq},(∀C∈ts,C.length<=N)->(∀c∈l,ki ts.length c=true)->∀C∈jz ts l,C.length<=N+l.length
 | [],ts,h,_=>h
 | c::l,ts,h,h2=>by
  intro C hC
  have hA:∀C∈mo ts c,C.length<=N+1:=λC hC=>by
   rcases HY hC with hC|rfl
   ·have:=h C hC;omega
   ·have h1:=bFk (lk ts c.table) c
    have h3:=h _ (EX (of_decide_eq_true (h2 c (.head _))))
    omega
  have:=Aa (N+1) (l:=l) hA (λx hx=>by rw[wN];exact h2 x (.tail _ hx)) C hC
  rw[List.length_cons];omega
structure fR where
 g:g8
 d:DS
 ts:kq
 kd:Int
 image:Int
def lE(R:List PF)(n:Nat)(f:Int):Option (Int × kq):=match ij PF.id R f with
 | none=>none
 | some x=>match lO x.b with
  | none=>none
  | some y=>if y.2.length=n then some y else none
abbrev rJ:=Int × Int × kq
def jE(R:List PF)(n:Nat)(f:Int)(x:rJ):rJ:=match lE R n f with
 | none=>x
 | some y=>if 0<=x.1/\y.1<=x.2.1 then x else (f,y.1,y.2)
def pz(R:List PF)(n:Nat):rJ:=jE R n 1 (jE R n 0 (-1,0,List.replicate n []))
def n3(n:Nat)(image:Int):List (List UInt8)->Int->kq->Option kq
 | [],_,ts=>some ts
 | b::r,aI,ts=>match l6 b with
  | .error _=>none
  | .ok t=>if t.aI=aI/\(∀c∈t.changes,c.table<(n:Int)) then n3 n image r (aI+1) (if image<aI then jz ts t.changes else ts) else none
def r_(d:DS)(lH size:Int):DS × Except Int fR:=
 if lH<1\/8<lH then (d,.error 1)
 else match kE d 16 size with
  | (d',.error e)=>(d',.error e)
  | (d',.ok g)=>
   let x:=pz d'.R lH.toNat
   match n3 lH.toNat x.2.1 (iK g.bR) (jB g.bR) x.2.2 with
   | none=>(d',.error 3)
   | some ts=>if x.2.1<=b9 g.bR/\jB g.bR<=x.2.1+1 then (d',.ok ⟨g,d',ts,x.1,x.2.1⟩) else (d',.error 3)
abbrev l4:=pG
def fR.lJ(k:fR)(t:dR):fR × (Int × Int):=
 if k.d.off=true then (k,(0,8))
 else if oU k.ts t.changes=false\/1099511627776<=b9 k.g.bR then (k,(0,7))
 else
  let r:=j6 k.g k.d (l4 {t with aI:=b9 k.g.bR+1})
  if r.2.2=0 then ({k with g:=r.1.1,d:=r.1.2,ts:=jz k.ts t.changes},(b9 k.g.bR+1,0)) else ({k with g:=r.1.1,d:=r.1.2},(0,r.2.2))
def fR.mR(k:fR)(sg:List ByteArray)(l:List ig):fR × (Int × Int):=
 if iM ⟨1,1,l,sg,0⟩=true/\(∀c∈l,c.table<(k.ts.length:Int)) then k.lJ ⟨1,1,l,sg,0⟩ else (k,(0,1))
def fR.mL(k:fR)(kind mark:Int):fR × (Int × Int):=
 if (kind=2\/kind=3)/\iM ⟨1,kind,[],[],mark⟩=true then k.lJ ⟨1,kind,[],[],mark⟩ else (k,(0,1))
def fR.jK(k:fR)(aI:Int):Except Int dR:=match lj k.g.bR aI with
 | none=>.error 5
 | some b=>l6 b
def lK(C:List Row)(key:Int)(n:Int):List Row:=(C.filter λr=>decide (key<r.key)).take n.toNat
def fR.s9(k:fR)(t key n:Int):List Row:=lK (lk k.ts t) key n
structure ik where
 n:Int
 state:Int
 mark:Int
 after:Int
 id:Int
 table:Int
 rows:List Row
 h_:Int
 last:Bool
abbrev ko(n:Int):ik:=⟨n,0,0,0,0,0,[],0,false⟩
def ik.wo(w:ik)(mark id table after:Int):Prop:=w.state≠0\/mark<1\/1099511627776<mark\/id<1\/64<id\/table<0\/8<=table\/after<0\/1099511627776<after
instance (w:ik) (mark id table after:Int):Decidable (w.wo mark id table after):=by unfold ik.wo;infer_instance
def ik.pA(w:ik)(mark id table after:Int):ik:=if w.wo mark id table after then w else ⟨w.n,1,mark,after,id,table,[],0,false⟩
def oG:Int->List Row->Bool
 | _,[]=>true
 | k,r::C=>decide (k<r.key/\r.key<=1099511627776) && oG r.key C
def mw(after:Int)(C:List Row):Int:=(C.getLast?.map (·.key)).getD after
def ik.vP(w:ik)(C:List Row):Prop:=w.state≠1\/w.n<C.length\/oG w.after C=false
instance (w:ik) (C:List Row):Decidable (w.vP C):=by unfold ik.vP;infer_instance
def ik.fill(w:ik)(C:List Row):ik:=if w.vP C then w else {w with state:=2,rows:=C,h_:=mw w.after C,last:=decide ((C.length:Int)<w.n)}
def ik.shut(w:ik):ik:=if w.state=2 then {w with state:=3} else w
def ik.waits(w:ik)(kind mark:Int):Bool:=decide (kind=2/\mark=w.mark/\(w.state=1\/w.state=2))
def ik.low(w:ik)(mark:Int):ik:=if w.state=3/\mark=w.mark then {w with state:=4} else w
def nx(t:Int)(l:List ig)(r:Row):Bool:=l.any λc=>decide (c.table=t/\c.key=r.key)
def ik.vv(w:ik)(l:List ig):ik:=if w.state=4 then {w with rows:=w.rows.filter λr=>!nx w.table l r} else w
def ik.vf(w:ik)(mark aI:Int):Prop:=w.state≠4\/mark≠w.mark\/aI<1\/1099511627776<aI
instance (w:ik) (mark aI:Int):Decidable (w.vf mark aI):=by unfold ik.vf;infer_instance
def mv(w:ik)(aI:Int):List pd:=w.rows.map λr=>⟨aI,w.table,r.key,false,r.val⟩
def uD(w:ik):uJ:=⟨2,w.id,0,0,0,w.h_,w.last⟩
def ik.high(w:ik)(mark aI:Int):ik × Option sX:=if w.vf mark aI then (w,none) else (ko w.n,some ⟨aI,mv w aI,[uD w]⟩)
structure g_ where
 l:List (Int × Int)
 at_:Int
 left:Int
abbrev lT:g_:=⟨[],-1,0⟩
def AS(d:g_)(id:Int):Option Nat:=d.l.findIdx? λm=>decide (m.1=id)
def g_.add(d:g_)(id weight:Int):g_:=
 if id<1\/64<id\/weight<1\/8<weight then d else match AS d id with
 | some _=>d
 | none=>{d with l:=d.l++[(id,weight)]}
def g_.del(d:g_)(id:Int):g_:=match AS d id with
 | none=>d
 | some i=>⟨d.l.eraseIdx i,if (i:Int)<=d.at_ then d.at_-1 else d.at_,if (i:Int)=d.at_ then 0 else d.left⟩
def g_.place(d:g_):Int:=if d.left=0 then (if (d.l.length:Int)<=d.at_+1 then 0 else d.at_+1) else d.at_
def g_.nX(d:g_):Int × Int:=(d.l[d.place.toNat]?).getD (0,0)
def g_.next(d:g_):g_ × Int:=if d.l=[] then (d,0) else (⟨d.l,d.place,(if d.left=0 then d.nX.2 else d.left)-1⟩,d.nX.1)
structure g_.Ok(d:g_):Prop where
 mZ : -1<=d.at_
 Bz:d.at_<d.l.length
 Eo:0<=d.left
 Ep:d.left<=8
 neg:d.at_ = -1->d.left=0
 w:∀m∈d.l,1<=m.1/\m.1<=64/\1<=m.2/\m.2<=8
 nd:(d.l.map Prod.fst).Nodup
def rF:List UInt8:=[115,110,97,112,115,104,111,116,32]
def wu:List UInt8->Option (Int × Int)
 | [d]=>if 48<=d.toNat/\d.toNat<=55 then some ((d.toNat:Int)-48,1) else none
 | [d,s,e]=>if (48<=d.toNat/\d.toNat<=55)/\s.toNat=32/\49<=e.toNat/\e.toNat<=56 then some ((d.toNat:Int)-48,(e.toNat:Int)-48) else none
 | _=>none
def A5(s:ByteArray):Option (Int × Int):=if s.data.toList.take 9=rF then wu (s.data.toList.drop 9) else none
structure g7 where
 tables:Int
 late:Int
 at_:Int
 reqs:List Rq
 b8:ik
def sM(tables late chunk aI:Int)(L:List Rq):Prop:=tables<1\/8<tables\/late<0\/2 ^ tables.toNat<=late\/aI<0\/1099511627776<aI\/chunk<1\/64<chunk\/¬kx L\/∃r∈L,tables<=r.table\/aI<r.at_
def g7.captured(m:g7)(t:Int):Bool:=decide (0<=t/\t<m.tables) && (decide (N1 m.late t=0) || m.reqs.any λr=>decide (r.table=t))
def g7.accept(m:g7)(s:ByteArray)(aI:Int):List Rq × List uJ:=match A5 s with
 | none=>(m.reqs,[])
 | some g=>if m.tables<=g.1 then (m.reqs,[]) else match su m.reqs g.1 g.2 aI with
  | none=>(m.reqs,[])
  | some L=>(L,[⟨1,L.length,g.1,g.2,aI,0,false⟩])
def g7.j1(m:g7)(aI:Int):List ByteArray->g7 × List uJ
 | []=>(m,[])
 | s::l=>let r:=m.accept s aI;let x:=g7.j1 {m with reqs:=r.1} aI l;(x.1,r.2++x.2)
def sO(m:g7)(aI:Int)(l:List ig):List pd:=(l.filter λc=>m.captured c.table).map λc=>⟨aI,c.table,c.key,c.gone,c.val⟩
def g7.wU(m:g7)(t:dR):g7 × sX:=
 let x:=m.j1 t.aI t.signals
 ({x.1 with b8:=x.1.b8.vv t.changes},⟨t.aI,sO x.1 t.aI t.changes,x.2⟩)
def g7.high(m:g7)(t:dR):g7 × sX:=match m.b8.high t.mark t.aI with
 | (_,none)=>(m,⟨t.aI,[],[]⟩)
 | (w,some x)=>match pI m.reqs m.b8.id m.b8.h_ m.b8.last with
  | none=>({m with b8:=w},{x with notes:=[]})
  | some L=>({m with b8:=w,reqs:=L},x)
def g7.take(m:g7)(t:dR):g7 × (sX × Int):=
 if iM t=false then (m,(⟨0,[],[]⟩,1))
 else if t.aI≠m.at_+1\/m.b8.waits t.kind t.mark=true then (m,(⟨0,[],[]⟩,10))
 else if t.kind=1 then let r:=({m with at_:=t.aI}:g7).wU t;(r.1,(r.2,0))
 else if t.kind=3 then let r:=({m with at_:=t.aI}:g7).high t;(r.1,(r.2,0))
 else ({m with at_:=t.aI,b8:=m.b8.low t.mark},(⟨t.aI,[],[]⟩,0))
def lz(L:List Rq):List Rq:=L.filter λr=>!r.done
structure gF where
 k:fR
 m:g7
 d:g_
 n:Int
def oE(m:g7):Bool:=decide (m.b8.state=1\/m.b8.state=2\/(m.b8.state=0/\lz m.reqs≠[]))
def kY(d:g_)(L:List Rq):g_:=(lz L).foldl (λd r=>d.add r.id r.weight) ((L.filter (·.done)).foldl (λd r=>d.del r.id) d)
def wy(L:List Rq)(id:Int):Option Rq:=if id<1 then none else L[(id-1).toNat]?
def gF.wk(p:gF)(r:Rq):gF × (Int × Int):=
 if (p.k.mL 2 (b9 p.k.g.bR+1)).2.2≠0 then ({p with k:=(p.k.mL 2 (b9 p.k.g.bR+1)).1},(0,(p.k.mL 2 (b9 p.k.g.bR+1)).2.2))
 else ({p with k:=(p.k.mL 2 (b9 p.k.g.bR+1)).1,m:={p.m with b8:=p.m.b8.pA (b9 p.k.g.bR+1) r.id r.table r.h_}},(3,0))
def gF.uB(p:gF)(x:g_ × Int):gF × (Int × Int):=match wy p.m.reqs x.2 with
 | none=>({p with d:=x.1},(0,0))
 | some r=>({p with d:=x.1}:gF).wk r
def gF.xM(p:gF):gF × (Int × Int):=p.uB (kY p.d p.m.reqs).next
def gF.xm(p:gF):gF × (Int × Int):=
 let y:=p.k.mL 3 p.m.b8.mark
 if y.2.2≠0 then ({p with k:=y.1},(0,y.2.2)) else ({p with k:=y.1,m:={p.m with b8:=p.m.b8.shut}},(5,0))
def gF.step(p:gF):gF × (Int × Int):=
 if oE p.m=false then (p,(0,0))
 else if p.m.b8.state=0 then p.xM
 else if p.m.b8.state=1 then ({p with m:={p.m with b8:=p.m.b8.fill (p.k.s9 p.m.b8.table p.m.b8.after p.n)}},(4,0))
 else p.xm
theorem aR3{R:List PF}{L0:List fW}{f n:Int}{s:fW}{last:Bool}{x:PF}(hx:ij PF.id R f=some x)(hb:x.b=nj s)(h1:s.file=f)(h2:s.first=n)(h3:s.size=(nj s).length)(h4:∀p∈s.l,p.length<=1048576)
  (n1:1<=n) (n2:n+s.l.length<=1099511627776) (hl:last=false->s.l≠[]) (h0:L0=[]\/b9 L0+1=n):l9 L0 R f last=((true,true),L0++[s]):=by
 unfold l9
 rw[hx]
 simp only[Option.map_some,Option.getD_some,hb]
 have hr:jK (nj s)=some (s.first,s.l,(nj s).length):=by
  have:=bFb (n:=s.first.toNat) (l:=s.l) (by omega) (by omega) h4
  unfold nj
  rw[this]
  congr 2;omega
 rw[hr]
 have hs:(⟨f,s.first,(nj s).length,s.l⟩:fW)=s:=by
  obtain⟨a,b,c,d⟩:=s
  simp only at h1 h3
  simp[<- h1,<- h3]
 simp only
 rw[if_neg,hs]
 rintro (⟨e1,e2⟩|⟨e1,e2⟩|e)
 ·rcases e2 with e2|e2
  ·exact e2 rfl
  ·exact hl e1 (List.eq_nil_of_length_eq_zero e2)
 ·rcases h0 with rfl|h0
  ·simp at e1
  ·omega
 ·omega
def uY(prev:Option Int)(f:Int):Bool:=match prev with
 | none=>false
 | some g=>decide (f≠g+1)
theorem CL(R:List PF)(f:Int)(r:List Int)(prev:Option Int)(L:List fW)(wh:Bool):mK R (f::r) prev L wh =
  if (l9 L R f r.isEmpty).1.2=false then none else if uY prev f=true then none else mK R r (some f) (l9 L R f r.isEmpty).2 (l9 L R f r.isEmpty).1.1:=rfl
theorem Sv(R:List PF):∀(r:List fW) (f n:Int) (L0:List fW) (prev:Option Int) (ids:List Int) (wh:Bool),lB f n r->(∀s∈r,∃x,ij PF.id R s.file=some x/\x.b=nj s)->(L0=[]\/b9 L0+1=n)->(prev=none\/prev=some (f-1))->1<=n->n+(iK r).length<=1099511627776->(ids≠[]->∀s∈r,s.l≠[]) ->
  mK R (r.map fW.file++ids) prev L0 wh=mK R ids (if r=[] then prev else some (f+r.length-1)) (L0++r) (if r=[] then wh else true)
 | [],f,n,L0,prev,ids,wh,_,_,_,_,_,_,_=>by simp
 | s::r,f,n,L0,prev,ids,wh,hc,hg,h0,hp,n1,n2,hi=>by
  obtain⟨h1,h2,h3,h4,h5,h6⟩:=hc
  obtain⟨x,hx,hb⟩:=hg s (.head _)
  rw[w5,List.length_append]at n2
  have o6:l9 L0 R s.file (r.map fW.file++ids).isEmpty=((true,true),L0++[s]):=by
   refine aR3 hx hb rfl h2 h3 h4 n1 (by omega) (λhl=>?_) h0
   by_cases hr:r=[]
   ·subst hr
    refine hi (λe=>?_) s (.head _)
    subst e;simp at hl
   ·exact h5 hr
  rw[List.map_cons,List.cons_append,CL]
  simp only[o6]
  rw[if_neg (by simp),if_neg ?_]
  ·rw[Sv R r (f+1) (n+s.l.length) (L0++[s]) (some s.file) ids true h6 (λt ht=>hg t (.tail _ ht)) (.inr ?_) (.inr (by rw[h1];congr 1;omega)) (by omega) (by omega) (λhd t ht=>hi hd t (.tail _ ht))]
   ·rw[if_neg (by simp:¬(s::r=[])),if_neg (by simp:¬(s::r=[])),List.append_assoc]
    by_cases hr:r=[]
    ·subst hr;simp[h1]
    ·rw[if_neg hr,if_neg hr]
     congr 2
     simp;omega
   ·unfold b9
    rw[List.getLast?_concat]
    simp only[fW.next];omega
  ·rcases hp with rfl|rfl
   ·simp[uY]
   ·simp[uY,h1]
theorem aIf{R:List PF}{f base:Int}(h:sU f R)(h1:base<=f)(h2:f+R.length<=base+4096):jD base R=R.map PF.id:=by
 unfold jD
 rw[List.filter_eq_self]
 intro a ha
 obtain⟨x,hx,rfl⟩:=List.mem_map.1 ha
 have:=h.mem hx
 simp only[decide_eq_true_eq];omega
theorem Xt{f n:Int}{L:List fW}{R:List PF}(hR:sU f R)(hs:∀s∈L,mh s∈R):∀s∈L,∃x,ij PF.id R s.file=some x/\x.b=nj s:=λs h=>⟨mh s,Aq hR.sorted (hs s h),rfl⟩
theorem aWi(L:List fW):(L.map mh).map PF.id=L.map fW.file:=by rw[List.map_map];rfl
theorem a7w{d:DS}{L:List fW}{f n base size:Int}(hc:lB f n L)(hR:d.R=L.map mh)(tC:d.off=false)(b0:0<=base)(b1:base<=12288)(s0:64<=size)(s1:size<=65536)(hf:base<=f)(hf2:f+L.length<=base+4096)
  (n1:1<=n) (n2:n+(iK L).length<=1099511627776):kE d base size=(d,.ok ⟨L,base,size,none⟩):=by
 have Ay:=hc.Af
 have Ca:jD base d.R=L.map fW.file:=by
  rw[hR,aIf Ay hf (by rw[List.length_map];exact hf2),aWi]
 have hl:=Sv d.R L f n [] none [] true hc (Xt (f:=f) (n:=n) (by rw[hR];exact Ay) (λs hs=>by rw[hR];exact List.mem_map.2 ⟨s,hs,rfl⟩)) (.inl rfl) (.inl rfl) n1 n2 (λh=>absurd rfl h)
 rw[List.append_nil]at hl
 unfold kE
 rw[if_neg (by omega),if_neg (by simp[tC]),Ca,hl]
 simp only[mK,List.nil_append]
 have hb:lr L d (L.map fW.file) (if L=[] then true else true)=(d,0):=by
  unfold lr
  rcases List.eq_nil_or_concat L with rfl|⟨A,s,rfl⟩
  ·rfl
  ·simp only[List.concat_eq_append,List.map_append,List.map_cons,List.map_nil,List.getLast?_concat]
   rw[if_neg (by simp),if_neg]
   have nU:=(hc.bl s (by simp)).1
   have:ij PF.id d.R s.file=some (mh s):=by
    rw[hR]
    exact Aq (x:=mh s) Ay.sorted (by simp)
   unfold pS r8
   rw[this,List.getLast?_concat]
   simp only[mh,nU];omega
 rw[hb]
 simp
theorem lB.Er:∀{f n:Int} {L:List fW},lB f n L->L.length<=(iK L).length+1
 | f,n,[],_=>by simp
 | f,n,[s],_=>by simp
 | f,n,s::t::L,h=>by
  obtain⟨_,_,_,_,h5,h6⟩:=h
  have:=h6.Er
  have h0:s.l.length≠0:=λe=>h5 (by simp) (List.eq_nil_of_length_eq_zero e)
  rw[w5,List.length_append,List.length_cons]
  omega
structure sW(g:g8)(d:DS)(f n:Int)(es:List (List UInt8)):Prop where
 chain:lB f n g.bR
 nT:iK g.bR=es
 files:d.R=g.bR.map mh
 nil:g.bR=[]->f=g.base/\n=1
 base:g.base<=f
 b0:0<=g.base
 b1:g.base<=12288
 s0:64<=g.size
 s1:g.size<=65536
 n1:1<=n
 fi:f+es.length+2<=g.base+4096
 off:d.off=false
 ia:g.ia=none
theorem sW.head{g:g8}{d:DS}{f n:Int}{es:List (List UInt8)}(h:sW g d f n es):b9 g.bR=n+es.length-1:=by
 by_cases hL:g.bR=[]
 ·have:=h.nil hL
  have e:=h.nT
  rw[hL]at e ⊢
  rw[<- e,this.2];rfl
 ·rw[h.chain.head hL,h.nT]
structure y'(g:g8)(f n:Int)(es:List (List UInt8))(p:List UInt8)(x:lI)(A:List fW)(l0:List (List UInt8))(pre:List UInt8):Prop where
 chain:lB f n A
 full:∀s∈A,s.l≠[]
 file:x.file=f+A.length
 nT:iK A++l0=es
 bl:∀q∈l0,q.length<=1048576
 all:pre++x.b=mC (jN (n+(iK A).length).toNat::(l0++[p]))
 a_g:l0=[]\/pre=mC (jN (n+(iK A).length).toNat::l0)
 app:∀t,nE (g.bR.map mh) x.file t=A.map mh++[⟨x.file,pre.length,pre++t⟩]
 put:lB f n (lM g.bR x p)
 Tj:iK (lM g.bR x p)=es++[p]
 a_j:(lM g.bR x p).map mh=A.map mh++[⟨x.file,(pre++x.b).length,pre++x.b⟩]
 oD:lM g.bR x p≠[]
 a_i:∀s∈lM g.bR x p,s.l≠[]
 pos:0<x.b.length
 len:x.b.length<=27+p.length
 fresh:x.fresh=true->g.bR=A/\pre=[]
 sN:x.fresh=false->g.bR.map mh=A.map mh++[⟨x.file,pre.length,pre⟩]/\r8 g.bR=pre.length
theorem a_e{g:g8}{d:DS}{f n:Int}{es:List (List UInt8)}(h:sW g d f n es){p:List UInt8}(hp:p.length<=1048576)(hn:n+es.length<=100000):∃x A l0 pre,jV g false p= .ok x/\y' g f n es p x A l0 pre:=by
 have hh:=h.head
 have hc:=h.chain
 have hle:=hc.Er
 rw[h.nT]at hle
 have vd:=h.fi
 have tB:=h.n1
 have Hs:=hc.Af.sorted
 have Rb:∀F:Int,F=f+g.bR.length->(∀s∈g.bR,s.l≠[])->∃x A l0 pre,m8 g F p= .ok x/\y' g f n es p x A l0 pre:=by
  intro F hF GZ
  have e1:(b9 g.bR+1).toNat=(n+(iK g.bR).length).toNat:=by rw[hh,h.nT];congr 1;omega
  have nz:lM g.bR ⟨F,true,gR (jN (b9 g.bR+1).toNat)++gR p⟩ p=g.bR++[⟨F,b9 g.bR+1,(gR (jN (b9 g.bR+1).toNat)++gR p).length,[p]⟩]:=by
   unfold lM
   simp
  have iz:gR (jN (b9 g.bR+1).toNat)++gR p=mC (jN (n+(iK g.bR).length).toNat::[p]):=by rw[e1,EJ,EJ];simp[mC]
  refine⟨⟨F,true,gR (jN (b9 g.bR+1).toNat)++gR p⟩,g.bR,[],[],?_,hc,GZ,hF,by rw[List.append_nil];exact h.nT,by simp,?_,.inl rfl,λt=>?_,?_,?_,?_,?_,?_,?_,?_,λ_=>⟨rfl,rfl⟩,λe=>by cases e⟩
  ·unfold m8
   rw[if_neg (by omega)]
  ·exact iz
  ·refine Vk Hs (λy hy=>?_) t
   have:=hc.Af.mem hy
   rw[List.length_map]at this
   show y.id<F
   omega
  ·rw[nz]
   refine lB.app.2 ⟨hc,λ_=>GZ,hF,?_,?_,by simpa using hp,λh=>absurd rfl h,trivial⟩
   ·show b9 g.bR+1=_
    rw[hh,h.nT];omega
   ·show (gR (jN (b9 g.bR+1).toNat)++gR p).length=(nj _).length
    unfold nj
    rw[iz,e1]
  ·rw[nz,BM,h.nT];simp[iK]
  ·rw[nz,List.map_append,List.nil_append]
   congr 1
   simp only[List.map_cons,List.map_nil,mh,nj]
   rw[iz,e1]
  ·rw[nz];simp
  ·rw[nz]
   intro s hs
   rcases List.mem_append.1 hs with hs|hs
   ·exact GZ s hs
   ·rw[List.mem_singleton.1 hs];simp
  ·show 0<(gR (jN (b9 g.bR+1).toNat)++gR p).length
   rw[List.length_append,oF];omega
  ·show (gR (jN (b9 g.bR+1).toNat)++gR p).length<=_
   rw[List.length_append,oF,oF,u7];omega
 unfold jV
 rw[if_neg (by omega),if_neg (by simp),if_neg (by omega)]
 rcases List.eq_nil_or_concat g.bR with hL|⟨A,s,hL⟩
 ·have Co:=h.nil hL
  rw[hL]
  simp only[List.getLast?_nil]
  exact Rb g.base (by rw[hL];simp;omega) (by rw[hL];simp)
 ·rw[List.concat_eq_append]at hL
  have XS:g.bR.getLast?=some s:=by rw[hL,List.getLast?_concat]
  rw[XS]
  simp only
  rw[hL]at hc
  obtain⟨h1,h2,c1,c2,c3,c4,c5,c6⟩:=lB.app.1 hc
  have DW:=h2 (by simp)
  by_cases Az:s.l.length=0\/(s.size:Int)+(gR p).length<=g.size
  ·rw[if_pos Az]
   have nz:lM g.bR ⟨s.file,false,gR p⟩ p=A++[{s with size:=s.size+(gR p).length,l:=s.l++[p]}]:=by
    unfold lM
    rw[if_neg (by simp)]
    simp only[hL,List.dropLast_concat,List.getLast?_concat]
    rfl
   have iz:nj s++gR p=mC (jN (n+(iK A).length).toNat::(s.l++[p])):=by
    unfold nj
    rw[c2,<- List.cons_append,Ty]
   have PA:nj {s with size:=s.size+(gR p).length,l:=s.l++[p]}=nj s++gR p:=by
    unfold nj
    rw[<- List.cons_append,Ty]
   refine⟨⟨s.file,false,gR p⟩,A,s.l,nj s,rfl,h1,DW,c1,?_,c4,iz,.inr (by unfold nj;rw[c2]),λt=>?_,?_,?_,?_,?_,?_,?_,?_,λe=>(by cases e),λ_=>⟨?_,?_⟩⟩
   ·rw[<- h.nT,hL,BM];simp[iK]
   ·rw[hL,List.map_append]at Hs ⊢
    exact Vj (x:=mh s) Hs t
   ·rw[nz]
    refine lB.app.2 ⟨h1,λ_=>DW,c1,c2,?_,λq hq=>?_,λh=>absurd rfl h,trivial⟩
    ·rw[PA,List.length_append,<- c3]
    ·rcases List.mem_append.1 hq with hq|hq
     ·exact c4 q hq
     ·rw[List.mem_singleton.1 hq];exact hp
   ·rw[nz,BM,<- h.nT,hL,BM];simp[iK]
   ·rw[nz,List.map_append]
    simp only[List.map_cons,List.map_nil,mh,PA]
   ·rw[nz];simp
   ·rw[nz]
    intro t ht
    rcases List.mem_append.1 ht with ht|ht
    ·exact DW t ht
    ·rw[List.mem_singleton.1 ht];simp
   ·show 0<(gR p).length
    rw[oF];omega
   ·show (gR p).length<=_
    rw[oF];omega
   ·rw[hL,List.map_append];rfl
   ·unfold r8;rw[hL,List.getLast?_concat];show ((s.size:Nat):Int)=_;rw[c3]
  ·rw[if_neg Az]
   refine Rb (s.file+1) (by rw[hL,c1];simp;omega) (by
    intro t ht
    rw[hL]at ht
    rcases List.mem_append.1 ht with ht|ht
    ·exact DW t ht
    ·rw[List.mem_singleton.1 ht]
     intro e
     exact Az (.inl (by rw[e];rfl)))
def JE(d:DS)(f n:Int)(es:List (List UInt8))(p:List UInt8)(whole:Bool):Prop:=∃A l0 pre k,
 lB f n A/\(∀s∈A,s.l≠[])/\iK A++l0=es/\(∀q∈l0++[p],q.length<=1048576)/\(l0=[]\/pre=(mC (jN (n+(iK A).length).toNat::l0)).length)/\pre<=k/\k<=(mC (jN (n+(iK A).length).toNat::(l0++[p]))).length /\
 (whole=false->k<(mC (jN (n+(iK A).length).toNat::(l0++[p]))).length)/\d.R=A.map mh++[⟨f+A.length,pre,(mC (jN (n+(iK A).length).toNat::(l0++[p]))).take k⟩]
theorem y'.ia{g:g8}{f n:Int}{es:List (List UInt8)}{p:List UInt8}{x:lI}{A:List fW}{l0:List (List UInt8)}{pre:List UInt8}(h:y' g f n es p x A l0 pre)(hp:p.length<=1048576){d:DS}{m:Nat}{whole:Bool}(hm:m<=x.b.length)(hw:whole=false->m<x.b.length)
  (hR:d.R=nE (g.bR.map mh) x.file (x.b.take m)):JE d f n es p whole:=by
 have iz:=h.all
 have hl:(mC (jN (n+(iK A).length).toNat::(l0++[p]))).length=pre.length+x.b.length:=by rw[<- iz,List.length_append]
 refine⟨A,l0,pre.length,pre.length+m,h.chain,h.full,h.nT,λq hq=>?_,?_,by omega,by omega,λe=>by have:=hw e;omega,?_⟩
 ·rcases List.mem_append.1 hq with hq|hq
  ·exact h.bl q hq
  ·rw[List.mem_singleton.1 hq];exact hp
 ·rcases h.a_g with h1|h1
  ·exact .inl h1
  ·exact .inr (by rw[h1])
 ·rw[hR,h.app,<- iz,List.take_length_add_append,h.file]
theorem y'.may{g:g8}{d:DS}{f n:Int}{es:List (List UInt8)}{p:List UInt8}{x:lI}{A:List fW}{l0:List (List UInt8)}{pre:List UInt8}(h:y' g f n es p x A l0 pre)(hi:sW g d f n es){d':DS}(ho:d'.off=false):may d' x.file=0/\0<=x.file/\x.file<16384:=by
 have h1:=h.chain.Er
 have h2:(iK A).length+l0.length=es.length:=by rw[<- h.nT,List.length_append]
 have:=hi.fi
 have:=hi.base
 have:=hi.b0
 have:=hi.b1
 have h3:=h.file
 refine⟨?_,by omega,by omega⟩
 unfold Go.Proofs.YtfenmffiidchcaaGreat.may
 rw[if_neg (by simp[ho]),if_neg (by omega)]
theorem FB{g:g8}{d a s:DS}{p:List UInt8}{x:lI}{e1 e2:Int}(hp:jV g d.off p= .ok x)(hm:g6 g d=((g,d),0))(ha:d.append x.file x.b=(a,e1))(hs:a.sync x.file=(s,e2)):
  j6 g d p=if e1≠0 then ((g,a),(0,e1)) else if e2≠0 then ((g,s),(0,e2)) else (({g with bR:=lM g.bR x p},s),(b9 (lM g.bR x p),0)):=by
 unfold j6
 rw[hp]
 simp only[hm]
 rw[if_neg (by decide),ha]
 simp only[hs]
theorem append_eq{d:DS}{f:Int}{b:List UInt8}(hm:may d f=0):d.append f b=({d.f' with R:=nE d.R f b},d.f'.err):=by
 unfold DS.append
 rw[if_neg (by simp[hm])]
theorem Vs{g:g8}{d:DS}{f n:Int}{es:List (List UInt8)}(h:sW g d f n es){p:List UInt8}(hp:p.length<=1048576)(hn:n+es.length<=100000)(vd:f+es.length+3<=g.base+4096)(ha:0<=d.arm):
  (∃g' d',j6 g d p=((g',d'),(n+es.length,0))/\sW g' d' f n (es++[p])/\d'.ops=d.ops+2/\0<=d'.arm/\(d.arm=0->d'.arm=0)/\g'.base=g.base/\g'.size=g.size/\(∀s∈g'.bR,s.l≠[])/\d.arm≠1/\d.arm≠2) \/
  (∃d',j6 g d p=((g,d'),(0,8))/\JE d' f n es p true/\d'.off=true/\d'.ops<=d.ops+2/\d.arm≠0):=by
 obtain⟨x,A,l0,pre,jO,hr⟩:=a_e h hp hn
 have tC:=h.off
 have hm:g6 g d=((g,d),0):=by unfold g6;rw[h.ia]
 obtain⟨wc,f0,f1⟩:=hr.may h tC
 have um:=append_eq (b:=x.b) wc
 by_cases h1:d.arm=1
 ·right
  have e:d.f'.off=true:=by simp[DS.f',h1]
  refine⟨{d.f' with R:=nE d.R x.file x.b},?_,hr.ia hp (m:=x.b.length) (Nat.le_refl _) (λe=>by cases e) (by rw[List.take_length,h.files]),e,by simp[DS.f'],by omega⟩
  have e2:d.f'.err=8:=by unfold DS.err;rw[e];rfl
  rw[FB (by rw[tC];exact jO) hm um rfl,e2]
  rfl
 ·have e:d.f'.off=false:=by simp[DS.f',h1]
  have e2:d.f'.err=0:=by unfold DS.err;rw[e];rfl
  have PU:=hr.app x.b
  rw[<- h.files]at PU
  let d1:DS:={d.f' with R:=nE d.R x.file x.b}
  have Ay:sU f (A.map mh++[⟨x.file,pre.length,pre++x.b⟩]):=hr.chain.Af.snoc (by rw[List.length_map];exact hr.file)
  have sD:d1.R=A.map mh++[⟨x.file,pre.length,pre++x.b⟩]:=PU
  have Ra:d1.find x.file=0:=by
   unfold DS.find
   rw[if_neg (by rw[(hr.may h (d':=d1) e).1];simp)]
   have hs:=Ay.sorted
   rw[sD,if_pos (Se (x:=⟨x.file,pre.length,pre++x.b⟩) hs)]
  rw[e2]at um
  by_cases h2:d.arm=2
  ·right
   have e3:d1.f'.off=true:=by simp[DS.f',d1,h2]
   have Hu:d1.sync x.file=(d1.f',8):=by
    unfold DS.sync
    rw[if_neg (by simp[Ra]),if_pos e3]
   rw[FB (by rw[tC];exact jO) hm um Hu]
   refine⟨d1.f',rfl,hr.ia hp (m:=x.b.length) (Nat.le_refl _) (λe=>by cases e) (by rw[List.take_length,<- h.files];rfl),e3,by simp[DS.f',d1],by omega⟩
  ·left
   have PW:d1.arm=if 0<d.arm then d.arm-1 else d.arm:=rfl
   have e3:d1.f'.off=false:=decide_eq_false (by rw[PW];split<;>omega)
   have b_1:0<=d1.arm:=by rw[PW];split<;>omega
   have Hu:d1.sync x.file=({d1.f' with R:=nN d1.R x.file λy=>{y with safe:=y.b.length}},0):=by
    unfold DS.sync
    rw[if_neg (by simp[Ra]),if_neg (by simp[e3])]
   rw[FB (by rw[tC];exact jO) hm um Hu]
   have nu:=hr.put
   have hup:nN d1.R x.file (λy=>{y with safe:=y.b.length})=(lM g.bR x p).map mh:=by
    rw[sD,bWo (x:=⟨x.file,pre.length,pre++x.b⟩) Ay.sorted,hr.a_j]
   refine⟨{g with bR:=lM g.bR x p},{d1.f' with R:=nN d1.R x.file λy=>{y with safe:=y.b.length}},?_,⟨nu,hr.Tj,hup,λe=>absurd e hr.oD,h.base,h.b0,h.b1,h.s0,h.s1,h.n1,?_,e3,h.ia⟩,by simp[DS.f',d1],?_,λh0=>by simp[DS.f',d1,h0],rfl,rfl,hr.a_i,h1,h2⟩
   ·have:b9 (lM g.bR x p)=n+es.length:=by
     rw[nu.head hr.oD,hr.Tj,List.length_append]
     simp;omega
    rw[if_neg (by decide),if_neg (by decide),this]
   ·show f+((es++[p]).length:Int)+2<=g.base+4096
    rw[List.length_append]
    simp;omega
   ·show 0<=if 0<d1.arm then d1.arm-1 else d1.arm
    split<;>omega
theorem Ti{g:g8}{off:Bool}{p:List UInt8}{x:lI}(h:jV g off p= .ok x):x.b.length<=27+p.length:=by
 have hf:∀F,m8 g F p= .ok x->x.b.length<=27+p.length:=λF h=>by
  unfold m8 at h
  split at h
  ·cases h
  ·cases h
   simp only[List.length_append,oF,u7];omega
 unfold jV at h
 split at h
 ·cases h
 ·split at h
  ·cases h
  ·split at h
   ·cases h
   ·split at h
    ·exact hf _ h
    ·split at h
     ·cases h
      simp only[oF];omega
     ·exact hf _ h
theorem H0{g:g8}{d:DS}{N:Nat}(h:d.Ok N):(g6 g d).1.2.Ok N:=by
 unfold g6
 split
 ·exact h
 ·simp only
  split
  ·exact h.remove _
  ·exact h.cut _ _
theorem Vp{g:g8}{d:DS}{N:Nat}(h:d.Ok N)(p:List UInt8):(j6 g d p).1.2.Ok (N+(27+p.length)):=by
 unfold j6
 split
 ·exact h.mono (by omega)
 ·rename_i x hx
  have hl:=Ti hx
  have hm:=H0 (g:=g) h
  simp only
  split
  ·exact hm.mono (by omega)
  ·have ha:=(hm.append x.file x.b).mono (M:=N+(27+p.length)) (by omega)
   split
   ·exact ha
   ·have hs:=ha.sync x.file
    split
    ·exact hs
    ·exact hs
theorem FG{L:List fW}{d:DS}{ids:List Int}{wh:Bool}{N:Nat}(h:d.Ok N):(lr L d ids wh).1.Ok N:=by
 unfold lr
 split
 ·exact h
 ·split
  ·exact h.remove _
  ·split
   ·exact h.cut _ _
   ·exact h
theorem Tb{d:DS}{base size:Int}{N:Nat}(h:d.Ok N):(kE d base size).1.Ok N:=by
 unfold kE
 split
 ·exact h
 ·split
  ·exact h
  ·split
   ·exact h
   ·split
    ·exact FG h
    ·exact FG h
theorem mO.mono{s:fW}{N M:Nat}(h:mO s N)(hm:N<=M):mO s M:=⟨h.f0,h.f1,h.n0,h.n1,Nat.le_trans h.sz hm,Nat.le_trans h.ln hm,h.bl⟩
theorem g8.Ok.mono{g:g8}{N M:Nat}(h:g.Ok N)(hm:N<=M):g.Ok M:=⟨λs hs=>(h.bR s hs).mono hm,h.b0,h.b1,h.s0,h.s1,Nat.le_trans h.ln hm⟩
theorem g8.Ok.congr{g g':g8}{N:Nat}(h:g.Ok N)(h1:g'.bR=g.bR)(h2:g'.base=g.base)(h3:g'.size=g.size):g'.Ok N:=
 ⟨by rw[h1];exact h.bR,by rw[h2];exact h.b0,by rw[h2];exact h.b1,by rw[h3];exact h.s0,by rw[h3];exact h.s1,by rw[h1];exact h.ln⟩
theorem wm(g:g8)(d:DS):(g6 g d).1.1.bR=g.bR/\(g6 g d).1.1.base=g.base/\(g6 g d).1.1.size=g.size:=by
 unfold g6;split<;>exact⟨rfl,rfl,rfl⟩
theorem HZ{g:g8}{d:DS}{N:Nat}(h:g.Ok N):(g6 g d).1.1.Ok N:=let ⟨a,b,c⟩:=wm g d;h.congr a b c
structure z_(g:g8)(p:List UInt8)(x:lI):Prop where
 pl:p.length<=1048576
 hd:b9 g.bR<1099511627776
 sN:x.fresh=false->∃s,g.bR.getLast?=some s/\x.file=s.file
 f0:x.fresh=true->0<=x.file/\x.file<=100000
 bl:x.b.length<=27+p.length
 pos:8<=x.b.length
theorem Is{g:g8}{N:Nat}(h:g.Ok N){off:Bool}{p:List UInt8}{x:lI}(hx:jV g off p= .ok x):z_ g p x:=by
 have hb:=Ti hx
 have h0:=h.b0
 have h1:=h.b1
 have hp:p.length<=1048576:=by
  unfold jV at hx
  split at hx
  ·cases hx
  ·omega
 have xj:∀F,0<=F->b9 g.bR<1099511627776->m8 g F p= .ok x->z_ g p x:=λF hF hd hx=>by
  unfold m8 at hx
  split at hx
  ·cases hx
  ·cases hx
   exact⟨hp,hd,λe=>(by cases e),λ_=>⟨hF,by show F<=100000;omega⟩,hb,by show 8<=(gR _++gR p).length;rw[List.length_append,oF];omega⟩
 unfold jV at hx
 rw[if_neg (by omega)]at hx
 split at hx
 ·cases hx
 ·split at hx
  ·cases hx
  ·rename_i hd
   have hd:b9 g.bR<1099511627776:=by omega
   split at hx
   ·exact xj _ h0 hd hx
   ·rename_i s hs
    split at hx
    ·cases hx
     exact⟨hp,hd,λ_=>⟨s,hs,rfl⟩,λe=>(by cases e),hb,by show 8<=(gR p).length;rw[oF];omega⟩
    ·have:=(h.bR s (List.mem_of_getLast? hs)).f0
     exact xj _ (by omega) hd hx
def sL(L:List fW)(x:lI):List fW:=if x.fresh=true then L++[⟨x.file,b9 L+1,0,[]⟩] else L
def s6(s:fW)(n:Nat)(p:List UInt8):fW:={s with size:=s.size+n,l:=s.l++[p]}
theorem A6(L:List fW)(x:lI)(p:List UInt8){A:List fW}{s:fW}(h:sL L x=A++[s]):lM L x p=A++[s6 s x.b.length p]:=by
 unfold lM
 have:(if x.fresh=true then L++[⟨x.file,b9 L+1,0,[]⟩] else L)=A++[s]:=h
 rw[this]
 simp only[List.dropLast_concat,List.getLast?_concat]
 rfl
theorem EE{g:g8}{p:List UInt8}{x:lI}(h:z_ g p x):∃A s,sL g.bR x=A++[s]:=by
 unfold sL
 cases hf:x.fresh with
 | true=>exact⟨_,_,rfl⟩
 | false=>
  obtain⟨s,hs,_⟩:=h.sN hf
  obtain⟨A,hA⟩:=List.getLast?_eq_some_iff.1 hs
  exact⟨A,s,by rw[if_neg (by decide)];exact hA⟩
theorem Ib{g:g8}{N:Nat}(hg:g.Ok N){p:List UInt8}{x:lI}(h:z_ g p x):∀s∈sL g.bR x,mO s N:=by
 intro s hs
 unfold sL at hs
 split at hs
 ·rename_i hf
  rcases List.mem_append.1 hs with hs|hs
  ·exact hg.bR s hs
  ·rw[List.mem_singleton.1 hs]
   have:=u_ hg.bR
   have:=h.hd
   exact⟨(h.f0 hf).1,(h.f0 hf).2,by show 1<=b9 g.bR+1;omega,by show b9 g.bR+1<=_;omega,Nat.zero_le _,Nat.zero_le _,λb hb=>by cases hb⟩
 ·exact hg.bR s hs
theorem aWx(L:List fW)(x:lI):(sL L x).length<=L.length+1:=by
 unfold sL;split<;>simp
theorem It{g:g8}{N:Nat}(hg:g.Ok N){p:List UInt8}{x:lI}(h:z_ g p x):(∀s∈lM g.bR x p,mO s (N+(28+p.length)))/\(lM g.bR x p).length<=N+1:=by
 obtain⟨A,s,hA⟩:=EE h
 have b5:=Ib hg h
 have hl:=aWx g.bR x
 have hn:=hg.ln
 rw[A6 _ _ _ hA]
 rw[hA]at b5 hl
 refine⟨λt ht=>?_,by simp at hl ⊢;omega⟩
 rcases List.mem_append.1 ht with ht|ht
 ·exact (b5 t (List.mem_append_left _ ht)).mono (by omega)
 ·rw[List.mem_singleton.1 ht]
  have hs:=b5 s (by simp)
  have:=hs.sz
  have:=hs.ln
  have:=h.bl
  refine⟨hs.f0,hs.f1,hs.n0,hs.n1,by show s.size+x.b.length<=_;omega,by show (s.l++[p]).length<=_;simp;omega,λb hb=>?_⟩
  rcases List.mem_append.1 hb with hb|hb
  ·exact hs.bl b hb
  ·rw[List.mem_singleton.1 hb];exact h.pl
structure jJ(lo hi:Int)(A B M:List PF):Prop where
 a:∀x∈A,x.id<lo
 m:∀x∈M,lo<=x.id/\x.id<hi
 b:∀x∈B,hi<=x.id
def kQ(A B:List PF)(d:DS):DS:={d with R:=A++d.R++B}
section
variable {lo hi:Int} {A B M:List PF}
theorem jJ.f'(h:jJ lo hi A B M){f:Int}(h1:lo<=f)(h2:f<hi):iI PF.id (A++M++B) f=A.length+iI PF.id M f:=by
 have eA:A.filter (λx=>decide (PF.id x<f))=A:=List.filter_eq_self.2 λx hx=>decide_eq_true (by have:=h.a x hx;omega)
 have eB:B.filter (λx=>decide (PF.id x<f))=[]:=List.filter_eq_nil_iff.2 λx hx=>by have:=h.b x hx;simp;omega
 unfold iI
 rw[List.filter_append,List.filter_append,eA,eB,List.append_nil,List.length_append]
theorem jJ.at_(h:jJ lo hi A B M)(c:Nat)(hc:c<=M.length):(A++M++B)[A.length+c]?=if c<M.length then M[c]? else B[0]?:=by
 rw[List.append_assoc,List.getElem?_append_right (by omega),show A.length+c-A.length=c by omega]
 split
 ·rw[List.getElem?_append_left (by omega)]
 ·rw[List.getElem?_append_right (by omega),show c-M.length=0 by omega]
theorem jJ.is(h:jJ lo hi A B M){f:Int}(h1:lo<=f)(h2:f<hi):j8 PF.id (A++M++B) f=j8 PF.id M f:=by
 unfold j8
 rw[h.f' h1 h2,h.at_ _ (Ae M f)]
 by_cases hc:iI PF.id M f<M.length
 ·rw[if_pos hc]
 ·rw[if_neg hc,List.getElem?_eq_none (l:=M) (by omega)]
  cases hB:B[0]? with
  | none=>rfl
  | some y=>
   have:=h.b y (List.mem_of_getElem? hB)
   simp;omega
theorem jJ.get(h:jJ lo hi A B M){f:Int}(h1:lo<=f)(h2:f<hi):ij PF.id (A++M++B) f=ij PF.id M f:=by
 unfold ij
 rw[h.is h1 h2]
 split
 ·rename_i hi
  obtain⟨hl,_⟩:=sJ hi
  rw[h.f' h1 h2,h.at_ _ (by omega),if_pos hl]
 ·rfl
theorem jJ.put(h:jJ lo hi A B M){x:PF}(h1:lo<=x.id)(h2:x.id<hi):lY PF.id (A++M++B) x=A++lY PF.id M x++B:=by
 have hc:=Ae (key:=PF.id) M x.id
 unfold lY
 rw[h.is h1 h2,h.f' h1 h2]
 have e1:(A++M++B).take (A.length+iI PF.id M x.id)=A++M.take (iI PF.id M x.id):=by
  rw[List.append_assoc,List.take_length_add_append,List.take_append_of_le_length hc]
 rw[e1]
 split
 ·rename_i hi
  obtain⟨hl,_⟩:=sJ hi
  rw[List.append_assoc A M B,Nat.add_assoc,List.drop_length_add_append,List.drop_append_of_le_length (by omega)]
  simp only[List.append_assoc]
 ·rw[List.append_assoc A M B,List.drop_length_add_append,List.drop_append_of_le_length hc]
  simp only[List.append_assoc]
theorem jJ.del(h:jJ lo hi A B M){f:Int}(h1:lo<=f)(h2:f<hi):nr PF.id (A++M++B) f=A++nr PF.id M f++B:=by
 unfold nr
 rw[h.is h1 h2]
 split
 ·rename_i hi
  obtain⟨hl,_⟩:=sJ hi
  rw[h.f' h1 h2,List.append_assoc,List.eraseIdx_append_of_length_le (by omega),show A.length+iI PF.id M f-A.length=iI PF.id M f by omega,List.eraseIdx_append_of_lt_length hl,List.append_assoc]
 ·rfl
theorem jJ.app(h:jJ lo hi A B M){f:Int}(h1:lo<=f)(h2:f<hi)(b:List UInt8):nE (A++M++B) f b=A++nE M f b++B:=by
 unfold nE
 rw[h.get h1 h2,h.put (x:=⟨f,_,_⟩) h1 h2]
theorem jJ.uH(h:jJ lo hi A B M){f:Int}(h1:lo<=f)(h2:f<hi)(g:PF->PF):nN (A++M++B) f g=A++nN M f g++B:=by
 unfold nN
 rw[h.get h1 h2]
 split
 ·rw[h.put (x:={g _ with id:=f}) h1 h2]
 ·rfl
theorem jJ.len(h:jJ lo hi A B M){f:Int}(h1:lo<=f)(h2:f<hi):pS (A++M++B) f=pS M f:=by
 unfold pS;rw[h.get h1 h2]
theorem jJ.Jg{M':List PF}(h:jJ lo hi A B M)(hm:∀x∈M',lo<=x.id/\x.id<hi):jJ lo hi A B M':=⟨h.a,hm,h.b⟩
theorem jJ.b9w(h:jJ lo hi A B M){f:Int}(h1:lo<=f)(h2:f<hi)(b:List UInt8):jJ lo hi A B (nE M f b):=h.Jg λx hx=>by
 rcases CN hx with rfl|hx
 ·exact⟨h1,h2⟩
 ·exact h.m x hx
theorem jJ.UF(h:jJ lo hi A B M){f:Int}(h1:lo<=f)(h2:f<hi)(g:PF->PF):jJ lo hi A B (nN M f g):=h.Jg λx hx=>by
 rcases EB hx with hx|⟨y,_,_,rfl⟩
 ·exact h.m x hx
 ·exact⟨h1,h2⟩
theorem jJ.b9x(h:jJ lo hi A B M)(f:Int):jJ lo hi A B (nr PF.id M f):=h.Jg λx hx=>h.m x (EA hx)
end
section
variable {lo hi:Int} {A B:List PF} {d:DS}
theorem R8(f:Int):may (kQ A B d) f=may d f:=rfl
theorem HM(h:jJ lo hi A B d.R){f:Int}(h1:lo<=f)(h2:f<hi):(kQ A B d).find f=d.find f:=by
 unfold DS.find
 rw[R8,show (kQ A B d).R=A++d.R++B from rfl,h.is h1 h2]
theorem aIs(h:jJ lo hi A B d.R){f:Int}(h1:lo<=f)(h2:f<hi)(b:List UInt8):(kQ A B d).append f b=(kQ A B (d.append f b).1,(d.append f b).2)/\jJ lo hi A B (d.append f b).1.R:=by
 unfold DS.append
 rw[R8]
 split
 ·exact⟨rfl,h⟩
 ·rw[show (kQ A B d).R=A++d.R++B from rfl,h.app h1 h2]
  exact⟨rfl,h.b9w h1 h2 b⟩
theorem aIt(h:jJ lo hi A B d.R){f:Int}(h1:lo<=f)(h2:f<hi):(kQ A B d).sync f=(kQ A B (d.sync f).1,(d.sync f).2)/\jJ lo hi A B (d.sync f).1.R:=by
 unfold DS.sync
 rw[HM h h1 h2]
 split
 ·exact⟨rfl,h⟩
 ·rw[show (kQ A B d).f'.off=d.f'.off from rfl]
  split
  ·exact⟨rfl,h⟩
  ·rw[show (kQ A B d).R=A++d.R++B from rfl,h.uH h1 h2]
   exact⟨rfl,h.UF h1 h2 _⟩
theorem R7(h:jJ lo hi A B d.R){f:Int}(h1:lo<=f)(h2:f<hi)(n:Int):(kQ A B d).cut f n=(kQ A B (d.cut f n).1,(d.cut f n).2)/\jJ lo hi A B (d.cut f n).1.R:=by
 unfold DS.cut
 rw[HM h h1 h2,show (kQ A B d).R=A++d.R++B from rfl,h.len h1 h2]
 split
 ·exact⟨rfl,h⟩
 ·split
  ·exact⟨rfl,h⟩
  ·rw[show (kQ A B d).f'.off=d.f'.off from rfl]
   split
   ·exact⟨rfl,h⟩
   ·rw[h.uH h1 h2]
    exact⟨rfl,h.UF h1 h2 _⟩
theorem R9(h:jJ lo hi A B d.R){f:Int}(h1:lo<=f)(h2:f<hi):(kQ A B d).remove f=(kQ A B (d.remove f).1,(d.remove f).2)/\jJ lo hi A B (d.remove f).1.R:=by
 unfold DS.remove
 rw[HM h h1 h2]
 split
 ·exact⟨rfl,h⟩
 ·rw[show (kQ A B d).f'.off=d.f'.off from rfl]
  split
  ·exact⟨rfl,h⟩
  ·rw[show (kQ A B d).R=A++d.R++B from rfl,h.del h1 h2]
   exact⟨rfl,h.b9x f⟩
structure x'(lo hi:Int)(g:g8):Prop where
 b0:lo<=g.base
 b1:g.base+4096<=hi
 bR:∀s∈g.bR,g.base<=s.file/\s.file<g.base+4096
 ia:∀x,g.ia=some x->g.base<=x.file/\x.file<g.base+4096
theorem a_d{g:g8}(h:x' lo hi g){off:Bool}{p:List UInt8}{x:lI}(hx:jV g off p= .ok x):g.base<=x.file/\x.file<g.base+4096:=by
 have hf:∀f,g.base<=f->m8 g f p= .ok x->g.base<=x.file/\x.file<g.base+4096:=λf hb hf=>by
  unfold m8 at hf
  split at hf
  ·cases hf
  ·cases hf;exact⟨hb,by dsimp only;omega⟩
 unfold jV at hx
 split at hx
 ·cases hx
 ·split at hx
  ·cases hx
  ·split at hx
   ·cases hx
   ·split at hx
    ·exact hf _ (Int.le_refl _) hx
    ·rename_i s hs
     have hs:=h.bR s (List.mem_of_getLast? hs)
     split at hx
     ·cases hx;exact hs
     ·exact hf _ (by omega) hx
theorem aWr{g:g8}(hg:x' lo hi g)(h:jJ lo hi A B d.R):g6 g (kQ A B d)=(((g6 g d).1.1,kQ A B (g6 g d).1.2),(g6 g d).2)/\jJ lo hi A B (g6 g d).1.2.R/\x' lo hi (g6 g d).1.1:=by
 unfold g6
 cases ht:g.ia with
 | none=>exact⟨rfl,h,hg⟩
 | some x=>
  have hx:=hg.ia x ht
  have h1:=hg.b0
  have h2:=hg.b1
  simp only
  split
  ·obtain⟨e,hw⟩:=R9 h (f:=x.file) (by omega) (by omega)
   rw[e]
   refine⟨rfl,hw,hg.b0,hg.b1,hg.bR,λy hy=>?_⟩
   simp only at hy
   split at hy
   ·cases hy
   ·cases hy;exact hx
  ·obtain⟨e,hw⟩:=R7 h (f:=x.file) (by omega) (by omega) x.oq
   rw[e]
   refine⟨rfl,hw,hg.b0,hg.b1,hg.bR,λy hy=>?_⟩
   simp only at hy
   split at hy
   ·cases hy
   ·cases hy;exact hx
theorem a_l{L:List fW}{x:lI}{p:List UInt8}{P:Int->Prop}(hL:∀s∈L,P s.file)(hx:P x.file):∀s∈lM L x p,P s.file:=by
 unfold lM
 have h1:∀s∈(if x.fresh=true then L++[⟨x.file,b9 L+1,0,[]⟩] else L),P s.file:=by
  split
  ·intro s hs
   rcases List.mem_append.1 hs with hs|hs
   ·exact hL s hs
   ·rw[List.mem_singleton.1 hs];exact hx
  ·exact hL
 intro s hs
 simp only at hs
 rcases List.mem_append.1 hs with hs|hs
 ·exact h1 s (List.dropLast_subset _ hs)
 ·obtain⟨y,hy,rfl⟩:=List.mem_map.1 hs
  exact h1 y (List.mem_of_getLast? (by simpa using hy))
theorem Vr{g:g8}(hg:x' lo hi g)(h:jJ lo hi A B d.R)(p:List UInt8):j6 g (kQ A B d) p=(((j6 g d p).1.1,kQ A B (j6 g d p).1.2),(j6 g d p).2)/\jJ lo hi A B (j6 g d p).1.2.R/\x' lo hi (j6 g d p).1.1:=by
 unfold j6
 rw[show (kQ A B d).off=d.off from rfl]
 cases hp:jV g d.off p with
 | error e=>exact⟨rfl,h,hg⟩
 | ok x=>
  have hx:=a_d hg hp
  have h1:=hg.b0
  have h2:=hg.b1
  obtain⟨em,hm,oY⟩:=aWr hg h
  simp only
  rw[em]
  simp only
  split
  ·exact⟨rfl,hm,oY⟩
  ·obtain⟨ea,ha⟩:=aIs hm (f:=x.file) (by omega) (by omega) x.b
   rw[ea]
   simp only
   split
   ·exact⟨rfl,ha,oY⟩
   ·obtain⟨es,hs⟩:=aIt ha (f:=x.file) (by omega) (by omega)
    rw[es]
    simp only
    split
    ·exact⟨rfl,hs,oY⟩
    ·refine⟨rfl,hs,oY.b0,oY.b1,?_,oY.ia⟩
     have GS:(g6 g d).1.1.base=g.base:=(wm g d).2.1
     show ∀s∈lM (g6 g d).1.1.bR x p,(g6 g d).1.1.base<=s.file/\s.file<(g6 g d).1.1.base+4096
     exact a_l (P:=λf=>(g6 g d).1.1.base<=f/\f<(g6 g d).1.1.base+4096) oY.bR (by rw[GS];exact hx)
theorem aIg{M:List PF}{base:Int}(h:jJ base (base+4096) A B M):jD base (A++M++B)=jD base M:=by
 have eA:(A.map PF.id).filter (λf=>decide (base<=f/\f<base+4096))=[]:=List.filter_eq_nil_iff.2 λf hf=>by
  obtain⟨x,hx,rfl⟩:=List.mem_map.1 hf
  have:=h.a x hx;simp;omega
 have eB:(B.map PF.id).filter (λf=>decide (base<=f/\f<base+4096))=[]:=List.filter_eq_nil_iff.2 λf hf=>by
  obtain⟨x,hx,rfl⟩:=List.mem_map.1 hf
  have:=h.b x hx;simp;omega
 unfold jD
 rw[List.map_append,List.map_append,List.filter_append,List.filter_append,eA,eB,List.nil_append,List.append_nil]
theorem aR5{M:List PF}{L:List fW}{f:Int}{last:Bool}(h:jJ lo hi A B M)(h1:lo<=f)(h2:f<hi):l9 L (A++M++B) f last=l9 L M f last:=by
 unfold l9;rw[h.get h1 h2]
theorem Su{M:List PF}(h:jJ lo hi A B M):∀(ids:List Int) (prev:Option Int) (L:List fW) (wh:Bool),(∀f∈ids,lo<=f/\f<hi)->mK (A++M++B) ids prev L wh=mK M ids prev L wh
 | [],_,_,_,_=>rfl
 | f::r,prev,L,wh,hi=>by
  unfold mK
  rw[aR5 h (hi f (.head _)).1 (hi f (.head _)).2]
  simp only
  rw[Su h r _ _ _ λf hf=>hi f (.tail _ hf)]
theorem RY{M:List PF}{base f:Int}(h:f∈jD base M):base<=f/\f<base+4096:=by
 unfold jD at h
 exact of_decide_eq_true (List.mem_filter.1 h).2
theorem VC{L:List fW}{base:Int}{ids:List Int}{wh:Bool}(h:jJ base (base+4096) A B d.R)(hi:∀f∈ids,base<=f/\f<base+4096):lr L (kQ A B d) ids wh=(kQ A B (lr L d ids wh).1,(lr L d ids wh).2)/\jJ base (base+4096) A B (lr L d ids wh).1.R:=by
 unfold lr
 cases hl:ids.getLast? with
 | none=>exact⟨rfl,h⟩
 | some f=>
  obtain⟨h1,h2⟩:=hi f (List.mem_of_getLast? hl)
  simp only
  split
  ·exact R9 h h1 h2
  ·rw[show (kQ A B d).R=A++d.R++B from rfl,h.len h1 h2]
   split
   ·exact R7 h h1 h2 _
   ·exact⟨rfl,h⟩
theorem a7r{base size:Int}(h:jJ base (base+4096) A B d.R):kE (kQ A B d) base size=(kQ A B (kE d base size).1,(kE d base size).2)/\jJ base (base+4096) A B (kE d base size).1.R:=by
 unfold kE
 split
 ·exact⟨rfl,h⟩
 ·rw[show (kQ A B d).off=d.off from rfl,show (kQ A B d).R=A++d.R++B from rfl,aIg h,Su h _ _ _ _ λf hf=>RY hf]
  split
  ·exact⟨rfl,h⟩
  ·split
   ·exact⟨rfl,h⟩
   ·rename_i L wh _
    obtain⟨e,hw⟩:=VC (L:=L) (wh:=wh) h λf hf=>RY hf
    rw[e]
    simp only
    split
    ·exact⟨rfl,hw⟩
    ·exact⟨rfl,hw⟩
end
def kZ(n:Nat)(l:List dR):kq:=(List.range n).map λt:Nat=>mA (t:Int) l
theorem uG(n:Nat)(l:List dR):(kZ n l).length=n:=by unfold kZ;simp
theorem EZ{n:Nat}(l:List dR)(t:Nat)(h:t<n):lk (kZ n l) t=mA (t:Int) l:=by
 rw[pY _ t (by rw[uG];exact h)]
 unfold kZ;simp
theorem bR4{ts:kq}{c:ig}(h:ki ts.length c=true)(t:Nat)(ht:t<ts.length):lk (mo ts c) t=vJ t (lk ts t) c:=by
 have hc:0<=c.table/\c.table<(ts.length:Int):=of_decide_eq_true h
 rw[pY _ t (by rw[wN];exact ht)]
 unfold mo vJ
 rw[List.getElem_set]
 by_cases e:c.table=t
 ·rw[if_pos (by omega),if_pos e,e];rfl
 ·rw[if_neg (by omega),if_neg e,pY ts t ht]
theorem Uh:∀{l:List ig} {ts:kq},(∀c∈l,ki ts.length c=true)->∀t:Nat,t<ts.length->lk (jz ts l) t=l.foldl (vJ t) (lk ts t)
 | [],ts,_,t,_=>rfl
 | c::l,ts,h,t,ht=>by
  show lk (jz (mo ts c) l) t=_
  rw[Uh (λx hx=>by rw[wN];exact h x (.tail _ hx)) t (by rw[wN];exact ht),bR4 (h c (.head _)) t ht]
  rfl
theorem bWb{a b:kq}(hl:a.length=b.length)(h:∀t:Nat,t<a.length->lk a t=lk b t):a=b:=
 List.ext_getElem hl λt h1 h2=>by have:=h t h1;rw[pY a t h1,pY b t h2]at this;exact this
theorem E4{n:Nat}{l:List dR}{t:dR}(h:∀c∈t.changes,ki n c=true):jz (kZ n l) t.changes=kZ n (l++[t]):=by
 have hl:=uG n l
 have h':∀c∈t.changes,ki (kZ n l).length c=true:=λc hc=>by rw[hl];exact h c hc
 refine bWb (by rw[tW,uG,uG]) λi hi=>?_
 rw[tW,hl]at hi
 rw[Uh h' i (by rw[hl];exact hi),EZ l i hi,EZ _ i hi]
 unfold mA
 simp
theorem I5(n:Nat):kZ n []=List.replicate n []:=by
 unfold kZ mA
 refine List.ext_getElem (by simp) λi h1 h2=>by simp
structure Dd(n:Nat)(all:List dR):Prop where
 may:∀t∈all,iM t=true
 aI:∀i (h:i<all.length),all[i].aI=(i:Int)+1
 ch:∀t∈all,∀c∈t.changes,ki n c=true
theorem VP{t:dR}(h:iM t=true):l6 (l4 t)= .ok t:=N5 h
theorem TA{n:Nat}{all:List dR}(h:Dd n all)(m:Nat):∀(k j:Nat),j+k=all.length->n3 n m ((all.drop j).map l4) ((j:Int)+1) (kZ n (all.take (max j m)))=some (kZ n (all.take (max all.length m)))
 | 0,j,hj=>by
  rw[List.drop_eq_nil_of_le (by omega),show j=all.length by omega];rfl
 | k+1,j,hj=>by
  have hl:j<all.length:=by omega
  have ih:=TA h m k (j+1) (by omega)
  have hm:=h.may _ (List.getElem_mem hl)
  have na:=h.ch _ (List.getElem_mem hl)
  rw[List.drop_eq_getElem_cons hl,List.map_cons,n3,VP hm]
  simp only
  rw[if_pos ⟨h.aI j hl,λc hc=>(of_decide_eq_true (na c hc)).2⟩]
  have e:(if (m:Int)<(j:Int)+1 then jz (kZ n (all.take (max j m))) all[j].changes else kZ n (all.take (max j m)))=kZ n (all.take (max (j+1) m)):=by
   split
   ·rw[show max j m=j by omega,show max (j+1) m=j+1 by omega,E4 na,List.take_succ_eq_append_getElem hl]
   ·rw[show max j m=m by omega,show max (j+1) m=m by omega]
  rw[e,show (j:Int)+1+1=((j+1:Nat):Int)+1 by omega]
  exact ih
theorem Ui{n:Nat}:∀(k:Nat) (l:List dR),l.length=k->(∀t∈l,iM t=true)->(∀t∈l,∀c∈t.changes,ki n c=true)->(∀C∈kZ n l,oN C)
 | 0,l,hl,_,_=>by
  rw[List.eq_nil_of_length_eq_zero hl,I5]
  intro C hC
  rw[List.eq_of_mem_replicate hC];exact TE
 | k+1,l,hl,h1,h2=>by
  have iW:l≠[]:=λe=>by rw[e]at hl;cases hl
  obtain⟨l',t,rfl⟩:∃l' t,l=l'++[t]:=⟨l.dropLast,l.getLast iW,(List.dropLast_concat_getLast iW).symm⟩
  have na:=h2 t (by simp)
  rw[List.length_append,List.length_singleton]at hl
  rw[<- E4 na]
  exact FC (k:=8) (Ui k l' (by omega) (λx hx=>h1 x (by simp[hx])) λx hx=>h2 x (by simp[hx])) (λc hc=>(nW (h1 t (by simp))).2.2.2.2.2.1 c hc) λc hc=>by rw[uG];exact na c hc
theorem bWa{n:Nat}{l:List dR}(h1:∀t∈l,iM t=true)(h2:∀t∈l,∀c∈t.changes,ki n c=true):∀C∈kZ n l,oN C:=Ui l.length l rfl h1 h2
structure Laid(g:g8)(d:DS)(f n:Int)(es:List (List UInt8)):Prop where
 chain:lB f n g.bR
 nT:iK g.bR=es
 files:d.R=g.bR.map mh
 nil:g.bR=[]->f=g.base/\n=1
 base:g.base<=f
 b0:0<=g.base
 b1:g.base<=12288
 s0:64<=g.size
 s1:g.size<=65536
 n1:1<=n
 fi:f+es.length+2<=g.base+4096
 ia:g.ia=none
theorem sW.laid{g:g8}{d:DS}{f n:Int}{es:List (List UInt8)}(h:sW g d f n es):Laid g d f n es:=⟨h.chain,h.nT,h.files,h.nil,h.base,h.b0,h.b1,h.s0,h.s1,h.n1,h.fi,h.ia⟩
theorem Laid.inv{g:g8}{d:DS}{f n:Int}{es:List (List UInt8)}(h:Laid g d f n es)(ho:d.off=false):sW g d f n es:=⟨h.chain,h.nT,h.files,h.nil,h.base,h.b0,h.b1,h.s0,h.s1,h.n1,h.fi,ho,h.ia⟩
def VB(n:Nat)(x:PF):Prop:=∀y,lO x.b=some y->y.2.length≠n
structure vD(n:Nat)(all:List dR)(I:List PF)(kd:Int)(m:Nat):Prop where
 sorted:kf PF.id I
 ids:∀x∈I,x.id=0\/x.id=1
 safe:∀x∈I,x.safe=x.b.length
 none_:kd = -1->m=0
 new:kd = -1\/kd=0\/kd=1
 le:m<=all.length
 some_:kd≠-1->∃x∈I,x.id=kd/\x.b=gR (vl m (kZ n (all.take m)))
 other:∀x∈I,x.id≠kd->VB n x\/∃y,lO x.b=some y/\y.1<m/\kd≠-1
theorem aIl{R:List PF}(hs:kf PF.id R){n:Nat}{f:Int}:lE R n f=none\/∃x∈R,x.id=f/\∃y,lO x.b=some y/\y.2.length=n/\lE R n f=some y:=by
 unfold lE
 cases hg:ij PF.id R f with
 | none=>exact .inl rfl
 | some x=>
  have hx:=ug hg
  simp only
  cases hd:lO x.b with
  | none=>exact .inl rfl
  | some y=>
   simp only
   by_cases hl:y.2.length=n
   ·exact .inr ⟨x,hx.1,hx.2,y,hd,hl,by rw[if_pos hl]⟩
   ·exact .inl (if_neg hl)
theorem aIm{R:List PF}(hs:kf PF.id R){n:Nat}{x:PF}(hx:x∈R){y:Int × kq}(hd:lO x.b=some y)(hl:y.2.length=n):lE R n x.id=some y:=by
 unfold lE
 rw[Aq hs hx]
 simp only[hd]
 rw[if_pos hl]
theorem vD.load{n:Nat}{all:List dR}{I:List PF}{kd:Int}{m:Nat}(h:vD n all I kd m)(hm:∀j,j<=all.length->lg j (kZ n (all.take j))=true):pz I n=(kd,(m:Int),kZ n (all.take m)):=by
 have hn:kd≠-1->lE I n kd=some ((m:Int),kZ n (all.take m)):=λiW=>by
  obtain⟨x,hx,hf,hb⟩:=h.some_ iW
  rw[<- hf]
  exact aIm h.sorted hx (by rw[hb];exact Wu (hm m h.le)) (uG _ _)
 have ho:∀f,f≠kd->lE I n f=none\/∃y,lE I n f=some y/\y.1<m/\kd≠-1:=λf hf=>by
  rcases aIl h.sorted (n:=n) (f:=f) with e|⟨x,hx,Ee,y,h1,h2,h3⟩
  ·exact .inl e
  ·rcases h.other x hx (by rw[Ee];exact hf) with hb|⟨z,hz,h4,h5⟩
   ·exact absurd h2 (hb y h1)
   ·rw[h1]at hz;cases hz
    exact .inr ⟨y,h3,h4,h5⟩
 unfold pz
 rcases h.new with e|e|e
 ·have Rv:=h.none_ e
  have o0:lE I n 0=none:=by
   rcases ho 0 (by rw[e];decide) with h1|⟨_,_,_,h1⟩
   ·exact h1
   ·exact absurd e h1
  have o1:lE I n 1=none:=by
   rcases ho 1 (by rw[e];decide) with h1|⟨_,_,_,h1⟩
   ·exact h1
   ·exact absurd e h1
  unfold jE
  rw[o0,o1,e,Rv]
  simp only[List.take_zero,I5]
  rfl
 ·have hn:=hn (by rw[e];decide)
  rw[e]at hn
  have h0:jE I n 0 (-1,0,List.replicate n [])=(0,(m:Int),kZ n (all.take m)):=by
   unfold jE;rw[hn];simp
  rw[h0,e]
  unfold jE
  rcases ho 1 (by rw[e];decide) with h1|⟨y,h1,h2,_⟩
  ·rw[h1]
  ·rw[h1]
   simp only
   rw[if_pos ⟨by decide,by omega⟩]
 ·have hn:=hn (by rw[e];decide)
  rw[e]at hn
  rcases ho 0 (by rw[e];decide) with h1|⟨y,h1,h2,_⟩
  ·have h0:jE I n 0 (-1,0,List.replicate n [])=(-1,0,List.replicate n []):=by unfold jE;rw[h1]
   rw[h0,e]
   unfold jE;rw[hn];simp
  ·have h0:jE I n 0 (-1,0,List.replicate n [])=(0,y.1,y.2):=by unfold jE;rw[h1];simp
   rw[h0,e]
   unfold jE;rw[hn]
   simp only
   rw[if_neg (by omega)]
def Jp(n:Nat)(all:List dR):Prop:=∀j,j<=all.length->lg j (kZ n (all.take j))=true
structure wK(n:Nat)(k:fR)(all:List dR)(tr:Nat)(I:List PF)(d0:DS)(f:Int)(lo m:Nat):Prop where
 OE:k.d=kQ I [] d0
 b8:jJ 16 4112 I [] d0.R
 log:Laid k.g d0 f ((lo:Int)+1) ((all.drop lo).map l4)
 base:k.g.base=16
 HL:vD n all I k.kd m
 image:k.image=m
 lom:lo<=m
 cw9:lo<=tr
 ts:k.ts=kZ n all
 file:f<=16+lo
theorem vD.mono{n:Nat}{all:List dR}{I:List PF}{kd:Int}{m:Nat}(h:vD n all I kd m)(l:List dR):vD n (all++l) I kd m:=
 ⟨h.sorted,h.ids,h.safe,h.none_,h.new,by have:=h.le;rw[List.length_append];omega,λhn=>by rw[List.take_append_of_le_length h.le];exact h.some_ hn,h.other⟩
theorem aR6{I M:List PF}(hI:∀x∈I,x.id=0\/x.id=1)(hM:∀x∈M,16<=x.id)(n:Nat):pz (I++M++[]) n=pz I n:=by
 have hw:jJ 0 16 [] M I:=⟨by simp,λx hx=>by rcases hI x hx with h|h<;>omega,hM⟩
 have hg:∀f:Int,0<=f->f<16->lE (I++M++[]) n f=lE I n f:=λf h0 h1=>by
  unfold lE
  have:=hw.get h0 h1
  rw[List.nil_append]at this
  rw[List.append_nil,this]
 unfold pz jE
 rw[hg 0 (by decide) (by decide),hg 1 (by decide) (by decide)]
theorem bFd{n:Nat}{all:List dR}(h:Dd n all){lo m:Nat}(h1:lo<=m)(h2:m<=all.length):n3 n m ((all.drop lo).map l4) ((lo:Int)+1) (kZ n (all.take m))=some (kZ n all):=by
 have:=TA h m (all.length-lo) lo (by omega)
 rw[show max lo m=m by omega,show max all.length m=all.length by omega,List.take_length]at this
 exact this
theorem a7u{n:Nat}(n1:1<=n)(n8:n<=8){all:List dR}(ht:Dd n all)(hi:Jp n all){I:List PF}{d1 d2:DS}{g:g8}{size:Int}(ho:kE d1 16 size=(d2,.ok g))(hw:jJ 16 4112 I [] d1.R){f kd:Int}{lo m tr:Nat}
  (hl:sW g d2 f ((lo:Int)+1) ((all.drop lo).map l4)) (hb:g.base=16) (sF:vD n all I kd m) (Rt:lo<=m) (ix:lo<=tr) (hf:f<=16+lo) :
  r_ (kQ I [] d1) n size=(kQ I [] d2,.ok ⟨g,kQ I [] d2,kZ n all,kd,m⟩)/\wK n ⟨g,kQ I [] d2,kZ n all,kd,m⟩ all tr I d2 f lo m:=by
 obtain⟨e,HE⟩:=a7r (base:=16) (size:=size) (A:=I) (B:=[]) (d:=d1) hw
 rw[ho]at e HE
 have rr:pz (kQ I [] d2).R n=(kd,(m:Int),kZ n (all.take m)):=by
  show pz (I++d2.R++[]) n=_
  rw[aR6 sF.ids λx hx=>(HE.m x hx).1]
  exact sF.load hi
 have uw:=sF.le
 have pP:=hl.head
 rw[List.length_map,List.length_drop]at pP
 have wa:jB g.bR=(lo:Int)+1:=by
  by_cases hs:g.bR=[]
  ·rw[hs]
   have:=(hl.nil hs).2
   show (1:Int)=_
   omega
  ·exact hl.chain.low hs
 refine⟨?_,⟨rfl,HE,hl.laid,hb,sF,rfl,Rt,ix,rfl,hf⟩⟩
 unfold r_
 rw[if_neg (by omega),e]
 simp only[Int.toNat_natCast]
 rw[rr,hl.nT,wa]
 simp only
 rw[bFd ht Rt uw]
 simp only
 rw[if_pos ⟨by omega,by omega⟩]
theorem Laid.Xw{g:g8}{d:DS}{f n:Int}{es:List (List UInt8)}(h:Laid g d f n es)(hb:g.base=16):x' 16 4112 g:=by
 have hle:=h.chain.Er
 rw[h.nT]at hle
 have vd:=h.fi
 have hba:=h.base
 refine⟨by omega,by omega,λs hs=>?_,λx hx=>by rw[h.ia]at hx;cases hx⟩
 have:=h.chain.Af.mem (x:=mh s) (List.mem_map_of_mem hs)
 rw[List.length_map]at this
 have h1:(mh s).id=s.file:=rfl
 omega
theorem WR{t:dR}(h:iM t=true):(l4 t).length<=2000:=Nat.le_trans (Dn h) (by decide)
theorem wK.head{n:Nat}{k:fR}{all:List dR}{tr:Nat}{I:List PF}{d0:DS}{f:Int}{lo m:Nat}(h:wK n k all tr I d0 f lo m)(ho:k.d.off=false):b9 k.g.bR=all.length:=by
 have hl:=h.log.inv (by have:=h.OE;rw[this]at ho;exact ho)
 have hm:=h.HL.le
 have:=h.lom
 rw[hl.head,List.length_map,List.length_drop];omega
theorem HN:∀(C:List Row) (c:Row) (i:Nat),i<=C.length->(∀j (h:j<C.length),j<i->C[j].key<c.key)->(∀h:i<C.length,c.key<=C[i].key) ->
  km C c=C.take i++[c]++C.drop (if ∃h:i<C.length,C[i].key=c.key then i+1 else i)
 | [],c,i,hi,_,_=>by
  have:i=0:=by simpa using hi
  subst this;simp[km]
 | x::C,c,0,_,_,h2=>by
  have hx:=h2 (by simp)
  simp only[List.getElem_cons_zero]at hx
  have:¬x.key<c.key:=by omega
  by_cases he:x.key=c.key
  ·simp[km,he]
  ·simp[km,this,he]
 | x::C,c,i+1,hi,h1,h2=>by
  have hx:x.key<c.key:=h1 0 (by simp) (by omega)
  have ih:=HN C c i (by simpa using hi) (λj h hj=>by have:=h1 (j+1) (by simpa using h) (by omega);simpa using this) (λh=>by have:=h2 (by simpa using h);simpa using this)
  simp only[km,hx,if_true,ih,List.length_cons,List.getElem_cons_succ,Nat.add_lt_add_iff_right]
  split<;>simp
theorem F0:∀(C:List Row) (k:Int) (i:Nat) (h:i<C.length),(∀j (h:j<C.length),j<i->C[j].key≠k)->C[i].key=k->lS C k=C.take i++C.drop (i+1)
 | x::C,k,0,_,_,h2=>by simp at h2;simp[lS,h2]
 | x::C,k,i+1,h,h1,h2=>by
  have hx:x.key≠k:=h1 0 (by simp) (by omega)
  have ih:=F0 C k i (by simpa using h) (λj h hj=>by have:=h1 (j+1) (by simpa using h) (by omega);simpa using this) (by simpa using h2)
  simp[lS,hx,ih]
theorem F1:∀(C:List Row) (k:Int),(∀j (h:j<C.length),C[j].key≠k)->lS C k=C
 | [],k,_=>rfl
 | x::C,k,h=>by
  have hx:x.key≠k:=h 0 (by simp)
  simp[lS,hx,F1 C k (λj hj=>by have:=h (j+1) (by simpa using hj);simpa using this)]
theorem qo(H:bw)(v:Value)(C:List Row)(key:Int)(hC:gi H 2 v C.length (C.map iq).flatten)(hn:C.length<=1000000):
  SP 168 [v,.int .i64 key] [.mem H] (λr post=>∃(u:Value) (b:Bool) (H':bw),H.le H'/\r= .tuple #[u,.bool b]/\gi H' 2 u (lS C key).length ((lS C key).map iq).flatten/\post=[.mem H']):=by
 intro W F w hS;apply b4j;delta Kr aF a7 ai cI;(try simp only[app]at hS)
 refine⟨λus w=>∃i:Nat,us=[.int .i64 i]/\i<=C.length/\(∀j (h:j<C.length),j<i->C[j].key≠key)/\SL W (.mem H::F) w,λus _=>match us with|[.int _ i]=>(C.length-i).toNat|_=>0,⟨0,rfl,by omega,λj h hj=>by omega,hS⟩,?_⟩
 clear hS
 rintro v6 w ⟨i,cW,hi,iW,hS⟩
 cases cW
 refine zo hC ?_
 refine bW (λh=>?_) (λh=>?_)
 ·have b3:i<C.length:=by omega
  refine zH hS Xh jY hC (x:=C[i]) (by simp[b3]) b3 (i:=0) rfl ?_
  refine bW (λhe=>?_) (λhe=>?_)
  ·refine yR hS ?_
   clear hS;intro w hS
   refine Qo hC hi (λv23 kz=>?_)
   rw[sC jY]at kz
   refine Gp ?_
   refine QI hC (k:=i+1) (by omega) (λv28 BS=>?_)
   rw[rT jY]at BS
   refine zz hS (cells:=[]) rfl ?_
   clear hS;intro b1 w hS
   have hS:=a_.full (n:=0) (sz:=2) rfl hS
   refine zx (n:=0) (m:=i) hS Xr (si hS Xh kz) (by rw[mH jY,List.length_take];omega) rfl (pT Aj _) (by omega) (by omega) ?_
   clear hS;intro u1 w hS
   refine zx (n:=0+i) (m:=C.length-(i+1)) hS Xr (si hS Xh BS) (by rw[mH jY,List.length_drop]) rfl (pT Aj _) (by omega) (by omega) ?_
   clear hS;intro u2 w hS
   have hd:=F0 C key i b3 iW he
   have hl:(lS C key).length=0+i+(C.length-(i+1)):=by rw[hd];simp only[List.length_append,List.length_take,List.length_drop];omega
   have hf:[]++((C.take i).map iq).flatten++((C.drop (i+1)).map iq).flatten=((lS C key).map iq).flatten:=by rw[hd];simp
   rw[hf,<- hl]at hS
   obtain⟨H2,iB,hR,hS⟩:=zE (H:=H) (v:=u2) hS Xp
   exact⟨_,⟨u2,true,H2,iB,rfl,hR,rfl⟩,aR hS⟩
  ·refine Gp ?_
   refine⟨⟨i+1,rfl,by omega,λj h hj=>?_,hS⟩,by dsimp only;omega⟩
   rcases Nat.lt_or_ge j i with k9|k9
   ·exact iW j h k9
   ·obtain rfl:j=i:=by omega
    exact he
 ·have hd:=F1 C key (λj hj=>iW j hj (by omega))
  rw[hd]
  exact⟨_,⟨v,false,H,bw.le_refl H,rfl,hC,rfl⟩,hS⟩
theorem qp(H:bw)(v:Value)(C:List Row)(key:Int)(val:ByteArray)(hC:gi H 2 v C.length (C.map iq).flatten)(hn:C.length<=1000000):
  SP 169 [v,.int .i64 key,.string val] [.mem H] (λr post=>∃(u:Value) (b:Bool) (H':bw),H.le H'/\r= .tuple #[u,.bool b]/\gi H' 2 u (km C ⟨key,val⟩).length ((km C ⟨key,val⟩).map iq).flatten/\post=[.mem H']):=by
 intro W F w hS;apply b4k;delta Ks aF a7 ai cI;(try simp only[app]at hS)
 refine⟨λus w=>∃i:Nat,us=[.int .i64 i]/\i<=C.length/\(∀j (h:j<C.length),j<i->C[j].key<key)/\(∀h:i<C.length,key<=C[i].key)/\SL W (.mem H::F) w,?_,?_⟩
 ·refine⟨λus w=>∃i:Nat,us=[.int .i64 i]/\i<=C.length/\(∀j (h:j<C.length),j<i->C[j].key<key)/\SL W (.mem H::F) w,λus _=>match us with|[.int _ i]=>(C.length-i).toNat|_=>0,⟨0,rfl,by omega,λj h hj=>by omega,hS⟩,?_⟩
  clear hS
  rintro v8 w ⟨i,cW,hi,ix,hS⟩
  cases cW
  refine zo hC ?_
  refine Gp ?_
  refine za (λh=>?_) (λh=>⟨i,rfl,hi,ix,λh=>by omega,hS⟩)
  have b3:i<C.length:=by omega
  refine zH hS Xh jY hC (x:=C[i]) (by simp[b3]) b3 (i:=0) rfl ?_
  refine Gp ?_
  refine za (λhe=>?_) (λhe=>⟨i,rfl,hi,ix,λh=>by omega,hS⟩)
  refine Gp ?_
  refine⟨⟨i+1,rfl,by omega,λj h hj=>?_,hS⟩,by dsimp only;omega⟩
  rcases Nat.lt_or_ge j i with k9|k9
  ·exact ix j h k9
  ·obtain rfl:j=i:=by omega
   exact he
 ·clear hS
  rintro v8 w ⟨i,cW,hi,ix,sE,hS⟩
  cases cW
  have AF:=HN C ⟨key,val⟩ i hi ix sE
  refine zz hS (cells:=[]) rfl ?_
  clear hS;intro b1 w hS
  have hS:=a_.full (n:=0) (sz:=2) rfl hS
  refine Qo hC hi (λv28 BS=>?_)
  rw[sC jY]at BS
  refine zx (n:=0) (m:=i) hS Xr (si hS Xh BS) (by rw[mH jY,List.length_take];omega) rfl (pT Aj _) (by omega) (by omega) ?_
  clear hS;intro u1 w hS
  refine Gm λb w hS=>?_
  refine zx (n:=0+i) (m:=1) hS Xr (lP (cs:=iq ⟨key,val⟩) hS .hd rfl) rfl rfl (Aj _) (by omega) (by omega) ?_
  clear hS;intro u2 w hS
  refine zo hC ?_
  refine Gp ?_
  have nI:∀(j:Nat) (v':Value) (b:Bool) (w:World),j<=C.length->km C ⟨key,val⟩=C.take i++[⟨key,val⟩]++C.drop j->gi H 2 v' (C.length-j) ((C.drop j).map iq).flatten ->
    SL W (.ob (a_ u2 52 2 (0+i+1) ([]++((C.take i).map iq).flatten++iq ⟨key,val⟩))::.mem H::F) w ->
    zu 2 24 [.int .i64 0,.string ⟨#[]⟩] 52 u2 v' w λE_ Je=>∃post,(∃(u:Value) (b':Bool) (H':bw),H.le H'/\(.tuple #[E_,.bool b]:Value)= .tuple #[u,.bool b']/\gi H' 2 u (km C ⟨key,val⟩).length ((km C ⟨key,val⟩).map iq).flatten/\post=[.mem H'])/\SL W (app post F) Je:=by
   intro j v' b w hj hI pQ hS
   refine zx (n:=0+i+1) (m:=C.length-j) hS Xr (si hS Xh pQ) (by rw[mH jY,List.length_drop]) rfl (pT Aj _) (by omega) (by omega) ?_
   clear hS;intro u3 w hS
   have hl:(km C ⟨key,val⟩).length=0+i+1+(C.length-j):=by rw[hI];simp only[List.length_append,List.length_take,List.length_drop,List.length_singleton];omega
   have hf:[]++((C.take i).map iq).flatten++iq ⟨key,val⟩++((C.drop j).map iq).flatten=((km C ⟨key,val⟩).map iq).flatten:=by rw[hI];simp
   rw[hf,<- hl]at hS
   obtain⟨H2,iB,hR,hS⟩:=zE (H:=H) (v:=u3) hS Xp
   exact⟨_,⟨u3,b,H2,iB,rfl,hR,rfl⟩,aR hS⟩
  refine za (λh=>?_) (λh=>?_)
  ·have b3:i<C.length:=by omega
   refine zH hS Xh jY hC (x:=C[i]) (by simp[b3]) b3 (i:=0) rfl ?_
   refine bW (λhe=>?_) (λhe=>?_)
   ·rw[if_pos ⟨b3,he⟩]at AF
    refine Gp ?_
    refine QI hC (k:=i+1) (by omega) (λv53 vT=>?_)
    rw[rT jY]at vT
    exact nI (i+1) v53 false w (by omega) AF vT (aR hS)
   ·rw[if_neg (λx=>he x.2)]at AF
    refine QI hC (k:=i) (by omega) (λv53 vT=>?_)
    rw[rT jY]at vT
    exact nI i v53 true w (by omega) AF vT (aR hS)
  ·rw[if_neg (λx=>by obtain⟨h9,_⟩:=x;omega)]at AF
   refine QI hC (k:=i) (by omega) (λv53 vT=>?_)
   rw[rT jY]at vT
   exact nI i v53 true w (by omega) AF vT (aR hS)
def mE(H:bw)(vs:List Value)(ts:List (List Row)):Prop:=vs.length=ts.length/\∀(i:Nat) (v:Value) (C:List Row),vs[i]?=some v->ts[i]?=some C->gi H 2 v C.length (C.map iq).flatten
theorem mE.mono{H H':bw}{vs:List Value}{ts:List (List Row)}(hh:H.le H')(h:mE H vs ts):mE H' vs ts:=⟨h.1,λi v C h1 h2=>(h.2 i v C h1 h2).mono hh⟩
theorem mE.set{H:bw}{vs:List Value}{ts:List (List Row)}(h:mE H vs ts){t:Nat}{v:Value}{C:List Row}(hv:gi H 2 v C.length (C.map iq).flatten):mE H (vs.set t v) (ts.set t C):=by
 refine⟨by simpa using h.1,λi v' C' h1 h2=>?_⟩
 rw[List.getElem?_set]at h1 h2
 split at h1
 ·split at h1
  ·cases h1;rename_i e hl;simp only[e,if_true]at h2;split at h2
   ·cases h2;exact hv
   ·cases h2
  ·cases h1
 ·rename_i e;simp only[e,if_false]at h2;exact h.2 i v' C' h1 h2
def wJ(H:bw)(r:Nat)(ts:List (List Row)):zC:=mX λx:Nat × List Value=>zQ (mE H x.2 ts/\ts.length<=8)
 [.pt r [.slice (some ⟨x.1,0,none⟩) ts.length ts.length] 157,.pt x.1 x.2 53]
theorem wJ.iff{W w:World}{H:bw}{r:Nat}{ts:List (List Row)}{l:List Chunk}:SL W (.ob (wJ H r ts)::l) w↔∃(bv:Nat) (vs:List Value),(mE H vs ts/\ts.length<=8) /\
  SL W (.pt r [.slice (some ⟨bv,0,none⟩) ts.length ts.length] 157::.pt bv vs 53::l) w:=by
 unfold wJ
 simp only[SL.ex,SL.fact,List.cons_append,List.nil_append]
 constructor
 ·rintro ⟨⟨bv,vs⟩,h1,h2⟩;exact⟨bv,vs,h1,h2⟩
 ·rintro ⟨bv,vs,h1,h2⟩;exact⟨⟨bv,vs⟩,h1,h2⟩
theorem aW7(H:bw)(n:Nat)(h1:1<=n)(h2:n<=8):SP 75 [.int .i64 n] [] (λv post=>∃r:Nat,v= .pointer (some ⟨r,0,none⟩)/\post=[.ob (wJ H r (List.replicate n []))]):=by
 intro W F w hS;apply b87;delta Na aF ai eI bI;(try simp only[app]at hS)
 refine Gp ?_
 refine za (λh=>by omega) (λ_=>?_)
 refine Gp ?_
 refine za (λh=>by omega) (λ_=>?_)
 refine EP hS (by omega) (by omega) (by omega) ?_
 clear hS;intro bv w hS
 refine Gp ?_
 refine⟨_,rfl,zJ hS ?_⟩
 clear hS;intro r w hS
 have hz:b_ [.slice none 0 0] n=List.replicate n (.slice none 0 0:Value):=by simp[b_]
 rw[hz]at hS
 have hS:SL W (.ob (wJ H r (List.replicate n []))::F) w:=wJ.iff.2 ⟨bv,List.replicate n (.slice none 0 0),⟨⟨by simp,λi v C h1 h2=>by
  rw[List.getElem?_replicate]at h1 h2
  split at h1
  ·cases h1;split at h2
   all_goals first|(cases h2;exact gi.nil H 2)|(cases h2)
  ·cases h1⟩,by simpa using h2⟩,by rw[List.length_replicate];exact hS⟩
 exact⟨_,⟨r,rfl,rfl⟩,hS⟩
structure AtR(C:List Row)(key:Int)(i:Nat):Prop where
 le:i<=C.length
 lo:∀j (h:j<C.length),j<i->C[j].key<key
 hi:∀h:i<C.length,key<=C[i].key
def nK(C:List Row)(key:Int)(i:Nat):Bool:=decide (∃h:i<C.length,C[i].key=key)
theorem AtR.gt{C:List Row}{key:Int}{i:Nat}(h:AtR C key i)(hs:ke C):∀j (hj:j<C.length),i<j->key<C[j].key:=λj hj vg=>by
 have h1:=h.hi (by omega)
 have:=List.pairwise_iff_getElem.1 hs i j (by omega) hj vg
 omega
theorem AtR.up{C:List Row}{key:Int}{i:Nat}(h:AtR C key i)(hs:ke C)(hn:nK C key i=false):∀j (hj:j<C.length),i<=j->key<C[j].key:=λj hj vg=>by
 rcases Nat.lt_or_ge i j with h1|h1
 ·exact h.gt hs j hj h1
 ·obtain rfl:j=i:=by omega
  have h1:=h.hi hj
  have h2:¬C[j].key=key:=λe=>of_decide_eq_false hn ⟨hj,e⟩
  omega
theorem AtR.ins{C:List Row}{key:Int}{i:Nat}(h:AtR C key i)(v:ByteArray):km C ⟨key,v⟩=if nK C key i=true then C.set i ⟨key,v⟩ else C.take i++[⟨key,v⟩]++C.drop i:=by
 rw[HN C ⟨key,v⟩ i h.le h.lo h.hi]
 by_cases hk:∃h:i<C.length,C[i].key=key
 ·rw[if_pos hk,if_pos (show nK C key i=true from decide_eq_true hk)]
  rw[List.set_eq_take_append_cons_drop,if_pos hk.1];simp
 ·rw[if_neg hk,if_neg (by simpa [nK] using hk)]
theorem AtR.del{C:List Row}{key:Int}{i:Nat}(h:AtR C key i)(hs:ke C):lS C key=if nK C key i=true then C.take i++C.drop (i+1) else C:=by
 cases hk:nK C key i with
 | true=>
  obtain⟨hi,e⟩:=of_decide_eq_true hk
  rw[if_pos rfl]
  exact F0 C key i hi (λj hj k9=>by have:=h.lo j hj k9;omega) e
 | false=>
  rw[if_neg (by decide)]
  refine F1 C key λj hj=>?_
  rcases Nat.lt_or_ge j i with h1|h1
  ·have:=h.lo j hj h1;omega
  ·have:=h.up hs hk j hj h1;omega
theorem AtR.get{C:List Row}{key:Int}{i:Nat}(h:AtR C key i)(hs:ke C):(jC C key).isSome=nK C key i/\∀hi:i<C.length,C[i].key=key->jC C key=some C[i].val:=by
 have h2:∀hi:i<C.length,C[i].key=key->jC C key=some C[i].val:=λhi e=>by
  unfold jC
  have:C.find? (λc=>decide (c.key=key))=some C[i]:=by
   rw[List.find?_eq_some_iff_getElem]
   refine⟨by simpa using e,i,hi,rfl,λj hj=>?_⟩
   have:=h.lo j (by omega) hj
   simp;omega
  rw[this];rfl
 refine⟨?_,h2⟩
 cases hk:nK C key i with
 | true=>
  obtain⟨hi,e⟩:=of_decide_eq_true hk
  rw[h2 hi e];rfl
 | false=>
  unfold jC
  have:C.find? (λc=>decide (c.key=key))=none:=by
   rw[List.find?_eq_none]
   intro x hx
   obtain⟨j,hj,rfl⟩:=List.getElem_of_mem hx
   rcases Nat.lt_or_ge j i with h1|h1
   ·have:=h.lo j hj h1;simp;omega
   ·have:=h.up hs hk j hj h1;simp;omega
  rw[this];rfl
theorem Gh:∀(C:List Row) (key:Int) (k:Nat),(∀j (h:j<C.length),j<k->C[j].key<=key)->(∀j (h:j<C.length),k<=j->key<C[j].key)->C.filter (λr=>decide (key<r.key))=C.drop k
 | [],key,k,_,_=>by simp
 | x::C,key,0,_,h2=>by
  rw[List.drop_zero,List.filter_eq_self]
  intro y hy
  obtain⟨j,hj,rfl⟩:=List.getElem_of_mem hy
  exact decide_eq_true (h2 j hj (Nat.zero_le _))
 | x::C,key,k+1,h1,h2=>by
  have hx:x.key<=key:=h1 0 (by simp) (by omega)
  rw[List.filter_cons,if_neg (by simp;omega),List.drop_succ_cons]
  exact Gh C key k (λj h hj=>by have:=h1 (j+1) (by simpa using h) (by omega);simpa using this) (λj h hj=>by have:=h2 (j+1) (by simpa using h) (by omega);simpa using this)
theorem AtR.after{C:List Row}{key:Int}{i:Nat}(h:AtR C key i)(hs:ke C)(n:Int):lK C key n=(C.drop (if nK C key i=true then i+1 else i)).take n.toNat:=by
 unfold lK
 cases hk:nK C key i with
 | true=>
  obtain⟨hi,e⟩:=of_decide_eq_true hk
  rw[if_pos rfl,Gh C key (i+1) (λj hj k9=>?_) (λj hj k9=>h.gt hs j hj (by omega))]
  rcases Nat.lt_or_ge j i with h1|h1
  ·have:=h.lo j hj h1;omega
  ·obtain rfl:j=i:=by omega
   omega
 | false=>
  rw[if_neg (by decide),Gh C key i (λj hj k9=>by have:=h.lo j hj k9;omega) (λj hj k9=>h.up hs hk j hj k9)]
def pB(C:List Row)(l:List Row):List Row:=l.foldl km C
theorem Sa:∀(C:List Row) (r:Row),(∀x∈C,x.key<r.key)->km C r=C++[r]
 | [],r,_=>rfl
 | x::C,r,h=>by
  unfold km
  rw[if_pos (h x (.head _)),Sa C r λy hy=>h y (.tail _ hy)];rfl
theorem Tn:∀(l C:List Row),ke (C++l)->pB C l=C++l
 | [],C,_=>by simp[pB]
 | r::l,C,h=>by
  have h1:km C r=C++[r]:=Sa C r λx hx=>(List.pairwise_append.1 h).2.2 x hx r (.head _)
  show pB (km C r) l=_
  rw[h1,Tn l (C++[r]) (by simpa using h)];simp
theorem a_o{l:List Row}(h:ke l):pB [] l=l:=Tn l [] h
theorem Tm:∀(l:List Row) {C:List Row},ke C->ke (pB C l)
 | [],C,h=>h
 | r::l,C,h=>Tm l (C:=km C r) (IU h r)
theorem Tl:∀(l:List Row) (C:List Row),(pB C l).length<=C.length+l.length
 | [],C=>by simp[pB]
 | r::l,C=>by
  have h1:=Tl l (km C r)
  have h2:=HR C r
  show (pB (km C r) l).length<=_
  rw[List.length_cons];omega
theorem a_p{l:List Row}{i:Nat}(h:i<l.length)(C:List Row):pB C (l.take (i+1))=km (pB C (l.take i)) l[i]:=by
 unfold pB
 rw[List.take_succ_eq_append_getElem h,List.foldl_append];rfl
end Go.Proofs.YtfenmffiidchcaaGreat
